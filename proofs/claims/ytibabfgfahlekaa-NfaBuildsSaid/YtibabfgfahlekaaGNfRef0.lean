/- Pruned from its seat's text: what the theorem hangs on. -/
import Derived.Test.YtibabfgfahlekaaGMkPure
import Derived.Test.YtibabfgfahlekaaGNfPart
import Derived.Test.YtibabfgfahlekaaGQTattingref09Put
/- The document's Make: rows of states, what is put behind them, and what is written into them. -/
set_option linter.unusedVariables false
set_option linter.unusedSimpArgs false
namespace Go.Proofs.YtibabfgfahlekaaQ
open Go.RowKit Go.Proofs.YtibabfgfahlekaaW.PrintWords Go.Proofs.YtibabfgfahlekaaW.PrintLast Go.Proofs.Ytibabfgfahlekaa

theorem reps_flat {w : World} {base : Nat} {ok : Nat → Prop} : ∀ (sts : List St) (cs : List Value), Reps (Kd.M k72 w base ok) 7 sts cs → cs = sts.flatMap stCells
  | [], cs, h => by
    have := h.1
    simpa using this
  | s :: l, cs, h => by
    have hl := h.1
    have h0 := k72_openM (h.2 0 s rfl)
    rw [Nat.zero_mul, List.drop_zero] at h0
    have ih := reps_flat l (cs.drop 7) ⟨by rw [List.length_drop, hl, List.length_cons]; omega, fun j p hj => by
      have := h.2 (j + 1) p (by simpa using hj)
      rw [List.drop_drop]
      rw [show 7 + j * 7 = (j + 1) * 7 by omega]
      exact this⟩
    have e := (List.take_append_drop 7 cs).symm
    rw [h0, ih] at e
    exact e
theorem row_of_R {w : World} {base : Nat} {ok : Nat → Prop} {v : Value} {sts : List St} (h : Kd.R k72 72 w base ok v sts) : w.ownsRow base 72 7 v sts.length (sts.flatMap stCells) := by
  obtain ⟨_, cs, ho, hr⟩ := h
  rw [← reps_flat sts cs hr]
  exact ho
theorem reps_st1 (w : World) (base : Nat) (ok : Nat → Prop) : ∀ sts : List St, Reps (Kd.M k72 w base ok) 7 sts (sts.flatMap stCells)
  | [] => Reps.none _ _
  | s :: l => by
    rw [List.flatMap_cons]
    exact Reps.c7 (k72_mkM w base ok s) (reps_st1 w base ok l)
/-- A row of states of one's own, as the printed contracts read it. -/
theorem C_of_row {w : World} {base c : Nat} {A : Option Addr} {sts : List St} (h : w.ownsRow base 72 7 (.slice A sts.length c) sts.length (sts.flatMap stCells)) : sts.length ≤ c ∧ Kd.C k72 w A sts.length sts := by
  have hR : Kd.R k72 72 w base (fun _ => True) (.slice A sts.length c) sts := ⟨fun _ _ => trivial, sts.flatMap stCells, h, reps_st1 w base _ sts⟩
  exact (Kd.R_reads' hR).2
abbrev RowS (w : World) (base : Nat) (A : Option Addr) (c : Nat) (sts : List St) : Prop := w.ownsRow base 72 7 (.slice A sts.length c) sts.length (sts.flatMap stCells)
/-- put: a row more, and where it stands. -/
theorem rput_any (l : List St) (A : Option Addr) (c : Nat) (s : St) (w : World) (hr : Kd.C k72 w A l.length l) (hc : l.length ≤ c) (hn : l.length ≤ 1000000) :
    Calls Try.prog 60 #[.slice A l.length c, stV s] w fun e w' => ∃ A1 c1, e = .returned (.tuple #[.slice A1 (l.length + 1) c1, .int .i64 l.length]) ∧ w'.ownsRow w.heap.size 72 7 (.slice A1 (l.length + 1) c1) (l.length + 1) ((l ++ [s]).flatMap stCells) ∧ Below w.heap.size w w' := by
  have hf : tattingref09_put.f l s.f0 s.f1 s.f2 s.f3.f0 s.f3.f1 s.f3.f2 s.f3.f3 = some (l ++ [s], (l.length : Int)) := by
    unfold tattingref09_put.f
    simp only [Option.bind_some, List.length_nil, Nat.zero_add, List.nil_append, List.length_cons]
    rw [if_pos (by omega), if_pos (by omega)]
  refine (tattingref09_put.calls A c l s.f0 s.f1 s.f2 s.f3.f0 s.f3.f1 s.f3.f2 s.f3.f3 _ _ w hr hc hf).mono ?_
  rintro e w' ⟨v0, rfl, hR, hb⟩
  have ho := row_of_R hR
  rw [show (l ++ [s]).length = l.length + 1 by simp] at ho
  obtain ⟨A1, c1, rfl⟩ := Go.Proofs.Ytibabfgfahlekaa.own_slice ho
  exact ⟨A1, c1, rfl, ho, hb⟩
theorem rput_row (l : List St) (base : Nat) (A : Option Addr) (c : Nat) (s : St) (w : World) (hr : RowS w base A c l) (hn : l.length ≤ 1000000) :
    Calls Try.prog 60 #[.slice A l.length c, stV s] w fun e w' => ∃ A1 c1, e = .returned (.tuple #[.slice A1 (l.length + 1) c1, .int .i64 l.length]) ∧ w'.ownsRow w.heap.size 72 7 (.slice A1 (l.length + 1) c1) (l.length + 1) ((l ++ [s]).flatMap stCells) ∧ Below w.heap.size w w' := by
  obtain ⟨hc, hr⟩ := C_of_row hr
  exact rput_any l A c s w hr hc hn
theorem rput_n (l : List St) (n : Nat) (hn : n = l.length) (base : Nat) (A : Option Addr) (c : Nat) (s : St) (w : World) (hr : w.ownsRow base 72 7 (.slice A n c) n (l.flatMap stCells)) (hl : n ≤ 1000000) :
    Calls Try.prog 60 #[.slice A n c, stV s] w fun e w' => ∃ A1 c1, e = .returned (.tuple #[.slice A1 (n + 1) c1, .int .i64 n]) ∧ w'.ownsRow w.heap.size 72 7 (.slice A1 (n + 1) c1) (n + 1) ((l ++ [s]).flatMap stCells) ∧ Below w.heap.size w w' := by
  subst hn
  exact rput_row l base A c s w hr hl
theorem C_of_row' {w : World} {base n c : Nat} {A : Option Addr} {sts : List St} (h : w.ownsRow base 72 7 (.slice A n c) n (sts.flatMap stCells)) (hn : n = sts.length) : sts.length ≤ c ∧ Kd.C k72 w A sts.length sts := by
  subst hn
  exact C_of_row h
theorem part_row {w : World} {N : Nat} {a b c : Value} {t : TypeId} (h : w.heap[N]? = some (.cells #[a, b, c] t (0, 0))) : w.cell? ⟨N, 0, none⟩ = some a ∧ w.cell? ⟨N, 1, none⟩ = some b ∧ w.cell? ⟨N, 2, none⟩ = some c ∧ w.frozen? ⟨N, 0, none⟩ = false ∧ w.frozen? ⟨N, 1, none⟩ = false ∧ w.frozen? ⟨N, 2, none⟩ = false :=
  ⟨by rw [cell_of_row w N 0 _ t _ h]; rfl, by rw [cell_of_row w N 1 _ t _ h]; rfl, by rw [cell_of_row w N 2 _ t _ h]; rfl, frozen_of_row w N 0 _ t h, frozen_of_row w N 1 _ t h, frozen_of_row w N 2 _ t h⟩
/-- A store of a state's way out into a row of one's own. -/
theorem row_set {w : World} {base n c : Nat} {A : Option Addr} {sts : List St} (h : w.ownsRow base 72 7 (.slice A n c) n (sts.flatMap stCells)) (hn : n = sts.length) (k : Nat) (hk : k < sts.length) (b : Int) :
    ∃ q, A = some ⟨q, 0, none⟩ ∧ base ≤ q ∧ (∃ u, w.cell? ⟨q, k * 7 + 1, none⟩ = some u) ∧ w.frozen? ⟨q, k * 7 + 1, none⟩ = false ∧ (w.setCell ⟨q, k * 7 + 1, none⟩ (.int .i64 b)).ownsRow base 72 7 (.slice A n c) n ((putA sts k b).flatMap stCells)
      ∧ (∃ u, w.cell? ⟨q, k * 7 + 2, none⟩ = some u) ∧ w.frozen? ⟨q, k * 7 + 2, none⟩ = false ∧ (w.setCell ⟨q, k * 7 + 2, none⟩ (.int .i64 b)).ownsRow base 72 7 (.slice A n c) n ((putB sts k b).flatMap stCells) := by
  obtain ⟨q, cap, hv, hg, hlt⟩ := h.form (by omega)
  injection hv with hA _ hc
  subst hA
  subst hc
  have hx : sts[k]? = some sts[k] := List.getElem?_eq_getElem hk
  have hc1 := h.cellAt (k * 7 + 1) (by omega)
  rw [flat_at stCells 7 stCells_length sts k _ hx 1 (by omega)] at hc1
  have hc2 := h.cellAt (k * 7 + 2) (by omega)
  rw [flat_at stCells 7 stCells_length sts k _ hx 2 (by omega)] at hc2
  have hs1 := (h.stored (k * 7 + 1) (.int .i64 b)).1
  rw [flat_set stCells 7 stCells_length 1 (by omega) (.int .i64 b) sts k sts[k] ⟨sts[k].f0, b, sts[k].f2, sts[k].f3⟩ hx rfl] at hs1
  have hs2 := (h.stored (k * 7 + 2) (.int .i64 b)).1
  rw [flat_set stCells 7 stCells_length 2 (by omega) (.int .i64 b) sts k sts[k] ⟨sts[k].f0, sts[k].f1, b, sts[k].f3⟩ hx rfl] at hs2
  have e1 : putA sts k b = sts.set k ⟨sts[k].f0, b, sts[k].f2, sts[k].f3⟩ := by unfold putA; rw [hx]
  have e2 : putB sts k b = sts.set k ⟨sts[k].f0, sts[k].f1, b, sts[k].f3⟩ := by unfold putB; rw [hx]
  rw [e1, e2]
  exact ⟨q, rfl, hg, ⟨_, hc1⟩, h.frozenAt (k * 7 + 1), hs1, ⟨_, hc2⟩, h.frozenAt (k * 7 + 2), hs2⟩
/-- What Make does of a part. -/
def MakeC (L : Value) (i : Nat) (a : PMk) (n : Nat) (w0 : World) : Prop := ∀ (w : World) (sts : List St) (A : Option Addr) (c : Nat), Kd.C k72 w A sts.length sts → sts.length ≤ c → Below w0.heap.size w0 w → sts.length + n ≤ 900000 →
  Calls Try.prog 40 #[L, .int .i64 i, .slice A sts.length c] w fun e w' => ∃ A1 c1 m, e = .returned (.agg #[.slice A1 m c1, .int .i64 (a sts).first, .int .i64 (a sts).last]) ∧ m = (a sts).out.length ∧ w'.ownsRow w.heap.size 72 7 (.slice A1 m c1) m ((a sts).out.flatMap stCells) ∧ Below w.heap.size w w'
end Go.Proofs.YtibabfgfahlekaaQ
