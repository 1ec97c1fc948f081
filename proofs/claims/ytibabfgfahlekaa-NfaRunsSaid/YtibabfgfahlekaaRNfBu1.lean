/- Pruned from its seat's text: what the theorem hangs on. -/
import Derived.Test.YtibabfgfahlekaaRCore
import Derived.Test.YtibabfgfahlekaaRQ0
import Derived.Test.YtibabfgfahlekaaRNfImpl
import Derived.Deep.RegionLaw
/- The builder of automata: its small methods, walked. -/
set_option linter.unusedVariables false
set_option linter.unusedSimpArgs false
namespace Go.Proofs.YtibabfgfahlekaaQ
open Go.RowKit Go.Proofs.YtibabfgfahlekaaW.PrintWords Go.Proofs.YtibabfgfahlekaaW.PrintLast Go.Proofs.Ytibabfgfahlekaa

def stCells (s : St) : List Value := [.int .i64 s.f0, .int .i64 s.f1, .int .i64 s.f2, .int .u64 s.f3.f0, .int .u64 s.f3.f1, .int .u64 s.f3.f2, .int .u64 s.f3.f3]
def stV (s : St) : Value := .agg #[.int .i64 s.f0, .int .i64 s.f1, .int .i64 s.f2, .int .u64 s.f3.f0, .int .u64 s.f3.f1, .int .u64 s.f3.f2, .int .u64 s.f3.f3]
theorem stCells_length (s : St) : (stCells s).length = 7 := rfl
theorem stCells_one (s : St) : ∀ u ∈ stCells s, u.oneCell' = true := by
  intro u hu
  simp only [stCells, List.mem_cons, List.not_mem_nil, or_false] at hu
  rcases hu with rfl | rfl | rfl | rfl | rfl | rfl | rfl <;> rfl
theorem info_st : (Try.prog.info? 72).map (fun i => (i.zero, i.size, i.bytes)) = some (some (.agg #[.int .i64 0, .int .i64 0, .int .i64 0, .int .u64 0, .int .u64 0, .int .u64 0, .int .u64 0]), 7, 56) := by kernel_rfl
/-- The builder at block p: its tree, and the states so far, which lie behind it. -/
def Bld (w : World) (p : Nat) (L : Value) (sts : List St) : Prop := ∃ A c, w.heap[p]? = some (.cells #[L, .slice A sts.length c] 75 (0, 0)) ∧ w.ownsRow (p + 1) 72 7 (.slice A sts.length c) sts.length (sts.flatMap stCells)
theorem Bld.lt {w : World} {p : Nat} {L : Value} {sts : List St} (h : Bld w p L sts) : p < w.heap.size := by
  obtain ⟨A, c, h, _⟩ := h
  exact (Array.getElem?_eq_some_iff.1 h).1
theorem row2 {w : World} {p t : Nat} {u v : Value} (h : w.heap[p]? = some (.cells #[u, v] t (0, 0))) : w.cell? ⟨p, 0, none⟩ = some u ∧ w.cell? ⟨p, 1, none⟩ = some v ∧ w.frozen? ⟨p, 0, none⟩ = false ∧ w.frozen? ⟨p, 1, none⟩ = false :=
  ⟨by rw [cell_of_row w p 0 _ t _ h]; rfl, by rw [cell_of_row w p 1 _ t _ h]; rfl, frozen_of_row w p 0 _ t h, frozen_of_row w p 1 _ t h⟩
theorem Bld.alloc {w : World} {p : Nat} {L : Value} {sts : List St} (h : Bld w p L sts) (o : Obj) : Bld (w.alloc o) p L sts := by
  have hp := h.lt
  obtain ⟨A, c, h1, h2⟩ := h
  exact ⟨A, c, (((Below.refl (p + 1) w).alloc (by omega) o).block p (by omega)).trans h1, h2.alloc _⟩
theorem Bld.below {w w1 : World} {p B : Nat} {L : Value} {sts : List St} (h : Bld w p L sts) (hB : w.heap.size ≤ B) (hb : Below B w w1) : Bld w1 p L sts := by
  have hp := h.lt
  obtain ⟨A, c, h1, h2⟩ := h
  exact ⟨A, c, (hb.block p (by omega)).trans h1, Go.Proofs.Ytibabfgfahlekaa.own_below h2 (hb.mono hB)⟩
set_option maxRecDepth 100000 in
set_option maxHeartbeats 1600000 in
theorem state_any (p : Nat) (L : Value) (sts : List St) (s : St) (w : World) (hB : Bld w p L sts) (hn : sts.length ≤ 1000000) :
    Calls Try.prog 57 #[.pointer (some ⟨p, 0, none⟩), stV s] w fun e w' => e = .returned (.int .i64 sts.length) ∧ Bld w' p L (sts ++ [s]) ∧ Below p w w' := by
  have hp := hB.lt
  obtain ⟨A, c, hh, HO⟩ := hB
  obtain ⟨h0, h1, f0, f1⟩ := row2 hh
  have HO2 := Lib.hid ((HO.alloc (.cells #[.int .i64 s.f0, .int .i64 s.f1, .int .i64 s.f2, .int .u64 s.f3.f0, .int .u64 s.f3.f1, .int .u64 s.f3.f2, .int .u64 s.f3.f3] 72)).drew)
  have HB2 := Lib.hid (((Below.refl (p + 1) w).alloc (by omega) (.cells #[.int .i64 s.f0, .int .i64 s.f1, .int .i64 s.f2, .int .u64 s.f3.f0, .int .u64 s.f3.f1, .int .u64 s.f3.f2, .int .u64 s.f3.f3] 72)).drew)
  have HH := Lib.hid ((HB2.out.block p (by omega)).trans hh)
  have HPS := Lib.hid (Nat.lt_of_lt_of_le hp HB2.out.size)
  have hne : some p ≠ (Value.slice A sts.length c).ownBlock := fun e => by
    have := Go.Proofs.Ytibabfgfahlekaa.own_base HO p e.symm
    omega
  have HNE := Lib.hid hne
  clear HO hne h0 f0 hh
  unfold stV
  go_enter Try.func57, Try.ntmps57
  go_wp2_with fail
  go_region_law
    (refine step_append_cells (w0 := w) (base := p + 1) rfl (.tmp 9) (.tmp 11) 42 72 _ 7 56 rfl Try.underlying42 info_st rfl (by omega) (by omega) (.slice A sts.length c) sts.length (sts.flatMap stCells) (stCells s) rfl ?hx rfl ?h1 HO2.out HB2.out ?hb ?hl ?_
     case h1 => exact stCells_one s
     case hx => simp [Act.eval]
     case hb => simp; omega
     case hl => omega
     intro v1 w1 hO1 hb1 hg1 hat1
     have hh1 := (hg1.block p HPS.out HNE.out).trans HH.out
     obtain ⟨g0, g1, e0, e1⟩ := row2 hh1
     obtain ⟨A1, c1, rfl⟩ := Go.Proofs.Ytibabfgfahlekaa.own_slice hO1)
  all_goals
    have HO3 := Lib.hid hO1
    have HB3 := Lib.hid hb1
    have HH3 := Lib.hid hh1
    clear hO1 hb1 hh1 hat1 hg1
    go_wp2_with fail
    go_ret
    refine ⟨Go.Proofs.Ytibabfgfahlekaa.ret_int (by simp), ⟨A1, c1, ?_, ?_⟩, (HB3.out.mono (by omega)).setCell (by simp) _⟩
    · rw [show (sts ++ [s]).length = sts.length + 1 by simp]
      exact heap_setCell_same _ p 1 _ _ _ HH3.out
    · rw [show (sts ++ [s]).length = sts.length + 1 by simp, List.flatMap_append]
      exact ownsRow_setCell_below (by simpa using HO3.out) (by simp) _
set_option maxRecDepth 100000 in
set_option maxHeartbeats 1600000 in
theorem empty_any (p : Nat) (L : Value) (sts : List St) (w : World) (hB : Bld w p L sts) (hn : sts.length ≤ 1000000) :
    Calls Try.prog 58 #[.pointer (some ⟨p, 0, none⟩)] w fun e w' => e = .returned (.int .i64 sts.length) ∧ Bld w' p L (sts ++ [⟨2, 0, 0, ⟨0, 0, 0, 0⟩⟩]) ∧ Below p w w' := by
  have HBD := Lib.hid hB
  clear hB
  go_enter Try.func58, Try.ntmps58
  go_wp2_with fail
  refine (state_any p L sts ⟨2, 0, 0, ⟨0, 0, 0, 0⟩⟩ _ HBD.out hn).mono ?_
  rintro e w1 ⟨rfl, hB1, hb1⟩
  go_wp2_with fail
  go_ret
  exact ⟨rfl, hB1, hb1⟩
theorem flat_set {α : Type} (f : α → List Value) (size : Nat) (hf : ∀ x, (f x).length = size) (j : Nat) (hj : j < size) (u : Value) : ∀ (l : List α) (k : Nat) (x y : α), l[k]? = some x → f y = (f x).set j u → (l.flatMap f).set (k * size + j) u = (l.set k y).flatMap f
  | [], k, x, y, h, _ => by simp at h
  | z :: l, 0, x, y, h, hy => by
    obtain rfl : z = x := by simpa using h
    rw [List.flatMap_cons, List.set_cons_zero, List.flatMap_cons, Nat.zero_mul, Nat.zero_add, List.set_append_left _ _ (by rw [hf]; exact hj), hy]
  | z :: l, k + 1, x, y, h, hy => by
    have ih := flat_set f size hf j hj u l k x y (by simpa using h) hy
    rw [List.flatMap_cons, List.set_cons_succ, List.flatMap_cons, List.set_append_right _ _ (by rw [hf, Nat.succ_mul]; omega), hf, show (k + 1) * size + j - size = k * size + j by rw [Nat.succ_mul]; omega, ih]
def putA (sts : List St) (k : Nat) (a : Int) : List St := match sts[k]? with
  | some x => sts.set k ⟨x.f0, a, x.f2, x.f3⟩
  | none => sts
theorem putA_len (sts : List St) (k : Nat) (a : Int) : (putA sts k a).length = sts.length := by
  unfold putA
  split <;> simp
set_option maxRecDepth 100000 in
set_option maxHeartbeats 1600000 in
theorem to_any (p : Nat) (L : Value) (sts : List St) (k : Nat) (a : Int) (w : World) (hB : Bld w p L sts) (hn : sts.length ≤ 1000000) (hk : k < sts.length) :
    Calls Try.prog 56 #[.pointer (some ⟨p, 0, none⟩), .int .i64 k, .int .i64 a] w fun e w' => e = .returned (.tuple #[]) ∧ Bld w' p L (putA sts k a) ∧ Below p w w' := by
  have hp := hB.lt
  obtain ⟨A, c, hh, HO⟩ := hB
  obtain ⟨h0, h1, f0, f1⟩ := row2 hh
  obtain ⟨g, cap, hv, hg, hlt⟩ := HO.form (by omega)
  injection hv with hA _ hc
  subst hA
  subst hc
  have hx : sts[k]? = some sts[k] := List.getElem?_eq_getElem hk
  have hcc := HO.cellAt (k * 7 + 1) (by omega)
  rw [flat_at stCells 7 stCells_length sts k _ hx 1 (by omega)] at hcc
  have hfz := HO.frozenAt (k * 7 + 1)
  obtain ⟨hs1, hs2⟩ := HO.stored (k * 7 + 1) (.int .i64 a)
  rw [flat_set stCells 7 stCells_length 1 (by omega) (.int .i64 a) sts k sts[k] ⟨sts[k].f0, a, sts[k].f2, sts[k].f3⟩ hx rfl] at hs1
  have e1 : putA sts k a = sts.set k ⟨sts[k].f0, a, sts[k].f2, sts[k].f3⟩ := by unfold putA; rw [hx]
  have hcc2 : w.cell? ⟨g, k * 7 + 1, none⟩ = some (.int .i64 sts[k].f1) := hcc
  have HH := Lib.hid hh
  have HS1 := Lib.hid hs1
  have HS2 := Lib.hid hs2
  have HE := Lib.hid e1
  clear HO hh hs1 hs2 e1 hcc hx h0 f0 f1 hp
  go_enter Try.func56, Try.ntmps56
  go_wp2_with fail
  go_end0
  simp only [add_plain]
  refine ⟨trivial, ⟨some ⟨g, 0, none⟩, c, ?_, ?_⟩, (Below.refl p w).setCell (by simp; omega) _⟩
  · rw [putA_len]
    exact (heap_setCell_other _ _ p _ (by simp; omega)).trans HH.out
  · rw [putA_len, HE.out]
    exact HS1.out
set_option maxRecDepth 100000 in
set_option maxHeartbeats 1600000 in
theorem leaf_any (p : Nat) (L : Value) (sts : List St) (s : St) (w : World) (hB : Bld w p L sts) (hn : sts.length ≤ 999990) :
    Calls Try.prog 55 #[.pointer (some ⟨p, 0, none⟩), stV s] w fun e w' => e = .returned (.tuple #[.int .i64 sts.length, .int .i64 ((sts.length + 1 : Nat) : Int)]) ∧ Bld w' p L (sts ++ [⟨s.f0, ((sts.length + 1 : Nat) : Int), s.f2, s.f3⟩, ⟨2, 0, 0, ⟨0, 0, 0, 0⟩⟩]) ∧ Below p w w' := by
  have HBD := Lib.hid hB
  have hp := hB.lt
  clear hB
  unfold stV
  go_enter Try.func55, Try.ntmps55
  go_wp2_with fail
  refine (state_any p L sts s _ (HBD.out.alloc _) (by omega)).mono ?_
  rintro e w1 ⟨rfl, hB1, hb1⟩
  have HB1 := Lib.hid hB1
  have Hb1 := Lib.hid hb1
  clear hB1 hb1
  go_wp2_with fail
  refine (empty_any p L _ _ HB1.out (by simp; omega)).mono ?_
  rintro e w2 ⟨rfl, hB2, hb2⟩
  have HB2 := Lib.hid hB2
  have Hb2 := Lib.hid hb2
  clear hB2 hb2
  rw [show (sts ++ [s]).length = sts.length + 1 by simp]
  go_wp2_with fail
  refine (to_any p L _ sts.length ((sts.length + 1 : Nat) : Int) _ HB2.out (by simp; omega) (by simp)).mono ?_
  rintro e w3 ⟨rfl, hB3, hb3⟩
  have e3 : putA (sts ++ [s] ++ [⟨2, 0, 0, ⟨0, 0, 0, 0⟩⟩]) sts.length ((sts.length + 1 : Nat) : Int) = sts ++ [⟨s.f0, ((sts.length + 1 : Nat) : Int), s.f2, s.f3⟩, ⟨2, 0, 0, ⟨0, 0, 0, 0⟩⟩] := by
    unfold putA
    have h1 : (sts ++ [s] ++ [(⟨2, 0, 0, ⟨0, 0, 0, 0⟩⟩ : St)])[sts.length]? = some s := by simp
    rw [h1]
    simp
  rw [e3] at hB3
  have HB3 := Lib.hid hB3
  have HBL := Lib.hid (((((Below.refl p w).alloc (by omega) _).trans Hb1.out).trans Hb2.out).trans hb3)
  clear hB3 hb3 e3
  go_wp2_with fail
  refine bodyPost_ret (v := .tuple #[.int .i64 sts.length, .int .i64 ((sts.length + 1 : Nat) : Int)]) (by simp [results, Try.results55, go_sem]) rfl ⟨rfl, HB3.out, HBL.out⟩
end Go.Proofs.YtibabfgfahlekaaQ
