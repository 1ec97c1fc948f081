/- Several short texts of this proof, one behind the other. -/
import Derived.Test.YtfjemaeidmikmaaDoorBQ0
import Derived.Lib.LaidTab
import Derived.Test.YtfjemaeidmikmaaDoorBM1
import Derived.Test.YtfjemaeidmikmaaDoorBAl4
import Derived.Test.YtfjemaeidmikmaaDoorRows
import Derived.Test.YtfjemaeidmikmaaDoorTie
import Derived.Test.YtfjemaeidmikmaaDoorCards
import Derived.ProofKit
import Derived.LaidMore
import Derived.OpenShut
import Derived.Stop.Joined
import Derived.SevenTiedAt
import Derived.Laws.BitsAllLaws
import Derived.Lib.Hide
import Derived.Test.YtfjemaeidmikmaaDoorBCore
import Derived.Deep.RegionWith
section
namespace Go.Proofs.YtfjemaeidmikmaaDoorQ
open Go.RowKit Go.Proofs.YtfjemaeidmikmaaDoorW.PrintWords Go.Proofs.YtfjemaeidmikmaaDoorW.PrintLast
abbrev St := S64
def wput (p : List Bool × List Int) (s : Int) : List Bool × List Int :=
  if 0 ≤ s ∧ s < p.1.length ∧ rdOf false p.1 s = false then (p.1.set s.toNat true, p.2 ++ [s]) else p
def goesA (st : St) (sym : Int) : Bool := decide (st.f0 = 3 ∨ st.f0 = 2 ∨ st.f0 = 4 ∧ (sym = 256 ∨ sym = 258) ∨ st.f0 = 5 ∧ (sym = 257 ∨ sym = 258))
def wvisit (st : St) (sym : Int) (q : List Bool × List Int) : List Bool × List Int :=
  if st.f0 = 3 then wput (wput q st.f2) st.f1 else if goesA st sym = true then wput q st.f1 else q
def wstep (sts : List St) (sym : Int) (p : List Bool × List Int) : List Bool × List Int := wvisit (rd_T64 sts (p.2.getLastD 0)) sym (p.1, p.2.dropLast)
def wrun (sts : List St) (sym : Int) : Nat → List Bool × List Int → List Bool × List Int
  | 0, p => p
  | k + 1, p => if p.2 = [] then p else wrun sts sym k (wstep sts sym p)
def few (l : List Bool) : Nat := (l.filter fun b => !b).length
def wmeas (p : List Bool × List Int) : Nat := 3 * few p.1 + p.2.length
theorem few_set (l : List Bool) (i : Nat) (h : i < l.length) (hf : l[i] = false) : few (l.set i true) + 1 = few l := by
  induction l generalizing i with
  | nil => simp at h
  | cons b l ih =>
    cases i with
    | zero => simp at hf; subst hf; simp [few]
    | succ i =>
      have := ih i (by simpa using h) (by simpa using hf)
      cases b <;> simp [few] at this ⊢ <;> omega
theorem wput_len (p : List Bool × List Int) (s : Int) : (wput p s).1.length = p.1.length := by unfold wput; split <;> simp
theorem wput_meas (p : List Bool × List Int) (s : Int) : wmeas (wput p s) ≤ wmeas p := by
  unfold wput
  split
  · rename_i h
    have := few_set p.1 s.toNat (by omega) (by
      have h3 := h.2.2
      unfold rdOf at h3
      rw [List.getD_eq_getElem?_getD, List.getElem?_eq_getElem (by omega)] at h3
      simpa using h3)
    simp only [wmeas, List.length_append, List.length_singleton]
    omega
  · omega
theorem wvisit_meas (st : St) (sym : Int) (q : List Bool × List Int) : wmeas (wvisit st sym q) ≤ wmeas q := by
  unfold wvisit
  split
  · have := wput_meas q st.f2
    have := wput_meas (wput q st.f2) st.f1
    omega
  · split
    · exact wput_meas _ _
    · omega
theorem wstep_meas (sts : List St) (sym : Int) (p : List Bool × List Int) (h : p.2 ≠ []) : wmeas (wstep sts sym p) + 1 ≤ wmeas p := by
  have := wvisit_meas (rd_T64 sts (p.2.getLastD 0)) sym (p.1, p.2.dropLast)
  have h1 : p.2.dropLast.length + 1 = p.2.length := by
    have := List.length_pos_iff.2 h
    simp
    omega
  unfold wstep
  simp only [wmeas] at this ⊢
  omega
theorem wvisit_len (st : St) (sym : Int) (q : List Bool × List Int) : (wvisit st sym q).1.length = q.1.length := by
  unfold wvisit
  split
  · rw [wput_len, wput_len]
  · split
    · rw [wput_len]
    · rfl
theorem wrun_enough (sts : List St) (sym : Int) : ∀ (k : Nat) (p : List Bool × List Int), wmeas p ≤ k → wrun sts sym k p = wrun sts sym (wmeas p) p := by
  intro k
  induction k using Nat.strongRecOn with
  | ind k ih =>
    intro p hk
    by_cases h : p.2 = []
    · cases k with
      | zero => rw [show wmeas p = 0 by omega]
      | succ k =>
        cases hm : wmeas p with
        | zero => simp [wrun, h]
        | succ m => simp [wrun, h]
    · have hm := wstep_meas sts sym p h
      obtain ⟨m, em⟩ : ∃ m, wmeas p = m + 1 := ⟨wmeas p - 1, by omega⟩
      obtain ⟨k, rfl⟩ : ∃ j, k = j + 1 := ⟨k - 1, by omega⟩
      rw [em]
      simp only [wrun, if_neg h]
      rw [ih k (by omega) _ (by omega), ih m (by omega) _ (by omega)]
def wfrom (n : Nat) (from_ : List Int) : List Bool × List Int := from_.foldl wput (List.replicate n false, [])
def walkF (sts : List St) (from_ : List Int) (sym : Int) : List Bool := (wrun sts sym (wmeas (wfrom sts.length from_)) (wfrom sts.length from_)).1
def onOk (n : Nat) (p : List Bool × List Int) : Prop := p.1.length = n ∧ p.2.length ≤ n ∧ (∀ s ∈ p.2, 0 ≤ s ∧ s < n) ∧ p.2.length + few p.1 ≤ n
theorem onOk_put {n : Nat} {p : List Bool × List Int} (h : onOk n p) (s : Int) : onOk n (wput p s) := by
  obtain ⟨h1, h2, h3, h4⟩ := h
  unfold wput
  split
  · rename_i h
    have hs := few_set p.1 s.toNat (by omega) (by
      have h3 := h.2.2
      unfold rdOf at h3
      rw [List.getD_eq_getElem?_getD, List.getElem?_eq_getElem (by omega)] at h3
      simpa using h3)
    refine ⟨by simpa using h1, ?_, ?_, ?_⟩
    · simp; omega
    · intro x hx
      simp only [List.mem_append, List.mem_singleton] at hx
      rcases hx with hx | rfl
      · exact h3 x hx
      · omega
    · simp; omega
  · exact ⟨h1, h2, h3, h4⟩
theorem onOk_pop {n : Nat} {p : List Bool × List Int} (h : onOk n p) : onOk n (p.1, p.2.dropLast) := by
  obtain ⟨h1, h2, h3, h4⟩ := h
  have : p.2.dropLast.length ≤ p.2.length := by simp
  exact ⟨h1, by show p.2.dropLast.length ≤ n; omega, fun s hs => h3 s ((List.dropLast_sublist _).subset hs), by show p.2.dropLast.length + few p.1 ≤ n; omega⟩
theorem onOk_new (n : Nat) : onOk n (List.replicate n false, []) := by
  refine ⟨by simp, by simp, by simp, ?_⟩
  have : few (List.replicate n false) ≤ (List.replicate n false).length := List.length_filter_le _ _
  simpa using this
theorem onOk_fold {n : Nat} (l : List Int) {p : List Bool × List Int} (h : onOk n p) : onOk n (l.foldl wput p) := by
  induction l generalizing p with
  | nil => exact h
  | cons s l ih => exact ih (onOk_put h s)
theorem onOk_from (n : Nat) (l : List Int) : onOk n (wfrom n l) := onOk_fold l (onOk_new n)
end Go.Proofs.YtfjemaeidmikmaaDoorQ
end
section
namespace Go.Proofs.YtfjemaeidmikmaaDoorQ
open Go.RowKit
def deTab : List Int := [0, 1, 56, 2, 57, 49, 28, 3, 61, 58, 42, 50, 38, 29, 17, 4, 62, 47, 59, 36, 45, 43, 51, 22, 53, 39, 33, 30, 24, 18, 12, 5, 63, 55, 48, 27, 60, 41, 37, 16, 46, 35, 44, 21, 52, 32, 23, 11, 54, 26, 40, 15, 34, 20, 31, 10, 25, 14, 19, 9, 13, 8, 7, 6]
def TabG (w : World) : Prop := ∀ i, i < 64 → w.cell? ⟨0, i, none⟩ = some (.int .u8 (deTab.getD i 0))
theorem TabG.tab {w : World} (h : TabG w) : ∀ i, i < 64 → w.cell? ⟨0, i, none⟩ = some (.int .u8 (deTab.getD i 0)) := h
theorem TabG.below {w w' : World} (h : TabG w) (hb : Below w.heap.size w w') : TabG w' := fun i hi =>
  (hb.cell (World.block_lt_of_cell? w _ (h i hi))).trans (h i hi)
theorem gTab : Tryd.prog.globalNamed "math/bits.deBruijn64tab" = some 0 := by kernel_rfl
theorem TabG.of_tab {w : World} (h : Lib.TabIs Tryd.prog w "math/bits.deBruijn64tab" .u8 deTab) : TabG w := fun i hi => h.cell gTab i (by simpa [deTab] using hi)
end Go.Proofs.YtfjemaeidmikmaaDoorQ
end
section
namespace Go.Proofs.YtfjemaeidmikmaaDoorQ
open Go.RowKit Go.Proofs.Bs
def wfI (a b c d : Int) : Prop := (0 ≤ a ∧ a < 18446744073709551616) ∧ (0 ≤ b ∧ b < 18446744073709551616) ∧ (0 ≤ c ∧ c < 18446744073709551616) ∧ 0 ≤ d ∧ d < 18446744073709551616
instance (a b c d : Int) : Decidable (wfI a b c d) := by unfold wfI; infer_instance
def setI (a b c d : Int) : S := ⟨a.toNat, b.toNat, c.toNat, d.toNat⟩
theorem setI_wf {a b c d : Int} (h : wfI a b c d) : (setI a b c d).wf := by
  obtain ⟨⟨a0, a1⟩, ⟨b0, b1⟩, ⟨c0, c1⟩, d0, d1⟩ := h
  refine ⟨?_, ?_, ?_, ?_⟩ <;> (simp only [setI, W]; omega)
theorem setI_cast {a b c d : Int} (h : wfI a b c d) : ((setI a b c d).a : Int) = a ∧ ((setI a b c d).b : Int) = b ∧ ((setI a b c d).c : Int) = c ∧ ((setI a b c d).d : Int) = d := by
  obtain ⟨⟨a0, a1⟩, ⟨b0, b1⟩, ⟨c0, c1⟩, d0, d1⟩ := h
  refine ⟨?_, ?_, ?_, ?_⟩ <;> (simp only [setI]; omega)
end Go.Proofs.YtfjemaeidmikmaaDoorQ
end
section
set_option linter.unusedVariables false
set_option linter.unusedSimpArgs false
namespace Go.Proofs.YtfjemaeidmikmaaDoorQ
open Go.RowKit Go.Proofs.YtfjemaeidmikmaaDoor Go.Proofs.YtfjemaeidmikmaaDoorW.PrintWords
theorem reads_of_C {w : World} {A : Option Addr} {l : List Int} (h : Kd.C (Kd.int .i64) w A l.length l) : Reads w 1 A l.length (ints l) := by
  refine ⟨by simp [ints], fun hp => ?_⟩
  obtain ⟨ad, rfl, _⟩ := Kd.at_int h ((0 : Nat) : Int) (by omega) (by omega)
  refine ⟨ad, rfl, fun j u hu => ?_⟩
  have hj : j < l.length := by
    have := (List.getElem?_eq_some_iff.1 hu).1
    simpa [ints] using this
  obtain ⟨ad', e, hx⟩ := Kd.at_int h (j : Int) (by omega) (by omega)
  injection e with e
  subst e
  rw [Int.toNat_natCast] at hx
  rw [hx]
  have : (ints l)[j]? = some (.int .i64 (rd l j)) := by
    simp [ints, rd, List.getD_eq_getElem?_getD, List.getElem?_eq_getElem hj]
  rw [this] at hu
  exact hu
def inI (l : List Int) : Bool := l.all fun x => decide (-9223372036854775808 ≤ x) && decide (x ≤ 9223372036854775807)
theorem inI_at {l : List Int} (h : inI l = true) {x : Int} (hx : x ∈ l) : -9223372036854775808 ≤ x ∧ x ≤ 9223372036854775807 := by
  have := List.all_eq_true.1 h x hx
  simpa using this
def joinN (a b : List Int) : List Nat × Nat := ((Al.run (a.zip b)).2, (Al.run (a.zip b)).1.length)
def alpha_Join.f (l0 l1 : List Int) : Option (List Int × Int) := if l0.length ≤ 1000000 ∧ l1.length ≤ 1000000 ∧ inI l0 = true ∧ inI l1 = true then (if l0.length = l1.length then some ((joinN l0 l1).1.map Int.ofNat, ((joinN l0 l1).2 : Int)) else some ([], 0)) else none
theorem alpha_Join.calls (A0 : Option Addr) (c0 : Nat) (l0 : List Int) (A1 : Option Addr) (c1 : Nat) (l1 : List Int) (r1 : List Int) (r2 : Int) (w : World) (hr0 : Kd.C (Kd.int .i64) w A0 l0.length l0) (hc0 : l0.length ≤ c0) (hr1 : Kd.C (Kd.int .i64) w A1 l1.length l1) (hc1 : l1.length ≤ c1) (h : alpha_Join.f l0 l1 = some (r1, r2)) :
    Calls Tryd.prog 38 #[.slice A0 l0.length c0, .slice A1 l1.length c1] w fun e w' => ∃ v0_ : Value, e = .returned (.tuple #[v0_, .int .i64 r2]) ∧ Kd.R (Kd.int .i64) 3 w' w.heap.size (fun _ => True) v0_ r1 ∧ Below w.heap.size w w' := by
  unfold alpha_Join.f at h
  split at h
  case isFalse => cases h
  case isTrue c =>
    obtain ⟨n0, n1, i0, i1⟩ := c
    split at h
    case isTrue e =>
      injection h with h
      injection h with e1 e2
      subst e1 e2
      have f1 : (l0.zip l1).map Prod.fst = l0 := List.map_fst_zip (by omega)
      have f2 : (l0.zip l1).map Prod.snd = l1 := List.map_snd_zip (by omega)
      have g0 := reads_of_C hr0
      have g1 := reads_of_C hr1
      rw [← e] at g1
      have hl : l1.length = l0.length := e.symm
      rw [hl]
      refine (ajoin_any A0 A1 l0.length c0 c1 (l0.zip l1) w (by rw [f1]; exact g0) (by rw [f2]; exact g1) n0 (fun p hp => ?_)).mono ?_
      · have h1 := inI_at i0 (x := p.1) (by rw [← f1]; exact List.mem_map_of_mem hp)
        have h2 := inI_at i1 (x := p.2) (by rw [← f2]; exact List.mem_map_of_mem hp)
        exact ⟨WalkArith.wf_i64 h1, WalkArith.wf_i64 h2⟩
      · rintro e w' ⟨A2, c2, rfl, ho, hb⟩
        refine ⟨_, rfl, Kd.R_of_own (enc := Value.int .i64) (h1 := fun _ => rfl) ?_ (fun _ _ => trivial), hb⟩
        have hlen : (joinN l0 l1).1.length = l0.length := by
          unfold joinN
          rw [Al.run_len, List.length_zip]
          omega
        rw [List.length_map, hlen]
        exact ho
    case isFalse e =>
      injection h with h
      injection h with e1 e2
      subst e1 e2
      refine (ajoin_ne A0 A1 l0.length l1.length c0 c1 w n0 n1 e).mono ?_
      rintro e w' ⟨rfl, hb⟩
      exact ⟨_, rfl, Kd.R_of_own (enc := Value.int .i64) (h1 := fun _ => rfl) ⟨rfl, .inl ⟨rfl, rfl⟩⟩ (fun _ _ => trivial), hb⟩
end Go.Proofs.YtfjemaeidmikmaaDoorQ
end
section
namespace Go.Proofs.YtfjemaeidmikmaaDoor
open Go.ChangeShapes Go.WideShapes Go.ChangeAt Go.WideMaps Go.WideElems Go.RowKit
def laidL : List (String × DataW Unit) := [("math/bits.deBruijn64tab", Rows.laid_math_bits_deBruijn64tab)]
theorem door_met (os : Os) (args : Array Value) : laidMetH Tryd.prog laidL ((World.doorLaid Tryd.prog 14 os).forCall (fun _ _ => 0) ⟨#[], args, []⟩).memory :=
  laidMetH_of_parts3 (fuel := 8) (laidMet_of_run' 8 (by kernel_rfl) (by kernel_rfl)) (by kernel_rfl) (by kernel_rfl)
theorem tTab : (Tryd.prog.globals[0]?).map (·.type) = some 110 := by kernel_rfl
theorem tab_of_laid {W : World} (h : laidMetH Tryd.prog laidL W) : Go.Proofs.YtfjemaeidmikmaaDoorQ.TabG W := by
  rw [MakeChecks.laidMetH_plain _ _ _ (by kernel_rfl)] at h
  have h2 : laidMet Tryd.prog (("math/bits.deBruijn64tab", Lib.tabData .u8 Go.Proofs.YtfjemaeidmikmaaDoorQ.deTab) :: []) W := h
  exact Go.Proofs.YtfjemaeidmikmaaDoorQ.TabG.of_tab (Lib.tabIs_of_head Go.Proofs.YtfjemaeidmikmaaDoorQ.gTab tTab Tryd.underlying110 Tryd.underlying5 (by kernel_rfl) (by kernel_rfl) h2)
end Go.Proofs.YtfjemaeidmikmaaDoor
end
section
namespace Go.Proofs.YtfjemaeidmikmaaDoorQ
open Go.RowKit Go.Proofs.YtfjemaeidmikmaaDoorW.PrintWords Go.Proofs.YtfjemaeidmikmaaDoorW.PrintLast Go.Proofs.YtfjemaeidmikmaaDoorW.PrintMore
attribute [local go_sem] max2_int min2_int max_two min_two max_three min_three max_four min_four
set_option linter.unusedVariables false
set_option linter.unusedSimpArgs false
theorem isAggE62 (w : World) : (isAgg 60).run Tryd.prog w = .ok false w := by kernel_rfl
theorem rangeE62 : List.range' 0 4 = [0, 1, 2, 3] := rfl
theorem eqA62 (d : Nat) (w : World) (x0 y0 : Int) (x1 y1 : Int) (x2 y2 : Int) (x3 y3 : Int) :
    (Op.equalIn (d + 2) 62 (.agg #[.int .u64 x0, .int .u64 x1, .int .u64 x2, .int .u64 x3]) (.agg #[.int .u64 y0, .int .u64 y1, .int .u64 y2, .int .u64 y3])).run Tryd.prog w = .ok (x0 == y0 && (x1 == y1 && (x2 == y2 && (x3 == y3)))) w := by
  unfold Op.equalIn
  simp only [Sem.run_bind, run_underlying Tryd.underlying62, Result.andThen_ok]
  simp [go_sem, rangeE62, isAggE62]
  by_cases h0 : x0 = y0 <;> by_cases h1 : x1 = y1 <;> by_cases h2 : x2 = y2 <;> by_cases h3 : x3 = y3 <;> simp [go_sem, isAggE62, h0, h1, h2, h3]
end Go.Proofs.YtfjemaeidmikmaaDoorQ
end
section
namespace Go.Proofs.YtfjemaeidmikmaaDoorQ
open Go.RowKit Go.Proofs.YtfjemaeidmikmaaDoorW.PrintWords Go.Proofs.YtfjemaeidmikmaaDoorW.PrintLast Go.Proofs.YtfjemaeidmikmaaDoorW.PrintMore
attribute [local go_sem] max2_int min2_int max_two min_two max_three min_three max_four min_four
set_option linter.unusedVariables false
set_option linter.unusedSimpArgs false
def tattinglaw11_one.f  : Option ((List (S64)) × Int × Int) := some ((([(⟨1, 1, 0, (⟨0, 8589934592, 0, 0⟩ : S62)⟩ : S64), (⟨6, 0, 0, (⟨0, 0, 0, 0⟩ : S62)⟩ : S64)] : List (S64))), 0, 1)
set_option maxHeartbeats 8000000 in
set_option maxRecDepth 100000 in
theorem tattinglaw11_one.calls  (r1 : List (S64)) (r2 : Int) (r3 : Int) (w : World) (h : tattinglaw11_one.f  = some (r1, r2, r3)) :
    Calls Tryd.prog 19 #[] w fun e w' => ∃ v0_ : Value, e = .returned (.agg #[v0_, .int .i64 r2, .int .i64 r3]) ∧ Kd.R k64 64 w' w.heap.size (fun _ => True) v0_ r1 ∧ Below w.heap.size w w' := by
  have hu24 := Tryd.underlying24
  have hu62 := Tryd.underlying62
  have hu64 := Tryd.underlying64
  have HB := Aside0.mk (Below.refl w.heap.size w)
  have H : (some ((([(⟨1, 1, 0, (⟨0, 8589934592, 0, 0⟩ : S62)⟩ : S64), (⟨6, 0, 0, (⟨0, 0, 0, 0⟩ : S62)⟩ : S64)] : List (S64))), 0, 1)) = some (r1, r2, r3) := h
  clear h
  obtain ⟨y102, hy102⟩ : ∃ y_ : List (S64), y_ = (([(⟨1, 1, 0, (⟨0, 8589934592, 0, 0⟩ : S62)⟩ : S64), (⟨6, 0, 0, (⟨0, 0, 0, 0⟩ : S62)⟩ : S64)] : List (S64))) := ⟨_, rfl⟩
  replace H : (some (y102, 0, 1)) = some (r1, r2, r3) := by first | (rw [hy102]; with_reducible exact H) | (have H2_ := (Option.bind_some _ _).symm.trans H; rw [hy102]; with_reducible exact H2_) | (have H2_ := (Option.bind_some _ _).symm.trans H; with_reducible exact H2_) | with_reducible exact H | (rw [hy102]; exact H) | exact H
  have Ny102 := Aside0.mk hy102
  clear hy102
  simp only [Option.some.injEq, Prod.mk.injEq] at H
  obtain ⟨rfl, rfl, rfl⟩ := H
  go_enter Tryd.func19, Tryd.ntmps19
  go_wp2_with (first | ((with_reducible refine gate_dst (N := 0) rfl ?_); refine box_event ?hg (N := 0) ?hd (cs := #[.slice none 0 0, .int .i64 0, .int .i64 0]) (t := 24) ?hr ?_; (case hd => rfl); (case hg => rfl); (case hr => first | (go_simp; done) | (go_simp; rfl)); intro gb101 hg w1 hbox hb; have n0_ := Aside0.mk (below_step (by repeat (first | (with_reducible first | exact HB.out | apply below_alloc | apply pw_below_drewN | apply below_drew1) | exact HB.out)) hb); have n1_ := Aside0.mk (hbox); have n2_ := Aside0.mk ((by rw [hg]; exact (below_size (by repeat (first | (with_reducible first | exact HB.out | apply below_alloc | apply pw_below_drewN | apply below_drew1) | exact HB.out))) : w.heap.size ≤ gb101)); have n3_ := Aside0.mk ((by rw [hg]; exact (below_size (by repeat (first | (with_reducible first | exact HB.out | apply below_alloc | apply pw_below_drewN | apply below_drew1) | exact HB.out))) : w.heap.size ≤ gb101)); clear HB; have HB := n0_; have BK101 := n1_; have GW101 := n2_; have GE101 := n3_; clear n0_ n1_ n2_ n3_; clear hb hbox hg) | ((with_reducible refine gate_dst (N := 4) rfl ?_); refine Kd.R_lit k64 _ 64 ?hg (N := 4) ?hd (xs := ([(⟨1, 1, 0, (⟨0, 8589934592, 0, 0⟩ : S62)⟩ : S64), (⟨6, 0, 0, (⟨0, 0, 0, 0⟩ : S62)⟩ : S64)] : List (S64))) (inner := [.int .i64 1, .int .i64 1, .int .i64 0, .int .u64 0, .int .u64 8589934592, .int .u64 0, .int .u64 0, .int .i64 6, .int .i64 0, .int .i64 0, .int .u64 0, .int .u64 0, .int .u64 0, .int .u64 0]) (ok := fun _ => True) (okp := fun _ => True) ?hr ?hp (fun _ hk => hk) trivial (Below.refl _ _) (Nat.le_refl _) (by simp) ?_; (case hd => rfl); (case hg => rfl); (case hr => first | (go_simp; done) | (go_simp; rfl)); (case hp => exact (Reps.c7 (show Kd.M k64 _ _ _ (⟨1, 1, 0, (⟨0, 8589934592, 0, 0⟩ : S62)⟩ : S64) [.int .i64 1, .int .i64 1, .int .i64 0, .int .u64 0, .int .u64 8589934592, .int .u64 0, .int .u64 0] from (k64_mkM _ _ _ (⟨1, 1, 0, (⟨0, 8589934592, 0, 0⟩ : S62)⟩ : S64) )) (Reps.c7 (show Kd.M k64 _ _ _ (⟨6, 0, 0, (⟨0, 0, 0, 0⟩ : S62)⟩ : S64) [.int .i64 6, .int .i64 0, .int .i64 0, .int .u64 0, .int .u64 0, .int .u64 0, .int .u64 0] from (k64_mkM _ _ _ (⟨6, 0, 0, (⟨0, 0, 0, 0⟩ : S62)⟩ : S64) )) (Reps.none _ _)))); intro v103 w2 ho3 hb hg_ hnew_; clear hg_ hnew_; (first | rw [← Ny102.out] at ho3 | (simp only [Int.reduceToNat] at ho3; rw [← Ny102.out] at ho3)); have n0_ := Aside0.mk (Kd.R_lower ho3 (below_size (by repeat (first | (with_reducible first | exact HB.out | apply below_alloc | apply pw_below_drewN | apply below_drew1 | refine below_set ?_ GE101.out) | exact HB.out)))); have n1_ := Aside0.mk (blk_below (g := gb101) (o := .cells #[.slice none 0 0, .int .i64 0, .int .i64 0] 24 (0, 0)) (by (with_reducible repeat (first | refine blk_drewN ?_ _ | refine blk_drew ?_ | refine blk_alloc ?_ _)); exact BK101.out) hb); have n2_ := Aside0.mk (below_step (by repeat (first | (with_reducible first | exact HB.out | apply below_alloc | apply pw_below_drewN | apply below_drew1 | refine below_set ?_ GE101.out) | exact HB.out)) hb); clear BK101; clear HB; have HO104 := n0_; have BK101 := n1_; have HB := n2_; clear n0_ n1_ n2_; clear hb ho3; obtain ⟨Ao4, co4, eo4⟩ := Kd.R_slice HO104.out; subst eo4; have hcz5_0 : w2.cell? ⟨gb101, 0, none⟩ = some (.slice none 0 0) := (blk_cell BK101.out 0).trans rfl; have hcz5_1 : w2.cell? ⟨gb101, 1, none⟩ = some (.int .i64 0) := (blk_cell BK101.out 1).trans rfl; have hcz5_2 : w2.cell? ⟨gb101, 2, none⟩ = some (.int .i64 0) := (blk_cell BK101.out 2).trans rfl; have hfz5_0 := blk_frozen BK101.out 0; have hfz5_1 := blk_frozen BK101.out 1; have hfz5_2 := blk_frozen BK101.out 2))
  refine bodyPost_ret (results_cell_row rfl _ _ gb101 24 #[.slice Ao4 y102.length co4, .int .i64 0, .int .i64 1] (0, 0) _ rfl (by (with_reducible repeat (first | refine blk_drewN ?_ _ | refine blk_drew ?_ | refine blk_alloc ?_ _)); refine blk_put (cs := #[.slice Ao4 y102.length co4, .int .i64 0, .int .i64 0]) ?_ 2 _ rfl; (with_reducible repeat (first | refine blk_drewN ?_ _ | refine blk_drew ?_ | refine blk_alloc ?_ _)); refine blk_put (cs := #[.slice Ao4 y102.length co4, .int .i64 0, .int .i64 0]) ?_ 1 _ rfl; (with_reducible repeat (first | refine blk_drewN ?_ _ | refine blk_drew ?_ | refine blk_alloc ?_ _)); refine blk_put (cs := #[.slice none 0 0, .int .i64 0, .int .i64 0]) ?_ 0 _ rfl; (with_reducible repeat (first | refine blk_drewN ?_ _ | refine blk_drew ?_ | refine blk_alloc ?_ _)); exact BK101.out) Tryd.underlying24 rfl (by kernel_rfl)) rfl ?_
  exact ⟨_, by first | rfl | (simp [errW_none, errW_some] <;> rfl) | (simp [*, errW_none, errW_some] <;> rfl), by (with_reducible repeat (first | apply Kd.R_alloc | apply Kd.R_drewN | apply Kd.R_drew)); exact Kd.R_mono (Kd.R_far (p := ⟨gb101, 2, none⟩) (Kd.R_far (p := ⟨gb101, 1, none⟩) (Kd.R_far (p := ⟨gb101, 0, none⟩) (Kd.R_types HO104.out BK101.out (by decide)) (fun _ hk => hk.2) (.slice Ao4 y102.length co4)) (fun _ hk => hk.2) (.int .i64 0)) (fun _ hk => hk.2) (.int .i64 1)) (fun _ hk => trivial), by repeat (first | (with_reducible first | exact HB.out | apply below_alloc | apply pw_below_drewN | apply below_drew1 | refine below_set ?_ GE101.out) | exact HB.out)⟩
end Go.Proofs.YtfjemaeidmikmaaDoorQ
end
section
namespace Go.Proofs.YtfjemaeidmikmaaDoorQ
open Go.RowKit Go.Proofs.YtfjemaeidmikmaaDoorW.PrintWords Go.Proofs.YtfjemaeidmikmaaDoorW.PrintLast Go.Proofs.YtfjemaeidmikmaaDoorW.PrintMore
attribute [local go_sem] max2_int min2_int max_two min_two max_three min_three max_four min_four
set_option linter.unusedVariables false
set_option linter.unusedSimpArgs false
def tattinglaw11_small.f (l0_0 : List (S64)) (a0_1 : Int) (a0_2 : Int) : Option (Bool) := some (decide ((l0_0.length : Int) ≤ 40))
set_option maxHeartbeats 8000000 in
set_option maxRecDepth 100000 in
theorem tattinglaw11_small.calls (A0_0 : Option Addr) (c0_0 : Nat) (l0_0 : List (S64)) (a0_1 : Int) (a0_2 : Int) (r : Bool) (w : World) (hr0_0 : Kd.C k64 w A0_0 l0_0.length l0_0) (hc0_0 : l0_0.length ≤ c0_0) (h : tattinglaw11_small.f l0_0 a0_1 a0_2 = some r) :
    Calls Tryd.prog 7 #[.agg #[.slice A0_0 l0_0.length c0_0, .int .i64 a0_1, .int .i64 a0_2]] w fun e w' => e = .returned (.bool r) ∧ Below w.heap.size w w' := by
  have hu24 := Tryd.underlying24
  have HR0_0 := Aside0.mk hr0_0
  have HC0_0 := Aside0.mk hc0_0
  clear hr0_0 hc0_0
  have HB := Aside0.mk (Below.refl w.heap.size w)
  have H : (some (decide ((l0_0.length : Int) ≤ 40))) = some r := h
  clear h
  obtain rfl := Option.some.inj H
  go_enter Tryd.func7, Tryd.ntmps7
  go_wp2_with (first | ((with_reducible refine gate_dst (N := 1) rfl ?_); refine box_event ?hg (N := 1) ?hd (cs := #[.slice A0_0 l0_0.length c0_0, .int .i64 a0_1, .int .i64 a0_2]) (t := 24) ?hr ?_; (case hd => rfl); (case hg => rfl); (case hr => first | (go_simp; done) | (go_simp; rfl)); intro gb101 hg w2 hbox hb; have n0_ := Aside0.mk (below_step (by repeat (first | (with_reducible first | exact HB.out | apply below_alloc | apply pw_below_drewN | apply below_drew1) | exact HB.out)) hb); have n1_ := Aside0.mk (hbox); have n2_ := Aside0.mk ((by rw [hg]; exact (below_size (by repeat (first | (with_reducible first | exact HB.out | apply below_alloc | apply pw_below_drewN | apply below_drew1) | exact HB.out))) : w.heap.size ≤ gb101)); have n3_ := Aside0.mk ((by rw [hg]; exact (below_size (by repeat (first | (with_reducible first | exact HB.out | apply below_alloc | apply pw_below_drewN | apply below_drew1) | exact HB.out))) : w.heap.size ≤ gb101)); clear HB; have HB := n0_; have BK101 := n1_; have GW101 := n2_; have GE101 := n3_; clear n0_ n1_ n2_ n3_; clear hb hbox hg; have hcz3_0 : w2.cell? ⟨gb101, 0, none⟩ = some (.slice A0_0 l0_0.length c0_0) := (blk_cell BK101.out 0).trans rfl; have hcz3_1 : w2.cell? ⟨gb101, 1, none⟩ = some (.int .i64 a0_1) := (blk_cell BK101.out 1).trans rfl; have hcz3_2 : w2.cell? ⟨gb101, 2, none⟩ = some (.int .i64 a0_2) := (blk_cell BK101.out 2).trans rfl; have hfz3_0 := blk_frozen BK101.out 0; have hfz3_1 := blk_frozen BK101.out 1; have hfz3_2 := blk_frozen BK101.out 2))
  go_ret
  exact ⟨by first | rfl | (simp [errW_none, errW_some] <;> rfl) | (simp [*, errW_none, errW_some] <;> rfl), by repeat (first | (with_reducible first | exact HB.out | apply below_alloc | apply pw_below_drewN | apply below_drew1 | refine below_set ?_ GE101.out) | exact HB.out)⟩
end Go.Proofs.YtfjemaeidmikmaaDoorQ
end
section
set_option linter.unusedVariables false
set_option linter.unusedSimpArgs false
namespace Go.Proofs.YtfjemaeidmikmaaDoorQ
open Go.RowKit Go.Proofs.Bs
theorem bit_at (x n : Nat) (hx : x < W) : (bits .and .u64 ((x : Int) / 2 ^ n) 1 == 1) = x.testBit n := by
  have e : ((x : Int) / 2 ^ n) = ((x / 2 ^ n : Nat) : Int) := by simp
  have h := u64_and_nat (x / 2 ^ n) 1 (Nat.lt_of_le_of_lt (Nat.div_le_self _ _) hx) (by omega)
  rw [e, show (1 : Int) = ((1 : Nat) : Int) from rfl, h, Nat.testBit_eq_decide_div_mod_eq, Nat.and_one_is_mod]
  by_cases c : x / 2 ^ n % 2 = 1
  · simp [c]
  · rw [decide_eq_false c]
    simp
    omega
theorem ret_has {a b : Bool} (h : a = b) : Ending.returned (Value.bool a) = Ending.returned (Value.bool b) := by rw [h]
theorem has_at (s : S) (hs : s.wf) (b : Int) (h0 : 0 ≤ b) (q : Nat) (hq : b / 64 = q) : (bits .and .u64 ((s.word q : Int) / 2 ^ (b % 64).toNat) 1 == 1) = has s b.toNat := by
  rw [bit_at _ _ (hs.wf_word q)]
  unfold has
  rw [show b.toNat / 64 = q by omega, show b.toNat % 64 = (b % 64).toNat by omega]
theorem has_walk (s : S) (hs : s.wf) (b : Int) (h0 : 0 ≤ b) (h1 : b < 256) (w : World) : Calls Tryd.prog 69 #[.agg #[.int .u64 s.a, .int .u64 s.b, .int .u64 s.c, .int .u64 s.d], .int .u8 b] w fun e w' => e = .returned (.bool (has s b.toNat)) ∧ Below w.heap.size w w' := by
  rcases (show b / 64 = (0 : Nat) ∨ b / 64 = (1 : Nat) ∨ b / 64 = (2 : Nat) ∨ b / 64 = (3 : Nat) by omega) with hq | hq | hq | hq
  all_goals
    have H := Lib.hid (has_at s hs b h0 _ hq)
    go_enter Tryd.func69, Tryd.ntmps69
    go_wp2
    go_ret
    exact ⟨ret_has H.out, (Below.refl _ _).alloc (Nat.le_refl _) _⟩
def byteset_Has.f (a0_0 a0_1 a0_2 a0_3 a1 : Int) : Option Bool := if wfI a0_0 a0_1 a0_2 a0_3 ∧ 0 ≤ a1 ∧ a1 < 256 then some (has (setI a0_0 a0_1 a0_2 a0_3) a1.toNat) else none
theorem byteset_Has.calls (a0_0 a0_1 a0_2 a0_3 : Int) (a1 : Int) (r : Bool) (w : World) (h : byteset_Has.f a0_0 a0_1 a0_2 a0_3 a1 = some r) :
    Calls Tryd.prog 69 #[.agg #[.int .u64 a0_0, .int .u64 a0_1, .int .u64 a0_2, .int .u64 a0_3], .int .u8 a1] w fun e w' => e = .returned (.bool r) ∧ Below w.heap.size w w' := by
  unfold byteset_Has.f at h
  split at h
  case isFalse => cases h
  case isTrue c =>
    injection h with h
    subst h
    obtain ⟨e0, e1, e2, e3⟩ := setI_cast c.1
    have hw := has_walk (setI a0_0 a0_1 a0_2 a0_3) (setI_wf c.1) a1 c.2.1 c.2.2 w
    rw [e0, e1, e2, e3] at hw
    exact hw
end Go.Proofs.YtfjemaeidmikmaaDoorQ
end
section
set_option linter.unusedVariables false
set_option linter.unusedSimpArgs false
namespace Go.Proofs.YtfjemaeidmikmaaDoorQ
open Go.RowKit Go.Proofs.Bs Go.Proofs.YtfjemaeidmikmaaDoor
def four (s : S) : Int × Int × Int × Int := (s.a, s.b, s.c, s.d)
end Go.Proofs.YtfjemaeidmikmaaDoorQ
end
section
set_option linter.unusedVariables false
set_option linter.unusedSimpArgs false
namespace Go.Proofs.YtfjemaeidmikmaaDoorQ
open Go.RowKit Go.Proofs.YtfjemaeidmikmaaDoorW.PrintWords Go.Proofs.YtfjemaeidmikmaaDoorW.PrintLast Go.Proofs.YtfjemaeidmikmaaDoor
def stCells (s : St) : List Value := [.int .i64 s.f0, .int .i64 s.f1, .int .i64 s.f2, .int .u64 s.f3.f0, .int .u64 s.f3.f1, .int .u64 s.f3.f2, .int .u64 s.f3.f3]
theorem stCells_length (s : St) : (stCells s).length = 7 := rfl
end Go.Proofs.YtfjemaeidmikmaaDoorQ
end
section
set_option linter.unusedVariables false
set_option linter.unusedSimpArgs false
namespace Go.Proofs.YtfjemaeidmikmaaDoorQ
open Go.RowKit Go.Proofs.Bs Go.Proofs.YtfjemaeidmikmaaDoor
theorem odd_part (x : Nat) (h : x ≠ 0) : ∃ k m, x = 2 ^ k * (2 * m + 1) := by
  induction x using Nat.strongRecOn with
  | _ x ih =>
    by_cases hx : x % 2 = 1
    · exact ⟨0, x / 2, by omega⟩
    · obtain ⟨k, m, e⟩ := ih (x / 2) (by omega) (by omega)
      exact ⟨k + 1, m, by rw [Nat.pow_succ]; have : x = 2 * (x / 2) := by omega
                          rw [this, e, Nat.mul_comm (2 ^ k) 2, Nat.mul_assoc]⟩
theorem odd_lt {x k m : Nat} (h : x = 2 ^ k * (2 * m + 1)) (hx : x < W) : k < 64 := by
  rcases Nat.lt_or_ge k 64 with h1 | h1
  · exact h1
  · have h2 : (2 : Nat) ^ 64 ≤ 2 ^ k := Nat.pow_le_pow_right (by decide) h1
    have h3 : 2 ^ k * 1 ≤ 2 ^ k * (2 * m + 1) := Nat.mul_le_mul_left _ (by omega)
    rw [W_eq] at hx
    omega
theorem low_one (x k m : Nat) (h : x = 2 ^ k * (2 * m + 1)) (hx : x < W) : x &&& (18446744073709551616 - x) = 2 ^ k := by
  have hk := odd_lt h hx
  have hp : 0 < 2 ^ k := Nat.two_pow_pos k
  have h1 : 1 ≤ x := by rw [h]; exact Nat.mul_pos hp (by omega)
  have e : 18446744073709551616 - x = 18446744073709551615 - (x - 1) := by omega
  have hx1 : x - 1 < W := by omega
  have e1 : x - 1 = 2 ^ k * (2 * m) + (2 ^ k - 1) := by rw [h, Nat.mul_add, Nat.mul_one]; omega
  have hlt : 18446744073709551616 - x < 18446744073709551616 := by omega
  apply Nat.eq_of_testBit_eq
  intro i
  rw [Nat.testBit_and, Nat.testBit_two_pow]
  by_cases hi : i < 64
  · rw [e, testBit_compl hx1 i hi, e1, Nat.testBit_two_pow_mul_add _ (by omega), h, low_bits]
    by_cases c : i < k
    · simp [show ¬ k ≤ i by omega, show ¬ k = i by omega]
    · rw [if_neg c]
      by_cases c2 : i = k
      · subst c2
        simp
      · obtain ⟨d, rfl⟩ : ∃ d, i = k + 1 + d := ⟨i - (k + 1), by omega⟩
        rw [show k + 1 + d - k = d + 1 by omega, Nat.testBit_succ, Nat.testBit_succ, show (2 * m + 1) / 2 = m by omega, show 2 * m / 2 = m by omega]
        simp [show ¬ k = k + 1 + d by omega]
  · have hp : (2 : Nat) ^ 64 ≤ 2 ^ i := Nat.pow_le_pow_right (by decide) (by omega)
    rw [Nat.testBit_lt_two_pow (show 18446744073709551616 - x < 2 ^ i by omega), Bool.and_false]
    simp; omega
theorem tab_all : ∀ k : Fin 64, deTab.getD (2 ^ k.val * 285870213051353865 % 18446744073709551616 / 288230376151711744) 0 = (k.val : Int) := by decide +kernel
set_option maxRecDepth 100000 in
theorem trail_walk (x k m : Nat) (h : x = 2 ^ k * (2 * m + 1)) (hx : x < W) (w : World) (hG : TabG w) : Calls Tryd.prog 60 #[.int .u64 x] w fun e w' => e = .returned (.int .i64 k) ∧ w = w' := by
  have hk := odd_lt h hx
  have hx' : x < 18446744073709551616 := hx
  have h0 : ((x : Int) == 0) = false := by
    have hp : 0 < 2 ^ k := Nat.two_pow_pos k
    have h1 : 1 ≤ x := by rw [h]; exact Nat.mul_pos hp (by omega)
    simp; omega
  have hpk : 2 ^ k < 18446744073709551616 := Nat.lt_of_lt_of_le (Nat.pow_lt_pow_right (by decide) hk) (by decide)
  obtain ⟨j, hj⟩ : ∃ j, j = 2 ^ k * 285870213051353865 % 18446744073709551616 / 288230376151711744 := ⟨_, rfl⟩
  have hj64 : j < 64 := by omega
  have ht := tab_all ⟨k, hk⟩
  simp only at ht
  rw [← hj] at ht
  have e1 : IntKind.u64.wrap (-(x : Int)) = ((18446744073709551616 - x : Nat) : Int) := by
    rw [IntKind.wrap_u64]
    simp at h0
    omega
  have e2 : bits .and .u64 (x : Int) (IntKind.u64.wrap (-(x : Int))) = ((2 ^ k : Nat) : Int) := by
    simp at h0
    rw [e1, u64_and_nat x _ hx' (by omega), low_one x k m h hx]
  have e3 : IntKind.u64.wrap (bits .and .u64 (x : Int) (IntKind.u64.wrap (-(x : Int))) * 285870213051353865) / 288230376151711744 = (j : Int) := by
    rw [e2, IntKind.wrap_u64, hj, show ((2 ^ k : Nat) : Int) * 285870213051353865 = ((2 ^ k * 285870213051353865 : Nat) : Int) by simp]
    generalize 2 ^ k * 285870213051353865 = q
    omega
  have hc := hG.tab j hj64
  rw [ht] at hc
  have hw : wrap64 (k : Int) = k := by unfold wrap64; omega
  clear e1 e2 hj ht hpk h
  go_enter Tryd.func60, Tryd.ntmps60
  go_wp2
  go_ret
  exact ⟨rfl, rfl⟩
end Go.Proofs.YtfjemaeidmikmaaDoorQ
end
section
set_option linter.unusedVariables false
set_option linter.unusedSimpArgs false
namespace Go.Proofs.YtfjemaeidmikmaaDoorQ
open Go.RowKit Go.Proofs.Bs
theorem rhas_walk (s : S) (hs : s.wf) (b : Int) (h0 : 0 ≤ b) (h1 : b < 256) (w : World) : Calls Tryd.prog 45 #[.agg #[.int .u64 s.a, .int .u64 s.b, .int .u64 s.c, .int .u64 s.d], .int .i64 b] w fun e w' => e = .returned (.bool (has s b.toNat)) ∧ Below w.heap.size w w' := by
  rcases (show b / 64 = (0 : Nat) ∨ b / 64 = (1 : Nat) ∨ b / 64 = (2 : Nat) ∨ b / 64 = (3 : Nat) by omega) with hq | hq | hq | hq
  all_goals
    have H := Lib.hid (has_at s hs b h0 _ hq)
    go_enter Tryd.func45, Tryd.ntmps45
    go_wp2
    go_ret
    exact ⟨ret_has H.out, (Below.refl _ _).alloc (Nat.le_refl _) _⟩
def tattingref01_Has.f (a0_0 a0_1 a0_2 a0_3 a1 : Int) : Option Bool := if wfI a0_0 a0_1 a0_2 a0_3 ∧ 0 ≤ a1 ∧ a1 < 256 then some (has (setI a0_0 a0_1 a0_2 a0_3) a1.toNat) else none
theorem tattingref01_Has.calls (a0_0 a0_1 a0_2 a0_3 : Int) (a1 : Int) (r : Bool) (w : World) (h : tattingref01_Has.f a0_0 a0_1 a0_2 a0_3 a1 = some r) :
    Calls Tryd.prog 45 #[.agg #[.int .u64 a0_0, .int .u64 a0_1, .int .u64 a0_2, .int .u64 a0_3], .int .i64 a1] w fun e w' => e = .returned (.bool r) ∧ Below w.heap.size w w' := by
  unfold tattingref01_Has.f at h
  split at h
  case isFalse => cases h
  case isTrue c =>
    injection h with h
    subst h
    obtain ⟨e0, e1, e2, e3⟩ := setI_cast c.1
    have hw := rhas_walk (setI a0_0 a0_1 a0_2 a0_3) (setI_wf c.1) a1 c.2.1 c.2.2 w
    rw [e0, e1, e2, e3] at hw
    exact hw
end Go.Proofs.YtfjemaeidmikmaaDoorQ
end
section
set_option linter.unusedVariables false
set_option linter.unusedSimpArgs false
namespace Go.Proofs.YtfjemaeidmikmaaDoorQ
open Go.RowKit Go.Proofs.Bs Go.Proofs.YtfjemaeidmikmaaDoor
theorem run_set0 (a b c d : Value) (w : World) : (Instr.index 62 (.agg #[a, b, c, d]) (.int .i64 0)).run Tryd.prog w = .ok a w := by
  simp only [Instr.index, run_underlying Tryd.underlying62, asIntOf, go_sem]
  simp [go_sem]
theorem run_set1 (a b c d : Value) (w : World) : (Instr.index 62 (.agg #[a, b, c, d]) (.int .i64 1)).run Tryd.prog w = .ok b w := by
  simp only [Instr.index, run_underlying Tryd.underlying62, asIntOf, go_sem]
  simp [go_sem]
theorem run_set2 (a b c d : Value) (w : World) : (Instr.index 62 (.agg #[a, b, c, d]) (.int .i64 2)).run Tryd.prog w = .ok c w := by
  simp only [Instr.index, run_underlying Tryd.underlying62, asIntOf, go_sem]
  simp [go_sem]
theorem run_set3 (a b c d : Value) (w : World) : (Instr.index 62 (.agg #[a, b, c, d]) (.int .i64 3)).run Tryd.prog w = .ok d w := by
  simp only [Instr.index, run_underlying Tryd.underlying62, asIntOf, go_sem]
  simp [go_sem]
attribute [local go_sem] run_set0 run_set1 run_set2 run_set3
--%end
end Go.Proofs.YtfjemaeidmikmaaDoorQ
end
