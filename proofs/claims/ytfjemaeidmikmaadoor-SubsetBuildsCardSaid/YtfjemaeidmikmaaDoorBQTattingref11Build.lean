import Derived.Test.YtfjemaeidmikmaaDoorBQ0
import Derived.Test.YtfjemaeidmikmaaDoorBM3
import Derived.Test.YtfjemaeidmikmaaDoorBQTattingref09Close
import Derived.Test.YtfjemaeidmikmaaDoorBQTattingref09Of
import Derived.Test.YtfjemaeidmikmaaDoorBQTattingref09Step
import Derived.Test.YtfjemaeidmikmaaDoorBQTattingref10Classes
import Derived.Test.YtfjemaeidmikmaaDoorBQTattingref10Firsts
import Derived.Test.YtfjemaeidmikmaaDoorBQTattingref11Find
namespace Go.Proofs.YtfjemaeidmikmaaDoorQ
open Go.RowKit Go.Proofs.YtfjemaeidmikmaaDoorW.PrintWords Go.Proofs.YtfjemaeidmikmaaDoorW.PrintLast Go.Proofs.YtfjemaeidmikmaaDoorW.PrintMore
attribute [local go_sem] max2_int min2_int max_two min_two max_three min_three max_four min_four
set_option linter.unusedVariables false
set_option linter.unusedSimpArgs false
mutual
def tattingref11_Build.l0 : Nat → Int → List Int → Int → List Int → List (List Bool) → List Int → Int → List (S64) → Int → Int → Option (List Int × Int × Int × List Int × List Bool × Bool)
 | 0, _, _, _, _, _, _, _, _, _, _ => none
 | k + 1, x1, x6, x7, x8, x9, x10, x11, x102000, x102001, x102002 => if x11 < (x9.length : Int) then (tattingref11_Build.j1 k x1 x6 x7 x8 x9 x10 x11 (decide ((x9.length : Int) ≤ x1)) x102000 x102001 x102002) else (tattingref11_Build.j1 k x1 x6 x7 x8 x9 x10 x11 false x102000 x102001 x102002)
def tattingref11_Build.j1 : Nat → Int → List Int → Int → List Int → List (List Bool) → List Int → Int → Bool → List (S64) → Int → Int → Option (List Int × Int × Int × List Int × List Bool × Bool)
 | 0, _, _, _, _, _, _, _, _, _, _, _ => none
 | k + 1, x1, x6, x7, x8, x9, x10, x11, x42, x102000, x102001, x102002 => if x42 = true then (tattingref11_Build.l1 k x1 x6 x7 x8 x9 x10 x11 0 x102000 x102001 x102002) else (if (x9.length : Int) > x1 then (some (([] : List Int), 0, 0, ([] : List Int), ([] : List Bool), false)) else (tattingref11_Build.l2 k x9 0 x102000 x102001 x102002 x6 x7 0 x10 ([] : List Bool)))
def tattingref11_Build.l1 : Nat → Int → List Int → Int → List Int → List (List Bool) → List Int → Int → Int → List (S64) → Int → Int → Option (List Int × Int × Int × List Int × List Bool × Bool)
 | 0, _, _, _, _, _, _, _, _, _, _, _ => none
 | k + 1, x1, x6, x7, x8, x9, x10, x11, x12, x102000, x102001, x102002 => if x12 < x7 then (if 0 ≤ x11 then (if x11 < (x9.length : Int) then (if 0 ≤ x12 then (if x12 < (x8.length : Int) then (if (rd x8 x12) < 256 then ((tattingref09_Step.f k x102000 x102001 x102002 (rd_L10 x9 x11) (rd x8 x12)).bind fun t125 => ((tattingref11_find.f k x9 t125).bind fun t128 => (if t128 < 0 then (if x9.length < 5864062014805 then (if x10.length < 17592186044416 then (tattingref11_Build.l1 k x1 x6 x7 x8 (x9 ++ [t125]) (x10 ++ [(x9.length : Int)]) x11 (wrap64 (x12 + 1)) x102000 x102001 x102002) else (none)) else (none)) else (if x10.length < 17592186044416 then (tattingref11_Build.l1 k x1 x6 x7 x8 x9 (x10 ++ [t128]) x11 (wrap64 (x12 + 1)) x102000 x102001 x102002) else (none))))) else ((tattingref09_Close.f k x102000 x102001 x102002 (rd_L10 x9 x11) (rd x8 x12)).bind fun t139 => ((tattingref11_find.f k x9 t139).bind fun t142 => (if t142 < 0 then (if x9.length < 5864062014805 then (if x10.length < 17592186044416 then (tattingref11_Build.l1 k x1 x6 x7 x8 (x9 ++ [t139]) (x10 ++ [(x9.length : Int)]) x11 (wrap64 (x12 + 1)) x102000 x102001 x102002) else (none)) else (none)) else (if x10.length < 17592186044416 then (tattingref11_Build.l1 k x1 x6 x7 x8 x9 (x10 ++ [t142]) x11 (wrap64 (x12 + 1)) x102000 x102001 x102002) else (none)))))) else (none)) else (none)) else (none)) else (none)) else (tattingref11_Build.l0 k x1 x6 x7 x8 x9 x10 (wrap64 (x11 + 1)) x102000 x102001 x102002)
def tattingref11_Build.l2 : Nat → List (List Bool) → Int → List (S64) → Int → Int → List Int → Int → Int → List Int → List Bool → Option (List Int × Int × Int × List Int × List Bool × Bool)
 | 0, _, _, _, _, _, _, _, _, _, _ => none
 | k + 1, x9, x16, x102000, x102001, x102002, x153000, x153001, x153002, x153003, x153004 => if x16 < (x9.length : Int) then (if 0 ≤ x16 then (if 0 ≤ x102002 then (if x102002 < ((rd_L10 x9 x16).length : Int) then (if x153004.length < 140737488355328 then (tattingref11_Build.l2 k x9 (wrap64 (x16 + 1)) x102000 x102001 x102002 x153000 x153001 x153002 x153003 (x153004 ++ [rdOf false (rd_L10 x9 x16) x102002])) else (none)) else (none)) else (none)) else (none)) else (some (x153000, x153001, x153002, x153003, x153004, true))
end
def tattingref11_Build.f (k : Nat) (l0_0 : List (S64)) (a0_1 : Int) (a0_2 : Int) (a1 : Int) : Option (List Int × Int × Int × List Int × List Bool × Bool) := (tattingref10_Classes.f k l0_0 a0_1 a0_2).bind fun bt103 => ((tattingref10_Firsts.f k bt103.1 bt103.2).bind fun t107 => ((tattingref09_Of.f k l0_0 a0_1 a0_2 (([a0_1] : List Int))).bind fun t113 => ((tattingref09_Close.f k l0_0 a0_1 a0_2 t113 0).bind fun t116 => (tattingref11_Build.l0 k a1 bt103.1 bt103.2 t107 (([t116] : List (List Bool))) ([] : List Int) 0 l0_0 a0_1 a0_2))))
def tattingref11_Build.T3 : Bool × List (List Nat × List Nat) := (true, [([], []), ([], []), ([], []), ([2], [2]), ([3], [3]), ([1, 4], [1, 4]), ([0, 5, 5], [0, 5]), ([6], [6]), ([7, 6, 0, 1, 2, 3, 4, 5, 6, 7], [7])])
def tattingref11_Build.B3 : List Nat := [0, 0, 0, 4, 12, 30, 63, 127, 255]
theorem tat11Build_t26 {P : Prop} (h : P := by (with_reducible repeat (first | apply Kd.R_alloc | apply Kd.R_drewN | apply Kd.R_drew)); exact HO_153004.out) : P := h
theorem tat11Build_t25 {P : Prop} (h : P := by repeat (first | (with_reducible first | exact HB.out | apply below_alloc | apply pw_below_drewN | apply below_drew1 | refine below_set ?_ GE101.out | refine below_set ?_ GE102.out | refine below_set ?_ GE152.out) | exact HB.out)) : P := h
theorem tat11Build_t24 {P : Prop} (h : P := by repeat (first | (with_reducible first | exact HB.out | apply below_alloc | apply pw_below_drewN | apply below_drew1) | exact HB.out)) : P := h
theorem tat11Build_t23 {P : Prop} (h : P := by (with_reducible repeat (first | apply Kd.N_alloc | apply Kd.N_drewN | apply Kd.N_drew)); exact Kd.N_mono HO_9.out (fun _ hk => (by first | exact ⟨hk.1.1, ⟨hk.1.2.1, ⟨hk.1.2.2.1, ⟨hk.1.2.2.2.1, hk.1.2.2.2.2⟩⟩⟩⟩ | (simp_all; done) | grind))) : P := h
theorem tat11Build_t22 {P : Prop} (h : P := by (with_reducible repeat (first | apply Kd.N_alloc | apply Kd.N_drewN | apply Kd.N_drew)); exact Kd.N_mono HO_9.out (fun _ hk => (by first | exact ⟨⟨hk.1.1, ⟨hk.1.2.1, ⟨hk.2, ⟨hk.1.2.2.2.1, hk.1.2.2.2.2⟩⟩⟩⟩, hk.1.2.2.1⟩ | (simp_all; done) | grind))) : P := h
theorem tat11Build_t21 {P : Prop} (h : P := by (with_reducible repeat (first | apply Kd.V_alloc | apply Kd.V_drewN | apply Kd.V_drew)); exact Kd.V_mono HL122_0.out (fun _ hk => (by first | exact ⟨⟨hk.1.1, ⟨hk.1.2.1, ⟨hk.2, ⟨hk.1.2.2.2.2.1, hk.1.2.2.2.2.2⟩⟩⟩⟩, hk.1.2.2.1⟩ | (simp_all; done) | grind))) : P := h
theorem tat11Build_t20 {P : Prop} (h : P := by (with_reducible repeat (first | apply Kd.R_alloc | apply Kd.R_drewN | apply Kd.R_drew)); exact HO115.out) : P := h
theorem tat11Build_t19 {P : Prop} (h : P := by (with_reducible repeat (first | apply Kd.R_alloc | apply Kd.R_drewN | apply Kd.R_drew)); exact HO112.out) : P := h
theorem tat11Build_t18 {P : Prop} (h : P := by (with_reducible repeat (first | apply Kd.V_alloc | apply Kd.V_drewN | apply Kd.V_drew)); exact Kd.V_mono HL122_0.out (fun _ hk => (by first | exact ⟨⟨hk.1.1.1, ⟨hk.1.1.2.1, ⟨hk.1.2, ⟨hk.2, ⟨hk.1.1.2.2.2.1, hk.1.1.2.2.2.2⟩⟩⟩⟩⟩, hk.1.1.2.2.1⟩ | (simp_all; done) | grind))) : P := h
theorem tat11Build_t17 {P : Prop} (h : P := by (with_reducible repeat (first | apply Kd.V_alloc | apply Kd.V_drewN | apply Kd.V_drew)); exact Kd.V_mono HL122_0.out (fun _ hk => (by first | exact ⟨⟨hk.1.1.1, ⟨hk.1.1.2.1, ⟨hk.1.1.2.2.1, ⟨hk.2, ⟨hk.1.1.2.2.2.1, hk.1.1.2.2.2.2⟩⟩⟩⟩⟩, hk.1.2⟩ | (simp_all; done) | grind))) : P := h
theorem tat11Build_t16 {P : Prop} (h : P := by first | exact q122 | exact of_decide_eq_true tat11Build_t8 | (have e_ := (Kd.N_reads' HO_9.out).1; omega)) : P := h
theorem tat11Build_t15 {P : Prop} (h : P := by (with_reducible repeat (first | apply Kd.V_alloc | apply Kd.V_drewN | apply Kd.V_drew)); exact HL122_0.out) : P := h
theorem tat11Build_t14 {P : Prop} (h : P := by repeat (first | (with_reducible first | exact HB.out | apply below_alloc | apply pw_below_drewN | apply below_drew1 | refine below_set ?_ GE101.out) | exact HB.out)) : P := h
theorem tat11Build_t13 {P : Prop} (h : P := by first | rfl | (simp; done) | (simp [*]; done)) : P := h
theorem tat11Build_t12 {P : Prop} (h : P := by first | exact ⟨⟨hk.1.1.1.1.1.2, ⟨hk.1.1.1.1.2, ⟨hk.1.1.1.2, ⟨hk.1.2, hk.2⟩⟩⟩⟩, hk.1.1.2⟩ | (simp_all; done) | grind) : P := h
theorem tat11Build_t11 {P : Prop} (h : P := by (with_reducible repeat (first | apply Kd.R_alloc | apply Kd.R_drewN | apply Kd.R_drew)); exact HO109.out) : P := h
theorem tat11Build_t10 {P : Prop} (h : P := by (with_reducible repeat (first | apply Kd.R_alloc | apply Kd.R_drewN | apply Kd.R_drew)); exact HO105.out) : P := h
theorem tat11Build_t9 {P : Prop} (h : P := by (with_reducible repeat (first | apply Kd.N_alloc | apply Kd.N_drewN | apply Kd.N_drew)); exact HO_9.out) : P := h
theorem tat11Build_t8 {P : Prop} (h : P := by first | (with_reducible assumption) | assumption) : P := h
theorem tat11Build_t7 {P : Prop} (h : P := by repeat (first | (with_reducible exact HR122_0.out) | (with_reducible refine Kd.C_alloc ?_ _) | (with_reducible refine Kd.C_drewN ?_ _) | (with_reducible refine Kd.C_drew ?_) | exact HR122_0.out)) : P := h
theorem tat11Build_t6 {P : Prop} (h : P := by (with_reducible repeat (first | apply Kd.R_alloc | apply Kd.R_drewN | apply Kd.R_drew)); exact HO_10.out) : P := h
theorem tat11Build_t5 {P : Prop} (h : P := by (try simp only [List.map_toArray, List.map_cons, List.map_nil]); first | done | rfl | (simp only [List.length_drop, List.length_take]; rfl)) : P := h
theorem tat11Build_t4 {P : Prop} (h : P := by (with_reducible repeat (first | apply Kd.R_alloc | apply Kd.R_drewN | apply Kd.R_drew)); exact HO_8.out) : P := h
theorem tat11Build_t3 {P : Prop} (h : P := by (with_reducible repeat (first | apply Kd.R_alloc | apply Kd.R_drewN | apply Kd.R_drew)); exact HO_6.out) : P := h
theorem tat11Build_t2 {P : Prop} (h : P := by (with_reducible repeat (first | refine blk_drewN ?_ _ | refine blk_drew ?_ | refine blk_alloc ?_ _)); exact BK102.out) : P := h
theorem tat11Build_t1 {P : Prop} (h : P := by (with_reducible repeat (first | refine blk_drewN ?_ _ | refine blk_drew ?_ | refine blk_alloc ?_ _)); exact BK101.out) : P := h
theorem tat11Build_t0 {P : Prop} (h : P := by repeat (first | (with_reducible first | exact HB.out | apply below_alloc | apply pw_below_drewN | apply below_drew1 | refine below_set ?_ GE101.out | refine below_set ?_ GE102.out) | exact HB.out)) : P := h
theorem tattingref11_Build.tab3 : rtab .any (opsOf Tryd.f10 3) = tattingref11_Build.T3 := by kernel_rfl
theorem tattingref11_Build.bits3 : waitsOk tattingref11_Build.T3.2 tattingref11_Build.B3 = true := by kernel_rfl
def tattingref11_Build.T13 : Bool × List (List Nat × List Nat) := (true, [([], []), ([], []), ([], []), ([], []), ([2, 3], [2, 3]), ([4], [4]), ([0, 1, 5], [0, 1, 5]), ([6, 6, 0, 1, 2, 3, 4, 5, 6], [1, 6])])
def tattingref11_Build.B13 : List Nat := [0, 0, 0, 0, 12, 28, 63, 127]
theorem tattingref11_Build.tab13 : rtab .any (opsOf Tryd.f10 13) = tattingref11_Build.T13 := by kernel_rfl
theorem tattingref11_Build.bits13 : waitsOk tattingref11_Build.T13.2 tattingref11_Build.B13 = true := by kernel_rfl
def tattingref11_Build.T14 : Bool × List (List Nat × List Nat) := (true, [([], []), ([], []), ([], []), ([], []), ([2, 3], [2, 3]), ([4], [4]), ([0, 1, 5], [0, 1, 5]), ([6, 6, 0, 1, 2, 3, 4, 5, 6], [1, 6])])
def tattingref11_Build.B14 : List Nat := [0, 0, 0, 0, 12, 28, 63, 127]
theorem tattingref11_Build.tab14 : rtab .any (opsOf Tryd.f10 14) = tattingref11_Build.T14 := by kernel_rfl
theorem tattingref11_Build.bits14 : waitsOk tattingref11_Build.T14.2 tattingref11_Build.B14 = true := by kernel_rfl
def tattingref11_Build.T26 : Bool × List (List Nat × List Nat) := (true, [([], []), ([0], [0]), ([], []), ([], []), ([2, 3], [2, 3]), ([4], [4]), ([], []), ([6], [6]), ([5, 7], [5, 7]), ([8], [8]), ([9], [9]), ([1, 10], [1, 10]), ([0, 1, 2, 3, 4, 5, 6, 7, 8, 9, 10, 11], []), ([12, 11, 11, 0, 1, 2, 3, 4, 5, 6, 7, 8, 9, 10, 11], [11, 12])])
def tattingref11_Build.B26 : List Nat := [0, 1, 0, 0, 12, 28, 0, 64, 252, 508, 1020, 2047, 4095, 8191]
theorem tattingref11_Build.tab26 : rtab .any (opsOf Tryd.f10 26) = tattingref11_Build.T26 := by kernel_rfl
theorem tattingref11_Build.bits26 : waitsOk tattingref11_Build.T26.2 tattingref11_Build.B26 = true := by kernel_rfl
set_option maxHeartbeats 80000000 in
set_option maxRecDepth 100000 in
theorem tattingref11_Build.calls (k : Nat) (A0_0 : Option Addr) (c0_0 : Nat) (l0_0 : List (S64)) (a0_1 : Int) (a0_2 : Int) (a1 : Int) (r1 : List Int) (r2 : Int) (r3 : Int) (r4 : List Int) (r5 : List Bool) (r6 : Bool) (w : World) (hr0_0 : Kd.C k64 w A0_0 l0_0.length l0_0) (hc0_0 : l0_0.length ≤ c0_0) (h : tattingref11_Build.f k l0_0 a0_1 a0_2 a1 = some (r1, r2, r3, r4, r5, r6)) :
  Calls Tryd.prog 10 #[.agg #[.slice A0_0 l0_0.length c0_0, .int .i64 a0_1, .int .i64 a0_2], .int .i64 a1] w fun e w' => ∃ v0_ v3_ v4_ : Value, e = .returned (.tuple #[.agg #[v0_, .int .i64 r2, .int .i64 r3, v3_, v4_], .bool r6]) ∧ Kd.R (Kd.int .i64) 3 w' w.heap.size (fun k_ => some k_ ≠ (v3_ : Value).ownBlock) v0_ r1 ∧ Kd.R (Kd.int .i64) 3 w' w.heap.size (fun k_ => some k_ ≠ (v0_ : Value).ownBlock) v3_ r4 ∧ Kd.R Kd.bool 4 w' w.heap.size (fun _ => True) v4_ r5 ∧ Below w.heap.size w w' := by
 have hu24 := Tryd.underlying24
 have hu30 := Tryd.underlying30
 have HR0_0 := Aside0.mk hr0_0
 have HC0_0 := Aside0.mk hc0_0
 clear hr0_0 hc0_0
 have HB := Aside0.mk (Below.refl w.heap.size w)
 have H : ((tattingref10_Classes.f k l0_0 a0_1 a0_2).bind fun bt103 => ((tattingref10_Firsts.f k bt103.1 bt103.2).bind fun t107 => ((tattingref09_Of.f k l0_0 a0_1 a0_2 (([a0_1] : List Int))).bind fun t113 => ((tattingref09_Close.f k l0_0 a0_1 a0_2 t113 0).bind fun t116 => (tattingref11_Build.l0 k a1 bt103.1 bt103.2 t107 (([t116] : List (List Bool))) ([] : List Int) 0 l0_0 a0_1 a0_2))))) = some (r1, r2, r3, r4, r5, r6) := h
 clear h
 replace H := Option.bind_eq_some_iff.mp H
 obtain ⟨⟨t103, t106⟩, A30, H⟩ := H
 replace H : ((tattingref10_Firsts.f k t103 t106).bind fun t107 => ((tattingref09_Of.f k l0_0 a0_1 a0_2 (([a0_1] : List Int))).bind fun t113 => ((tattingref09_Close.f k l0_0 a0_1 a0_2 t113 0).bind fun t116 => (tattingref11_Build.l0 k a1 t103 t106 t107 (([t116] : List (List Bool))) ([] : List Int) 0 l0_0 a0_1 a0_2)))) = some (r1, r2, r3, r4, r5, r6) := H
 have A3 := Aside0.mk A30
 clear A30
 replace H := Option.bind_eq_some_iff.mp H
 obtain ⟨t107, A40, H⟩ := H
 replace H : ((tattingref09_Of.f k l0_0 a0_1 a0_2 (([a0_1] : List Int))).bind fun t113 => ((tattingref09_Close.f k l0_0 a0_1 a0_2 t113 0).bind fun t116 => (tattingref11_Build.l0 k a1 t103 t106 t107 (([t116] : List (List Bool))) ([] : List Int) 0 l0_0 a0_1 a0_2))) = some (r1, r2, r3, r4, r5, r6) := H
 have A4 := Aside0.mk A40
 clear A40
 obtain ⟨y110, hy110⟩ : ∃ y_ : List Int, y_ = (([a0_1] : List Int)) := ⟨_, rfl⟩
 replace H : ((tattingref09_Of.f k l0_0 a0_1 a0_2 y110).bind fun t113 => ((tattingref09_Close.f k l0_0 a0_1 a0_2 t113 0).bind fun t116 => (tattingref11_Build.l0 k a1 t103 t106 t107 (([t116] : List (List Bool))) ([] : List Int) 0 l0_0 a0_1 a0_2))) = some (r1, r2, r3, r4, r5, r6) := by first | (rw [hy110]; with_reducible exact H) | (have H2_ := (Option.bind_some _ _).symm.trans H; rw [hy110]; with_reducible exact H2_) | (have H2_ := (Option.bind_some _ _).symm.trans H; with_reducible exact H2_) | with_reducible exact H | (rw [hy110]; exact H) | exact H
 have Ny110 := Aside0.mk hy110
 clear hy110
 replace H := Option.bind_eq_some_iff.mp H
 obtain ⟨t113, A50, H⟩ := H
 replace H : ((tattingref09_Close.f k l0_0 a0_1 a0_2 t113 0).bind fun t116 => (tattingref11_Build.l0 k a1 t103 t106 t107 (([t116] : List (List Bool))) ([] : List Int) 0 l0_0 a0_1 a0_2)) = some (r1, r2, r3, r4, r5, r6) := H
 have A5 := Aside0.mk A50
 clear A50
 replace H := Option.bind_eq_some_iff.mp H
 obtain ⟨t116, A60, H⟩ := H
 replace H : (tattingref11_Build.l0 k a1 t103 t106 t107 (([t116] : List (List Bool))) ([] : List Int) 0 l0_0 a0_1 a0_2) = some (r1, r2, r3, r4, r5, r6) := H
 have A6 := Aside0.mk A60
 clear A60
 obtain ⟨y119, hy119⟩ : ∃ y_ : List (List Bool), y_ = (([t116] : List (List Bool))) := ⟨_, rfl⟩
 replace H : (tattingref11_Build.l0 k a1 t103 t106 t107 y119 ([] : List Int) 0 l0_0 a0_1 a0_2) = some (r1, r2, r3, r4, r5, r6) := by first | (rw [hy119]; with_reducible exact H) | (have H2_ := (Option.bind_some _ _).symm.trans H; rw [hy119]; with_reducible exact H2_) | (have H2_ := (Option.bind_some _ _).symm.trans H; with_reducible exact H2_) | with_reducible exact H | (rw [hy119]; exact H) | exact H
 have Ny119 := Aside0.mk hy119
 clear hy119
 have H' := Aside0.mk H
 clear H
 go_enter Tryd.func10, Tryd.ntmps10
 try go_wp2_with (first | ((with_reducible refine gate_dst (N := 2) rfl ?_); (try (refine gate_guard (by rfl) ?_; dsimp only)); refine box_event ?hg (N := 2) ?hd (cs := #[.slice A0_0 l0_0.length c0_0, .int .i64 a0_1, .int .i64 a0_2]) (t := 24) ?hr ?_; (case hd => rfl); (case hg => rfl); (case hr => first | (go_simp; done) | (go_simp; rfl)); intro gb101 hg w7 hbox hb; have n0_ := Aside0.mk (below_step tat11Build_t24 hb); have n1_ := Aside0.mk (hbox); have n2_ := Aside0.mk ((by rw [hg]; exact (below_size tat11Build_t24) : w.heap.size ≤ gb101)); have n3_ := Aside0.mk ((by rw [hg]; exact (below_size tat11Build_t24) : w.heap.size ≤ gb101)); clear HB; have HB := n0_; have BK101 := n1_; have GW101 := n2_; have GE101 := n3_; clear n0_ n1_ n2_ n3_; clear hb hbox hg) | ((with_reducible refine gate_dst (N := 4) rfl ?_); (try (refine gate_guard (by rfl) ?_; dsimp only)); refine box_event ?hg (N := 4) ?hd (cs := #[.slice none 0 0, .int .i64 0, .int .i64 0, .slice none 0 0, .slice none 0 0]) (t := 30) ?hr ?_; (case hd => rfl); (case hg => rfl); (case hr => first | (go_simp; done) | (go_simp; rfl)); intro gb102 hg w8 hbox hb; have n0_ := Aside0.mk (blk_below (g := gb101) (o := .cells #[.slice A0_0 l0_0.length c0_0, .int .i64 a0_1, .int .i64 a0_2] 24 (0, 0)) tat11Build_t1 hb); have n1_ := Aside0.mk (below_step tat11Build_t14 hb); have n2_ := Aside0.mk (hbox); have n3_ := Aside0.mk ((by rw [hg]; exact (below_size tat11Build_t14) : w.heap.size ≤ gb102)); have n4_ := Aside0.mk ((by rw [hg]; exact (below_size tat11Build_t14) : w.heap.size ≤ gb102)); have n5_ := Aside0.mk ((by rw [hg]; exact Nat.ne_of_lt (blk_lt (g := gb101) (o := .cells #[.slice A0_0 l0_0.length c0_0, .int .i64 a0_1, .int .i64 a0_2] 24 (0, 0)) tat11Build_t1) : gb101 ≠ gb102)); have n6_ := Aside0.mk ((by rw [hg]; exact Nat.ne_of_gt (blk_lt (g := gb101) (o := .cells #[.slice A0_0 l0_0.length c0_0, .int .i64 a0_1, .int .i64 a0_2] 24 (0, 0)) tat11Build_t1) : gb102 ≠ gb101)); clear BK101; clear HB; have BK101 := n0_; have HB := n1_; have BK102 := n2_; have GW102 := n3_; have GE102 := n4_; have NB101_102 := n5_; have NB102_101 := n6_; clear n0_ n1_ n2_ n3_ n4_ n5_ n6_; clear hb hbox hg; have hnb9 := NB101_102.out; have hnc9 := NB102_101.out; have hcz10_0 : w8.cell? ⟨gb101, 0, none⟩ = some (.slice A0_0 l0_0.length c0_0) := (blk_cell BK101.out 0).trans rfl; have hcz10_1 : w8.cell? ⟨gb101, 1, none⟩ = some (.int .i64 a0_1) := (blk_cell BK101.out 1).trans rfl; have hcz10_2 : w8.cell? ⟨gb101, 2, none⟩ = some (.int .i64 a0_2) := (blk_cell BK101.out 2).trans rfl; have hfz10_0 := blk_frozen BK101.out 0; have hfz10_1 := blk_frozen BK101.out 1; have hfz10_2 := blk_frozen BK101.out 2) | ((with_reducible refine gate_callee (f := 23) rfl ?_); refine goesL_ (some 19) rfl rfl Tryd.func23 (by kernel_rfl) rfl #[.agg #[.slice A0_0 l0_0.length c0_0, .int .i64 a0_1, .int .i64 a0_2]] rfl tat11Build_t5 ?_; (with_reducible refine (tattingref10_Classes.calls k _ _ l0_0 a0_1 a0_2 t103 t106 _ ?side1 ?side2 A3.out).mono ?_); (case side1 => repeat (first | exact (Kd.C_below HR0_0.out HB.out) | (with_reducible refine Kd.C_alloc ?_ _) | (with_reducible refine Kd.C_drewN ?_ _) | (with_reducible refine Kd.C_drew ?_))); (case side2 => exact HC0_0.out); rintro e w11 ⟨v104, rfl, ho0, hb⟩; refine ⟨_, rfl, ?_⟩; have n0_ := Aside0.mk (Kd.R_lower ho0 (below_size tat11Build_t0)); have n1_ := Aside0.mk (blk_below (g := gb101) (o := .cells #[.slice A0_0 l0_0.length c0_0, .int .i64 a0_1, .int .i64 a0_2] 24 (0, 0)) tat11Build_t1 hb); have n2_ := Aside0.mk (blk_below (g := gb102) (o := .cells #[.slice none 0 0, .int .i64 0, .int .i64 0, .slice none 0 0, .slice none 0 0] 30 (0, 0)) tat11Build_t2 hb); have n3_ := Aside0.mk (below_step tat11Build_t0 hb); clear BK101; clear BK102; clear HB; have HO105 := n0_; have BK101 := n1_; have BK102 := n2_; have HB := n3_; clear n0_ n1_ n2_ n3_; (try clear hb); (try clear hb2); (try clear hk); (try clear hi); (try clear ho0); obtain ⟨Ao12, co12, eo12⟩ := Kd.R_slice HO105.out; subst eo12) | ((with_reducible refine gate_callee (f := 24) rfl ?_); refine goesL_ (some 24) rfl rfl Tryd.func24 (by kernel_rfl) rfl #[.slice Ao12 t103.length co12, .int .i64 t106] rfl tat11Build_t5 ?_; (with_reducible refine (tattingref10_Firsts.calls k _ _ t103 t106 t107 _ ?side1 ?side2 A4.out).mono ?_); (case side1 => repeat (first | exact (Kd.R_reads' HO105.out).2.2 | (with_reducible refine Kd.C_alloc ?_ _) | (with_reducible refine Kd.C_drewN ?_ _) | (with_reducible refine Kd.C_drew ?_))); (case side2 => exact (Kd.R_reads' HO105.out).2.1); rintro e w13 ⟨v108, rfl, ho0, hb⟩; refine ⟨_, rfl, ?_⟩; have n0_ := Aside0.mk (Kd.R_elder' tat11Build_t10 (Kd.R_base ho0) hb); have n1_ := Aside0.mk (Kd.R_lower (Kd.R_new' ho0 (Kd.R_lt tat11Build_t10)) (below_size tat11Build_t0)); have n2_ := Aside0.mk (blk_below (g := gb101) (o := .cells #[.slice A0_0 l0_0.length c0_0, .int .i64 a0_1, .int .i64 a0_2] 24 (0, 0)) tat11Build_t1 hb); have n3_ := Aside0.mk (blk_below (g := gb102) (o := .cells #[.slice none 0 0, .int .i64 0, .int .i64 0, .slice none 0 0, .slice none 0 0] 30 (0, 0)) tat11Build_t2 hb); have n4_ := Aside0.mk (below_step tat11Build_t0 hb); clear HO105; clear BK101; clear BK102; clear HB; have HO105 := n0_; have HO109 := n1_; have BK101 := n2_; have BK102 := n3_; have HB := n4_; clear n0_ n1_ n2_ n3_ n4_; (try clear hb); (try clear hb2); (try clear hk); (try clear hi); (try clear ho0)))
 have n0_ := Aside0.mk (Kd.R_drew HO105.out)
 have n1_ := Aside0.mk (Kd.R_drew HO109.out)
 have n2_ := Aside0.mk (blk_drew BK101.out)
 have n3_ := Aside0.mk (blk_drew BK102.out)
 have n4_ := Aside0.mk (below_drew1 HB.out)
 clear HO105
 clear HO109
 clear BK101
 clear BK102
 clear HB
 have HO105 := n0_
 have HO109 := n1_
 have BK101 := n2_
 have BK102 := n3_
 have HB := n4_
 clear n0_ n1_ n2_ n3_ n4_
 refine start_ (n := 9) (S := fun w' => w'.cell? ⟨gb101, 0, none⟩ = some (.slice A0_0 l0_0.length c0_0) ∧ w'.cell? ⟨gb101, 1, none⟩ = some (.int .i64 a0_1) ∧ w'.cell? ⟨gb101, 2, none⟩ = some (.int .i64 a0_2)) (ds := []) #[false, false, false, false, false, false, false, false, false] (by kernel_rfl) rfl rfl ⟨(blk_cell BK101.out 0).trans rfl, (blk_cell BK101.out 1).trans rfl, (blk_cell BK101.out 2).trans rfl⟩ (fun hHeld => ?_); refine with_tabW tattingref11_Build.tab3 tattingref11_Build.bits3 (fun HT_ HW_ => ?_)
 generalize w13.drew = w14 at HO105 HO109 BK101 BK102 HB hHeld ⊢
 refine pure_ (i := 2) (N := some 27) (v := ?_) (a' := ?_) #[false, false, true, false, false, false, false, false, false] rfl rfl (any_of HT_.out (by kernel_rfl)) (fun _ _ _ h => h) (Or.inl ⟨by rfl, ?_⟩) ?_ ?_
 rotate_left
 ·intro w'
  go_simp
  with_reducible rfl
 rotate_left
 ·simp only [Act.put, List.setIfInBounds_toArray, List.set_cons_zero, List.set_cons_succ, i64_w, i32_w]
  rfl
 refine take_ (i := 0) (N := some 25) (v := ?_) (a' := ?_) #[true, false, true, false, false, false, false, false, false] rfl rfl (take_ofW HT_.out HW_.out (by kernel_rfl)) (fun _ _ _ h => h) (Or.inl ⟨by rfl, ?_⟩) hHeld ?_ ?_
 rotate_left
 ·rintro w' ⟨s0, s1, s2⟩
  go_simp
  with_reducible rfl
 rotate_left
 ·simp only [Act.put, List.setIfInBounds_toArray, List.set_cons_zero, List.set_cons_succ, i64_w, i32_w]
  rfl
 refine take_ (i := 1) (N := some 26) (v := ?_) (a' := ?_) #[true, true, true, false, false, false, false, false, false] rfl rfl (take_ofW HT_.out HW_.out (by kernel_rfl)) (fun _ _ _ h => h) (Or.inl ⟨by rfl, ?_⟩) hHeld ?_ ?_
 rotate_left
 ·rintro w' ⟨s0, s1, s2⟩
  go_simp
  with_reducible rfl
 rotate_left
 ·simp only [Act.put, List.setIfInBounds_toArray, List.set_cons_zero, List.set_cons_succ, i64_w, i32_w]
  rfl
 refine take_ (i := 3) (N := some 28) (v := ?_) (a' := ?_) #[true, true, true, true, false, false, false, false, false] rfl rfl (take_ofW HT_.out HW_.out (by kernel_rfl)) (fun _ _ _ h => h) (Or.inl ⟨by rfl, ?_⟩) hHeld ?_ ?_
 rotate_left
 ·rintro w' ⟨s0, s1, s2⟩
  go_simp
  with_reducible rfl
 rotate_left
 ·simp only [Act.put, List.setIfInBounds_toArray, List.set_cons_zero, List.set_cons_succ, i64_w, i32_w]
  rfl
 refine one_ (i := 4) (N := some 29) #[true, true, true, true, true, false, false, false, false] rfl rfl (one_of HT_.out (by kernel_rfl)) (by decide) (fun K hK => ?_)
 refine Kd.R_lit_step (Kd.int .i64) _ 3 ?hg (N := 29) ?hd (xs := ([a0_1] : List Int)) (inner := [.int .i64 a0_1]) (ok := fun _ => True) (okp := fun _ => True) ?hr ?hp (fun _ hk => hk) trivial (Below.refl _ _) (Nat.le_refl _) (by simp) ?_; (case hd => rfl); (case hg => rfl); (case hr => first | (go_simp; done) | (go_simp; rfl)); (case hp => exact (Reps.one (show Kd.M (Kd.int .i64) _ _ _ a0_1 [.int .i64 a0_1] from rfl) (Reps.none _ _)))
 intro v111 w15 ho16 hb hg_ hnew_
 clear hg_ hnew_
 (first | rw [← Ny110.out] at ho16 | (simp only [Int.reduceToNat] at ho16; rw [← Ny110.out] at ho16))
 have n0_ := Aside0.mk (Kd.R_elder' tat11Build_t10 (Kd.R_base ho16) hb)
 have n1_ := Aside0.mk (Kd.R_elder' tat11Build_t11 (Kd.R_base ho16) hb)
 have n2_ := Aside0.mk (Kd.R_lower (Kd.R_new' (Kd.R_new' ho16 (Kd.R_lt tat11Build_t10)) (Kd.R_lt tat11Build_t11)) (below_size tat11Build_t0))
 have n3_ := Aside0.mk (blk_below (g := gb101) (o := .cells #[.slice A0_0 l0_0.length c0_0, .int .i64 a0_1, .int .i64 a0_2] 24 (0, 0)) tat11Build_t1 hb)
 have n4_ := Aside0.mk (blk_below (g := gb102) (o := .cells #[.slice none 0 0, .int .i64 0, .int .i64 0, .slice none 0 0, .slice none 0 0] 30 (0, 0)) tat11Build_t2 hb)
 have n5_ := Aside0.mk (below_step tat11Build_t0 hb)
 clear HO105
 clear HO109
 clear BK101
 clear BK102
 clear HB
 have HO105 := n0_
 have HO109 := n1_
 have HO112 := n2_
 have BK101 := n3_
 have BK102 := n4_
 have HB := n5_
 clear n0_ n1_ n2_ n3_ n4_ n5_
 clear hb ho16
 obtain ⟨Ao17, co17, eo17⟩ := Kd.R_slice HO112.out
 (first | subst eo17 | (injection eo17 with f1_ f2_ f3_; have f4_ := f1_.symm; have f5_ := f3_.symm; clear f1_ f2_ f3_; subst f4_; subst f5_))
 refine hK.out _ _ ⟨(blk_cell BK101.out 0).trans rfl, (blk_cell BK101.out 1).trans rfl, (blk_cell BK101.out 2).trans rfl⟩ (fun hHeld => ?_)
 clear hK K
 refine norm_ (a' := ?_) ?_ ?_
 rotate_left
 ·show Act.put _ (some 29) _ = _
  simp only [Act.put, List.setIfInBounds_toArray, List.set_cons_zero, List.set_cons_succ, i64_w, i32_w]
  rfl
 refine one_ (i := 5) (N := some 30) #[true, true, true, true, true, true, false, false, false] rfl rfl (one_of HT_.out (by kernel_rfl)) (by decide) (fun K hK => ?_)
 refine goes_ Tryd.func26 (by kernel_rfl) rfl #[.agg #[.slice A0_0 l0_0.length c0_0, .int .i64 a0_1, .int .i64 a0_2], .slice Ao17 y110.length co17] (by rfl) rfl rfl tat11Build_t5 ?_
 with_reducible refine (tattingref09_Of.calls k _ _ l0_0 a0_1 a0_2 _ _ y110 t113 _ ?side1 ?side2 ?side3 ?side4 A5.out).mono ?_
 (case side1 => repeat (first | exact (Kd.C_below HR0_0.out HB.out) | (with_reducible refine Kd.C_alloc ?_ _) | (with_reducible refine Kd.C_drewN ?_ _) | (with_reducible refine Kd.C_drew ?_)))
 (case side2 => exact HC0_0.out)
 (case side3 => repeat (first | exact (Kd.R_reads' HO112.out).2.2 | (with_reducible refine Kd.C_alloc ?_ _) | (with_reducible refine Kd.C_drewN ?_ _) | (with_reducible refine Kd.C_drew ?_)))
 (case side4 => exact (Kd.R_reads' HO112.out).2.1)
 rintro e w18 ⟨v114, rfl, ho0, hb⟩
 refine ⟨_, rfl, ?_⟩
 have n0_ := Aside0.mk (Kd.R_below tat11Build_t10 hb)
 have n1_ := Aside0.mk (Kd.R_below tat11Build_t11 hb)
 have n2_ := Aside0.mk (Kd.R_below tat11Build_t19 hb)
 have n3_ := Aside0.mk (Kd.R_lower ho0 (below_size tat11Build_t0))
 have n4_ := Aside0.mk (blk_below (g := gb101) (o := .cells #[.slice A0_0 l0_0.length c0_0, .int .i64 a0_1, .int .i64 a0_2] 24 (0, 0)) tat11Build_t1 hb)
 have n5_ := Aside0.mk (blk_below (g := gb102) (o := .cells #[.slice none 0 0, .int .i64 0, .int .i64 0, .slice none 0 0, .slice none 0 0] 30 (0, 0)) tat11Build_t2 hb)
 have n6_ := Aside0.mk (below_step tat11Build_t0 hb)
 clear HO105
 clear HO109
 clear HO112
 clear BK101
 clear BK102
 clear HB
 have HO105 := n0_
 have HO109 := n1_
 have HO112 := n2_
 have HO115 := n3_
 have BK101 := n4_
 have BK102 := n5_
 have HB := n6_
 clear n0_ n1_ n2_ n3_ n4_ n5_ n6_
 (try clear hb)
 (try clear hb2)
 (try clear hk)
 (try clear hi)
 (try clear ho0)
 obtain ⟨Ao19, co19, eo19⟩ := Kd.R_slice HO115.out
 (first | subst eo19 | (injection eo19 with f1_ f2_ f3_; have f4_ := f1_.symm; have f5_ := f3_.symm; clear f1_ f2_ f3_; subst f4_; subst f5_))
 refine hK.out _ _ ⟨(blk_cell BK101.out 0).trans rfl, (blk_cell BK101.out 1).trans rfl, (blk_cell BK101.out 2).trans rfl⟩ (fun hHeld => ?_)
 clear hK K
 refine norm_ (a' := ?_) ?_ ?_
 rotate_left
 ·show Act.put _ (some 30) _ = _
  simp only [Act.put, List.setIfInBounds_toArray, List.set_cons_zero, List.set_cons_succ, i64_w, i32_w]
  rfl
 refine one_ (i := 6) (N := some 31) #[true, true, true, true, true, true, true, false, false] rfl rfl (one_of HT_.out (by kernel_rfl)) (by decide) (fun K hK => ?_)
 refine goes_ Tryd.func25 (by kernel_rfl) rfl #[.agg #[.slice A0_0 l0_0.length c0_0, .int .i64 a0_1, .int .i64 a0_2], .slice Ao19 t113.length co19, .int .i64 0] (by rfl) rfl rfl tat11Build_t5 ?_
 with_reducible refine (tattingref09_Close.calls k _ _ l0_0 a0_1 a0_2 _ _ t113 0 t116 _ ?side1 ?side2 ?side3 ?side4 A6.out).mono ?_
 (case side1 => repeat (first | exact (Kd.C_below HR0_0.out HB.out) | (with_reducible refine Kd.C_alloc ?_ _) | (with_reducible refine Kd.C_drewN ?_ _) | (with_reducible refine Kd.C_drew ?_)))
 (case side2 => exact HC0_0.out)
 (case side3 => repeat (first | exact (Kd.R_reads' HO115.out).2.2 | (with_reducible refine Kd.C_alloc ?_ _) | (with_reducible refine Kd.C_drewN ?_ _) | (with_reducible refine Kd.C_drew ?_)))
 (case side4 => exact (Kd.R_reads' HO115.out).2.1)
 rintro e w20 ⟨v117, rfl, ho0, hb⟩
 refine ⟨_, rfl, ?_⟩
 have n0_ := Aside0.mk (Kd.R_below tat11Build_t10 hb)
 have n1_ := Aside0.mk (Kd.R_below tat11Build_t11 hb)
 have n2_ := Aside0.mk (Kd.R_below tat11Build_t19 hb)
 have n3_ := Aside0.mk (Kd.R_elder' tat11Build_t20 (Kd.R_base ho0) hb)
 have n4_ := Aside0.mk (Kd.R_lower (Kd.R_new' ho0 (Kd.R_lt tat11Build_t20)) (below_size tat11Build_t0))
 have n5_ := Aside0.mk (blk_below (g := gb101) (o := .cells #[.slice A0_0 l0_0.length c0_0, .int .i64 a0_1, .int .i64 a0_2] 24 (0, 0)) tat11Build_t1 hb)
 have n6_ := Aside0.mk (blk_below (g := gb102) (o := .cells #[.slice none 0 0, .int .i64 0, .int .i64 0, .slice none 0 0, .slice none 0 0] 30 (0, 0)) tat11Build_t2 hb)
 have n7_ := Aside0.mk (below_step tat11Build_t0 hb)
 clear HO105
 clear HO109
 clear HO112
 clear HO115
 clear BK101
 clear BK102
 clear HB
 have HO105 := n0_
 have HO109 := n1_
 have HO112 := n2_
 have HO115 := n3_
 have HO118 := n4_
 have BK101 := n5_
 have BK102 := n6_
 have HB := n7_
 clear n0_ n1_ n2_ n3_ n4_ n5_ n6_ n7_
 (try clear hb)
 (try clear hb2)
 (try clear hk)
 (try clear hi)
 (try clear ho0)
 obtain ⟨Ao21, co21, eo21⟩ := Kd.R_slice HO118.out
 (first | subst eo21 | (injection eo21 with f1_ f2_ f3_; have f4_ := f1_.symm; have f5_ := f3_.symm; clear f1_ f2_ f3_; subst f4_; subst f5_))
 refine hK.out _ _ ⟨(blk_cell BK101.out 0).trans rfl, (blk_cell BK101.out 1).trans rfl, (blk_cell BK101.out 2).trans rfl⟩ (fun hHeld => ?_)
 clear hK K
 refine norm_ (a' := ?_) ?_ ?_
 rotate_left
 ·show Act.put _ (some 31) _ = _
  simp only [Act.put, List.setIfInBounds_toArray, List.set_cons_zero, List.set_cons_succ, i64_w, i32_w]
  rfl
 refine one_ (i := 7) (N := some 32) #[true, true, true, true, true, true, true, true, false] rfl rfl (one_of HT_.out (by kernel_rfl)) (by decide) (fun K hK => ?_)
 refine Kd.N_lit_step (Kd.slice 4 Kd.bool) _ 28 ?hg (N' := 32) ?hd (xs := ([t116] : List (List Bool))) (inner := [.slice Ao21 t116.length co21]) (ok := (fun k_ => some k_ ≠ (.slice Ao12 t103.length co12 : Value).ownBlock ∧ some k_ ≠ (v108 : Value).ownBlock ∧ some k_ ≠ (.slice Ao17 y110.length co17 : Value).ownBlock ∧ some k_ ≠ (.slice Ao19 t113.length co19 : Value).ownBlock ∧ k_ ≠ gb101 ∧ k_ ≠ gb102)) (okp := (fun k_ => some k_ ≠ (.slice Ao12 t103.length co12 : Value).ownBlock ∧ some k_ ≠ (v108 : Value).ownBlock ∧ some k_ ≠ (.slice Ao17 y110.length co17 : Value).ownBlock ∧ some k_ ≠ (.slice Ao19 t113.length co19 : Value).ownBlock ∧ k_ ≠ gb101 ∧ k_ ≠ gb102)) ?hr ?hp (fun _ hk => hk) ((show ∀ k_, w20.heap.size ≤ k_ → (fun k_ => some k_ ≠ (.slice Ao12 t103.length co12 : Value).ownBlock ∧ some k_ ≠ (v108 : Value).ownBlock ∧ some k_ ≠ (.slice Ao17 y110.length co17 : Value).ownBlock ∧ some k_ ≠ (.slice Ao19 t113.length co19 : Value).ownBlock ∧ k_ ≠ gb101 ∧ k_ ≠ gb102) k_ from fun k_ hk => ⟨Kd.fresh' (Kd.R_lt tat11Build_t10) k_ hk, Kd.fresh' (Kd.R_lt tat11Build_t11) k_ hk, Kd.fresh' (Kd.R_lt tat11Build_t19) k_ hk, Kd.fresh' (Kd.R_lt tat11Build_t20) k_ hk, Kd.freshB (g := gb101) (o := .cells #[.slice A0_0 l0_0.length c0_0, .int .i64 a0_1, .int .i64 a0_2] 24 (0, 0)) tat11Build_t1 k_ hk, Kd.freshB (g := gb102) (o := .cells #[.slice none 0 0, .int .i64 0, .int .i64 0, .slice none 0 0, .slice none 0 0] 30 (0, 0)) tat11Build_t2 k_ hk⟩) _ (Nat.le_refl _)) (Below.refl _ _) (Nat.le_refl _) (by simp) ?_; (case hd => rfl); (case hg => rfl); (case hr => first | (go_simp; done) | (go_simp; rfl)); (case hp => exact (Reps.one (show Kd.FK (Kd.slice 4 Kd.bool) _ _ t116 [.slice Ao21 t116.length co21] from (Kd.FK_slice_mk (Kd.R_reads' (Kd.R_mono (ok' := (fun k_ => some k_ ≠ (.slice Ao12 t103.length co12 : Value).ownBlock ∧ some k_ ≠ (v108 : Value).ownBlock ∧ some k_ ≠ (.slice Ao17 y110.length co17 : Value).ownBlock ∧ some k_ ≠ (.slice Ao19 t113.length co19 : Value).ownBlock ∧ k_ ≠ gb101 ∧ k_ ≠ gb102)) (Kd.R_types (Kd.R_types (Kd.R_apart' (Kd.R_apart' (Kd.R_apart' (HO118.out) (Kd.R_typed HO105.out) (by decide)) (Kd.R_typed HO109.out) (by decide)) (Kd.R_typed HO112.out) (by decide)) BK101.out (by decide)) BK102.out (by decide)) (fun k_ hk => (by first | exact ⟨hk.1.1.1.1.2, ⟨hk.1.1.1.2, ⟨hk.1.1.2, ⟨hk.1.1.1.1.1.2, ⟨hk.1.2, hk.2⟩⟩⟩⟩⟩ | (simp_all; done) | grind)))).2.1 (Kd.R_F (Kd.R_mono (ok' := (fun k_ => some k_ ≠ (.slice Ao12 t103.length co12 : Value).ownBlock ∧ some k_ ≠ (v108 : Value).ownBlock ∧ some k_ ≠ (.slice Ao17 y110.length co17 : Value).ownBlock ∧ some k_ ≠ (.slice Ao19 t113.length co19 : Value).ownBlock ∧ k_ ≠ gb101 ∧ k_ ≠ gb102)) (Kd.R_types (Kd.R_types (Kd.R_apart' (Kd.R_apart' (Kd.R_apart' (HO118.out) (Kd.R_typed HO105.out) (by decide)) (Kd.R_typed HO109.out) (by decide)) (Kd.R_typed HO112.out) (by decide)) BK101.out (by decide)) BK102.out (by decide)) (fun k_ hk => (by first | exact ⟨hk.1.1.1.1.2, ⟨hk.1.1.1.2, ⟨hk.1.1.2, ⟨hk.1.1.1.1.1.2, ⟨hk.1.2, hk.2⟩⟩⟩⟩⟩ | (simp_all; done) | grind)))))) (Reps.none _ _)))
 intro v120 w22 ho23 hb hg_ hnew_
 clear hg_ hnew_
 (first | rw [← Ny119.out] at ho23 | (simp only [Int.reduceToNat] at ho23; rw [← Ny119.out] at ho23))
 have n0_ := Aside0.mk (Kd.R_below tat11Build_t10 hb)
 have n1_ := Aside0.mk (Kd.R_below tat11Build_t11 hb)
 have n2_ := Aside0.mk (Kd.R_below tat11Build_t19 hb)
 have n3_ := Aside0.mk (Kd.R_below tat11Build_t20 hb)
 have n4_ := Aside0.mk (Kd.N_lower ho23 (below_size tat11Build_t0))
 have n5_ := Aside0.mk (blk_below (g := gb101) (o := .cells #[.slice A0_0 l0_0.length c0_0, .int .i64 a0_1, .int .i64 a0_2] 24 (0, 0)) tat11Build_t1 hb)
 have n6_ := Aside0.mk (blk_below (g := gb102) (o := .cells #[.slice none 0 0, .int .i64 0, .int .i64 0, .slice none 0 0, .slice none 0 0] 30 (0, 0)) tat11Build_t2 hb)
 have n7_ := Aside0.mk (below_step tat11Build_t0 hb)
 clear HO105
 clear HO109
 clear HO112
 clear HO115
 clear BK101
 clear BK102
 clear HB
 clear HO118
 have HO105 := n0_
 have HO109 := n1_
 have HO112 := n2_
 have HO115 := n3_
 have HO121 := n4_
 have BK101 := n5_
 have BK102 := n6_
 have HB := n7_
 clear n0_ n1_ n2_ n3_ n4_ n5_ n6_ n7_
 clear hb ho23
 refine hK.out _ _ ⟨(blk_cell BK101.out 0).trans rfl, (blk_cell BK101.out 1).trans rfl, (blk_cell BK101.out 2).trans rfl⟩ (fun hHeld => ?_)
 clear hK K
 refine norm_ (a' := ?_) ?_ ?_
 rotate_left
 ·show Act.put _ (some 32) _ = _
  simp only [Act.put, List.setIfInBounds_toArray, List.set_cons_zero, List.set_cons_succ, i64_w, i32_w]
  rfl
 refine pure_ (i := 8) (N := some 9) (v := ?_) (a' := ?_) #[true, true, true, true, true, true, true, true, true] rfl rfl (any_of HT_.out (by kernel_rfl)) (fun _ _ _ h => h) (Or.inl ⟨by rfl, ?_⟩) ?_ ?_
 rotate_left
 ·intro w'
  go_simp
  with_reducible rfl
 rotate_left
 ·simp only [Act.put, List.setIfInBounds_toArray, List.set_cons_zero, List.set_cons_succ, i64_w, i32_w]
  rfl
 refine done_ (done_of HT_.out (by kernel_rfl)) ?_
 try go_wp2
 go_loopg [9, 10, 11] k (fun kq v9 v10 v11 w' => ∃ (x9_1 : List (List Bool)) (x10_1 : List Int) (x11_1 : Int), v11 = .int .i64 x11_1 ∧ Aside0 (tattingref11_Build.l0 kq a1 t103 t106 t107 x9_1 x10_1 x11_1 l0_0 a0_1 a0_2 = some (r1, r2, r3, r4, r5, r6)) ∧ Aside0 (kq ≤ k) ∧ Aside0 (Kd.R (Kd.int .i64) 3 w' w.heap.size (fun k_ => some k_ ≠ (v108 : Value).ownBlock ∧ some k_ ≠ (v10 : Value).ownBlock) (.slice Ao12 t103.length co12) t103) ∧ Aside0 (Kd.R (Kd.int .i64) 3 w' w.heap.size (fun k_ => some k_ ≠ ((.slice Ao12 t103.length co12) : Value).ownBlock ∧ some k_ ≠ (v10 : Value).ownBlock) v108 t107) ∧ Aside0 (Kd.N (Kd.slice 4 Kd.bool) 28 w' w.heap.size (fun k_ => some k_ ≠ ((.slice Ao12 t103.length co12) : Value).ownBlock ∧ some k_ ≠ (v108 : Value).ownBlock ∧ some k_ ≠ (v10 : Value).ownBlock ∧ k_ ≠ gb101 ∧ k_ ≠ gb102) v9 x9_1) ∧ Aside0 (Kd.R (Kd.int .i64) 3 w' w.heap.size (fun k_ => some k_ ≠ ((.slice Ao12 t103.length co12) : Value).ownBlock ∧ some k_ ≠ (v108 : Value).ownBlock) v10 x10_1) ∧ Aside0 (w'.heap[gb101]? = some (.cells #[(.slice A0_0 l0_0.length c0_0), .int .i64 a0_1, .int .i64 a0_2] 24 (0, 0))) ∧ Aside0 (w'.heap[gb102]? = some (.cells #[(.slice none 0 0), .int .i64 0, .int .i64 0, (.slice none 0 0), (.slice none 0 0)] 30 (0, 0))) ∧ Aside0 (Below w.heap.size w w'))
 case atStart => exact ⟨(y119), (([] : List Int)), (0), tat11Build_t13, H', ⟨Nat.le_refl _⟩, ⟨by (with_reducible repeat (first | apply Kd.R_alloc | apply Kd.R_drewN | apply Kd.R_drew)); exact Kd.R_mono HO105.out (fun _ hk => (by first | exact ⟨hk.1.2, (by simp [Value.ownBlock])⟩ | (simp_all; done) | grind))⟩, ⟨by (with_reducible repeat (first | apply Kd.R_alloc | apply Kd.R_drewN | apply Kd.R_drew)); exact Kd.R_mono HO109.out (fun _ hk => (by first | exact ⟨hk.1.2, (by simp [Value.ownBlock])⟩ | (simp_all; done) | grind))⟩, ⟨by (with_reducible repeat (first | apply Kd.N_alloc | apply Kd.N_drewN | apply Kd.N_drew)); exact Kd.N_mono HO121.out (fun _ hk => (by first | exact ⟨hk.1, ⟨hk.2.1, ⟨(by simp [Value.ownBlock]), ⟨hk.2.2.2.2.1, hk.2.2.2.2.2⟩⟩⟩⟩ | (simp_all; done) | grind))⟩, ⟨by first | exact Kd.R_nil _ _ _ _ _ | exact Kd.N_nil _ _ _ _ _ | exact Kd.V_nil _ _ _ _ _ | exact Kd.Q_nil _ _ _ _ _ | exact Kd.S_nil _ _ _ _ _⟩, ⟨by (with_reducible repeat (first | refine blk_drewN ?_ _ | refine blk_drew ?_ | refine blk_alloc ?_ _)); exact BK101.out⟩, ⟨by (with_reducible repeat (first | refine blk_drewN ?_ _ | refine blk_drew ?_ | refine blk_alloc ?_ _)); exact BK102.out⟩, ⟨by repeat (first | (with_reducible first | exact HB.out | apply below_alloc | apply pw_below_drewN | apply below_drew1 | refine below_set ?_ GE101.out | refine below_set ?_ GE102.out) | exact HB.out)⟩⟩
 case round =>
  clear H'
  try clear c1
  try clear c2
  try clear p2
  try clear c9
  try clear c10
  try clear c23
  try clear hcz10_0
  try clear hcz10_1
  try clear hcz10_2
  try clear hfz10_0
  try clear hfz10_1
  try clear hfz10_2
  obtain ⟨x9_1, x10_1, x11_1, rfl, HA, HK1, HO_6, HO_8, HO_9, HO_10, BK101, BK102, HB⟩ := hrel
  cases gk with
  | zero => exact absurd HA.out (by simp [tattingref11_Build.l0])
  | succ k1 =>
   have H := HA.out
   clear HA
   simp only [tattingref11_Build.l0] at H
   have HC24 := Aside0.mk H
   clear H
   go_upto_region 6 with (fail)
   go_cut [42] (fun v42 wc => ∃ (kq : Nat) (x42_23 : Bool), v42 = .bool x42_23 ∧ Aside0 (tattingref11_Build.j1 kq a1 t103 t106 t107 x9_1 x10_1 x11_1 x42_23 l0_0 a0_1 a0_2 = some (r1, r2, r3, r4, r5, r6)) ∧ Aside0 (kq ≤ k1) ∧ Aside0 (Kd.R (Kd.int .i64) 3 wc w.heap.size (fun k_ => some k_ ≠ (v108 : Value).ownBlock ∧ some k_ ≠ (u10 : Value).ownBlock) (.slice Ao12 t103.length co12) t103) ∧ Aside0 (Kd.R (Kd.int .i64) 3 wc w.heap.size (fun k_ => some k_ ≠ ((.slice Ao12 t103.length co12) : Value).ownBlock ∧ some k_ ≠ (u10 : Value).ownBlock) v108 t107) ∧ Aside0 (Kd.N (Kd.slice 4 Kd.bool) 28 wc w.heap.size (fun k_ => some k_ ≠ ((.slice Ao12 t103.length co12) : Value).ownBlock ∧ some k_ ≠ (v108 : Value).ownBlock ∧ some k_ ≠ (u10 : Value).ownBlock ∧ k_ ≠ gb101 ∧ k_ ≠ gb102) u9 x9_1) ∧ Aside0 (Kd.R (Kd.int .i64) 3 wc w.heap.size (fun k_ => some k_ ≠ ((.slice Ao12 t103.length co12) : Value).ownBlock ∧ some k_ ≠ (v108 : Value).ownBlock) u10 x10_1) ∧ Aside0 (wc.heap[gb101]? = some (.cells #[(.slice A0_0 l0_0.length c0_0), .int .i64 a0_1, .int .i64 a0_2] 24 (0, 0))) ∧ Aside0 (wc.heap[gb102]? = some (.cells #[(.slice none 0 0), .int .i64 0, .int .i64 0, (.slice none 0 0), (.slice none 0 0)] 30 (0, 0))) ∧ Aside0 (Below w.heap.size w wc))
   case first =>
    have H := HC24.out
    clear HC24
    by_cases c25 : x11_1 < (x9_1.length : Int)
    ·rw [if_pos c25] at H
     have c25b0 : decide (x11_1 < (x9_1.length : Int)) = true := decide_eq_true c25
     clear c25
     (first | rw [c25b0] | (simp only [i64_w, i32_w]; rw [c25b0]) | skip)
     have H' := Aside0.mk H
     clear H
     obtain ⟨Ao26, co26, eo26⟩ := Kd.N_slice HO_9.out
     subst eo26
     go_wp2
     go_meet
     case rel => exact ⟨_, (decide ((x9_1.length : Int) ≤ a1)), tat11Build_t13, H', ⟨by have := HK1.out; first | omega | exact Nat.le_refl _⟩, ⟨by (with_reducible repeat (first | apply Kd.R_alloc | apply Kd.R_drewN | apply Kd.R_drew)); exact HO_6.out⟩, ⟨by (with_reducible repeat (first | apply Kd.R_alloc | apply Kd.R_drewN | apply Kd.R_drew)); exact HO_8.out⟩, ⟨by (with_reducible repeat (first | apply Kd.N_alloc | apply Kd.N_drewN | apply Kd.N_drew)); exact HO_9.out⟩, ⟨by (with_reducible repeat (first | apply Kd.R_alloc | apply Kd.R_drewN | apply Kd.R_drew)); exact HO_10.out⟩, ⟨by (with_reducible repeat (first | refine blk_drewN ?_ _ | refine blk_drew ?_ | refine blk_alloc ?_ _)); exact BK101.out⟩, ⟨by (with_reducible repeat (first | refine blk_drewN ?_ _ | refine blk_drew ?_ | refine blk_alloc ?_ _)); exact BK102.out⟩, ⟨by repeat (first | (with_reducible first | exact HB.out | apply below_alloc | apply pw_below_drewN | apply below_drew1 | refine below_set ?_ GE101.out | refine below_set ?_ GE102.out) | exact HB.out)⟩⟩
    ·rw [if_neg c25] at H
     have c25b0 : decide (x11_1 < (x9_1.length : Int)) = false := decide_eq_false c25
     clear c25
     (first | rw [c25b0] | (simp only [i64_w, i32_w]; rw [c25b0]) | skip)
     have H' := Aside0.mk H
     clear H
     obtain ⟨Ao27, co27, eo27⟩ := Kd.N_slice HO_9.out
     subst eo27
     go_wp2
     go_meet
     case rel => exact ⟨_, (false), tat11Build_t13, H', ⟨by have := HK1.out; first | omega | exact Nat.le_refl _⟩, ⟨by (with_reducible repeat (first | apply Kd.R_alloc | apply Kd.R_drewN | apply Kd.R_drew)); exact HO_6.out⟩, ⟨by (with_reducible repeat (first | apply Kd.R_alloc | apply Kd.R_drewN | apply Kd.R_drew)); exact HO_8.out⟩, ⟨by (with_reducible repeat (first | apply Kd.N_alloc | apply Kd.N_drewN | apply Kd.N_drew)); exact HO_9.out⟩, ⟨by (with_reducible repeat (first | apply Kd.R_alloc | apply Kd.R_drewN | apply Kd.R_drew)); exact HO_10.out⟩, ⟨by (with_reducible repeat (first | refine blk_drewN ?_ _ | refine blk_drew ?_ | refine blk_alloc ?_ _)); exact BK101.out⟩, ⟨by (with_reducible repeat (first | refine blk_drewN ?_ _ | refine blk_drew ?_ | refine blk_alloc ?_ _)); exact BK102.out⟩, ⟨by repeat (first | (with_reducible first | exact HB.out | apply below_alloc | apply pw_below_drewN | apply below_drew1 | refine below_set ?_ GE101.out | refine below_set ?_ GE102.out) | exact HB.out)⟩⟩
   case rest =>
    clear HC24
    try clear c1
    try clear c2
    try clear p2
    try clear c9
    try clear c10
    try clear c23
    try clear c24
    try clear c25
    try clear c25b0
    try clear c26
    try clear hcz10_0
    try clear hcz10_1
    try clear hcz10_2
    try clear hfz10_0
    try clear hfz10_1
    try clear hfz10_2
    try clear p2
    obtain ⟨kq, x42_23, rfl, HA, HJ23, HO_6, HO_8, HO_9, HO_10, BK101, BK102, HB⟩ := hcut
    cases kq with
    | zero => exact absurd HA.out (by simp [tattingref11_Build.j1])
    | succ kj23 =>
     have H := HA.out
     clear HA
     simp only [tattingref11_Build.j1] at H
     by_cases c28 : x42_23 = true
     ·subst c28
      have H1 : (tattingref11_Build.l1 kj23 a1 t103 t106 t107 x9_1 x10_1 x11_1 0 l0_0 a0_1 a0_2) = some (r1, r2, r3, r4, r5, r6) := by rw [if_pos rfl] at H; exact H
      clear H
      have H := H1
      clear H1
      have H' := Aside0.mk H
      clear H
      go_wp2
      go_loopg [9, 10, 12] kj23 (fun kq v9 v10 v12 w' => ∃ (x9_3 : List (List Bool)) (x10_3 : List Int) (x12_3 : Int), v12 = .int .i64 x12_3 ∧ Aside0 (tattingref11_Build.l1 kq a1 t103 t106 t107 x9_3 x10_3 x11_1 x12_3 l0_0 a0_1 a0_2 = some (r1, r2, r3, r4, r5, r6)) ∧ Aside0 (kq ≤ kj23) ∧ Aside0 (Kd.R (Kd.int .i64) 3 w' w.heap.size (fun k_ => some k_ ≠ (v108 : Value).ownBlock ∧ some k_ ≠ (v10 : Value).ownBlock) (.slice Ao12 t103.length co12) t103) ∧ Aside0 (Kd.R (Kd.int .i64) 3 w' w.heap.size (fun k_ => some k_ ≠ ((.slice Ao12 t103.length co12) : Value).ownBlock ∧ some k_ ≠ (v10 : Value).ownBlock) v108 t107) ∧ Aside0 (Kd.N (Kd.slice 4 Kd.bool) 28 w' w.heap.size (fun k_ => some k_ ≠ ((.slice Ao12 t103.length co12) : Value).ownBlock ∧ some k_ ≠ (v108 : Value).ownBlock ∧ some k_ ≠ (v10 : Value).ownBlock ∧ k_ ≠ gb101 ∧ k_ ≠ gb102) v9 x9_3) ∧ Aside0 (Kd.R (Kd.int .i64) 3 w' w.heap.size (fun k_ => some k_ ≠ ((.slice Ao12 t103.length co12) : Value).ownBlock ∧ some k_ ≠ (v108 : Value).ownBlock) v10 x10_3) ∧ Aside0 (w'.heap[gb101]? = some (.cells #[(.slice A0_0 l0_0.length c0_0), .int .i64 a0_1, .int .i64 a0_2] 24 (0, 0))) ∧ Aside0 (w'.heap[gb102]? = some (.cells #[(.slice none 0 0), .int .i64 0, .int .i64 0, (.slice none 0 0), (.slice none 0 0)] 30 (0, 0))) ∧ Aside0 (Below w.heap.size w w'))
      case atStart => exact ⟨(x9_1), (x10_1), (0), tat11Build_t13, H', ⟨Nat.le_refl _⟩, ⟨by (with_reducible repeat (first | apply Kd.R_alloc | apply Kd.R_drewN | apply Kd.R_drew)); exact HO_6.out⟩, ⟨by (with_reducible repeat (first | apply Kd.R_alloc | apply Kd.R_drewN | apply Kd.R_drew)); exact HO_8.out⟩, ⟨by (with_reducible repeat (first | apply Kd.N_alloc | apply Kd.N_drewN | apply Kd.N_drew)); exact HO_9.out⟩, ⟨by (with_reducible repeat (first | apply Kd.R_alloc | apply Kd.R_drewN | apply Kd.R_drew)); exact HO_10.out⟩, ⟨by (with_reducible repeat (first | refine blk_drewN ?_ _ | refine blk_drew ?_ | refine blk_alloc ?_ _)); exact BK101.out⟩, ⟨by (with_reducible repeat (first | refine blk_drewN ?_ _ | refine blk_drew ?_ | refine blk_alloc ?_ _)); exact BK102.out⟩, ⟨by repeat (first | (with_reducible first | exact HB.out | apply below_alloc | apply pw_below_drewN | apply below_drew1 | refine below_set ?_ GE101.out | refine below_set ?_ GE102.out) | exact HB.out)⟩⟩
      case round =>
       clear H'
       try clear c1
       try clear c2
       try clear p2
       try clear c9
       try clear c10
       try clear c23
       try clear c24
       try clear c25
       try clear c25b0
       try clear c26
       try clear c28
       try clear hcz10_0
       try clear hcz10_1
       try clear hcz10_2
       try clear hfz10_0
       try clear hfz10_1
       try clear hfz10_2
       try clear p2
       obtain ⟨x9_3, x10_3, x12_3, rfl, HA, HK3, HO_6, HO_8, HO_9, HO_10, BK101, BK102, HB⟩ := hrel
       cases gk with
       | zero => exact absurd HA.out (by simp [tattingref11_Build.l1])
       | succ k3 =>
        have H := HA.out
        clear HA
        simp only [tattingref11_Build.l1] at H
        by_cases c29 : x12_3 < t106
        ·rw [if_pos c29] at H
         have c29b0 : decide (x12_3 < t106) = true := decide_eq_true c29
         clear c29
         by_cases c30 : 0 ≤ x11_1
         ·rw [if_pos c30] at H
          have c30b0 : decide (0 ≤ x11_1) = true := decide_eq_true c30
          clear c30
          by_cases c31 : x11_1 < (x9_3.length : Int)
          ·rw [if_pos c31] at H
           have c31b0 : decide (x11_1 < (x9_3.length : Int)) = true := decide_eq_true c31
           clear c31
           by_cases c32 : 0 ≤ x12_3
           ·rw [if_pos c32] at H
            have c32b0 : decide (0 ≤ x12_3) = true := decide_eq_true c32
            clear c32
            by_cases c33 : x12_3 < (t107.length : Int)
            ·rw [if_pos c33] at H
             have c33b0 : decide (x12_3 < (t107.length : Int)) = true := decide_eq_true c33
             clear c33
             by_cases c34 : (rd t107 x12_3) < 256
             ·rw [if_pos c34] at H
              have c34b0 : decide ((rd t107 x12_3) < 256) = true := decide_eq_true c34
              clear c34
              replace H := Option.bind_eq_some_iff.mp H
              obtain ⟨t125, A350, H⟩ := H
              replace H : ((tattingref11_find.f k3 x9_3 t125).bind fun t128 => (if t128 < 0 then (if x9_3.length < 5864062014805 then (if x10_3.length < 17592186044416 then (tattingref11_Build.l1 k3 a1 t103 t106 t107 (x9_3 ++ [t125]) (x10_3 ++ [(x9_3.length : Int)]) x11_1 (wrap64 (x12_3 + 1)) l0_0 a0_1 a0_2) else (none)) else (none)) else (if x10_3.length < 17592186044416 then (tattingref11_Build.l1 k3 a1 t103 t106 t107 x9_3 (x10_3 ++ [t128]) x11_1 (wrap64 (x12_3 + 1)) l0_0 a0_1 a0_2) else (none)))) = some (r1, r2, r3, r4, r5, r6) := H
              have A35 := Aside0.mk A350
              clear A350
              replace H := Option.bind_eq_some_iff.mp H
              obtain ⟨t128, A360, H⟩ := H
              replace H : (if t128 < 0 then (if x9_3.length < 5864062014805 then (if x10_3.length < 17592186044416 then (tattingref11_Build.l1 k3 a1 t103 t106 t107 (x9_3 ++ [t125]) (x10_3 ++ [(x9_3.length : Int)]) x11_1 (wrap64 (x12_3 + 1)) l0_0 a0_1 a0_2) else (none)) else (none)) else (if x10_3.length < 17592186044416 then (tattingref11_Build.l1 k3 a1 t103 t106 t107 x9_3 (x10_3 ++ [t128]) x11_1 (wrap64 (x12_3 + 1)) l0_0 a0_1 a0_2) else (none))) = some (r1, r2, r3, r4, r5, r6) := H
              have A36 := Aside0.mk A360
              clear A360
              by_cases c37 : t128 < 0
              ·rw [if_pos c37] at H
               have c37b0 : decide (t128 < 0) = true := decide_eq_true c37
               clear c37
               by_cases c38 : x9_3.length < 5864062014805
               ·rw [if_pos c38] at H
                have LMc38 := Aside0.mk c38
                clear c38
                obtain ⟨y129, hy129⟩ : ∃ y_ : List (List Bool), y_ = (x9_3 ++ [t125]) := ⟨_, rfl⟩
                replace H : (if x10_3.length < 17592186044416 then (tattingref11_Build.l1 k3 a1 t103 t106 t107 y129 (x10_3 ++ [(x9_3.length : Int)]) x11_1 (wrap64 (x12_3 + 1)) l0_0 a0_1 a0_2) else (none)) = some (r1, r2, r3, r4, r5, r6) := by first | (rw [hy129]; with_reducible exact H) | (have H2_ := (Option.bind_some _ _).symm.trans H; rw [hy129]; with_reducible exact H2_) | (have H2_ := (Option.bind_some _ _).symm.trans H; with_reducible exact H2_) | with_reducible exact H | (rw [hy129]; exact H) | exact H
                have Ny129 := Aside0.mk hy129
                clear hy129
                by_cases c39 : x10_3.length < 17592186044416
                ·rw [if_pos c39] at H
                 have LMc39 := Aside0.mk c39
                 clear c39
                 obtain ⟨y132, hy132⟩ : ∃ y_ : List Int, y_ = (x10_3 ++ [(x9_3.length : Int)]) := ⟨_, rfl⟩
                 replace H : (tattingref11_Build.l1 k3 a1 t103 t106 t107 y129 y132 x11_1 (wrap64 (x12_3 + 1)) l0_0 a0_1 a0_2) = some (r1, r2, r3, r4, r5, r6) := by first | (rw [hy132]; with_reducible exact H) | (have H2_ := (Option.bind_some _ _).symm.trans H; rw [hy132]; with_reducible exact H2_) | (have H2_ := (Option.bind_some _ _).symm.trans H; with_reducible exact H2_) | with_reducible exact H | (rw [hy132]; exact H) | exact H
                 have Ny132 := Aside0.mk hy132
                 clear hy132
                 have H' := Aside0.mk H
                 clear H
                 obtain ⟨Ao40, co40, eo40⟩ := Kd.N_slice HO_9.out
                 subst eo40
                 have p122 : 0 ≤ (x11_1 : Int) := of_decide_eq_true tat11Build_t8
                 have q122 : x11_1 < (x9_3.length : Int) := of_decide_eq_true tat11Build_t8
                 obtain ⟨ad122, A122_0, c122_0, e122, hx122_0, hl122_0, hi122_0⟩ := at_L10 (Kd.N_reads' HO_9.out).2.2 x11_1 p122 q122
                 cases e122
                 obtain ⟨ce122, hce122, hMe122, hcc122⟩ := Kd.N_get HO_9.out [] x11_1 p122 tat11Build_t16
                 obtain ⟨ua122_0, uc122_0, rfl, ul122_0, ge122_0⟩ := Kd.FK_slice_open hMe122
                 have hv122_0 := hcc122 0 _ rfl
                 rw [Nat.add_zero, show ((Kd.slice 4 Kd.bool)).sz = 1 from rfl, Nat.mul_one] at hv122_0
                 replace hv122_0 := Option.some.inj (hv122_0.symm.trans hx122_0)
                 injection hv122_0 with hva_ hvn_ hvc_
                 rw [hva_] at ge122_0
                 rw [hvc_] at ul122_0
                 have HL122_0 := Aside0.mk (show Kd.V Kd.bool 4 _ w.heap.size _ _ (rd_L10 x9_3 x11_1) from Kd.V_mk ul122_0 ge122_0)
                 clear hva_ hvn_ hvc_ ge122_0 ul122_0
                 clear hcc122 hce122
                 have HR122_0 := Aside0.mk hi122_0
                 have HC122_0 := Aside0.mk hl122_0
                 clear hi122_0 hl122_0
                 replace p122 := eq_true p122
                 replace q122 := eq_true q122
                 obtain ⟨Ao41, co41, eo41⟩ := Kd.R_slice HO_8.out
                 subst eo41
                 have p123 : 0 ≤ (x12_3 : Int) := of_decide_eq_true tat11Build_t8
                 have q123 : x12_3 < (t107.length : Int) := of_decide_eq_true tat11Build_t8
                 obtain ⟨ad123, e123, hx123_0⟩ := Kd.at_int (Kd.R_reads' HO_8.out).2.2 x12_3 p123 q123
                 cases e123
                 replace p123 := eq_true p123
                 replace q123 := eq_true q123
                 try go_wp2
                 have n0_ := Aside0.mk (Kd.R_drew HO_6.out)
                 have n1_ := Aside0.mk (Kd.R_drew HO_8.out)
                 have n2_ := Aside0.mk (Kd.N_drew HO_9.out)
                 have n3_ := Aside0.mk (Kd.R_drew HO_10.out)
                 have n4_ := Aside0.mk (Kd.V_drew HL122_0.out)
                 have n5_ := Aside0.mk (blk_drew BK101.out)
                 have n6_ := Aside0.mk (blk_drew BK102.out)
                 have n7_ := Aside0.mk (Kd.C_drew HR122_0.out)
                 have n8_ := Aside0.mk (below_drew1 HB.out)
                 clear HO_6
                 clear HO_8
                 clear HO_9
                 clear HO_10
                 clear HL122_0
                 clear BK101
                 clear BK102
                 clear HR122_0
                 clear HB
                 have HO_6 := n0_
                 have HO_8 := n1_
                 have HO_9 := n2_
                 have HO_10 := n3_
                 have HL122_0 := n4_
                 have BK101 := n5_
                 have BK102 := n6_
                 have HR122_0 := n7_
                 have HB := n8_
                 clear n0_ n1_ n2_ n3_ n4_ n5_ n6_ n7_ n8_
                 have p124 : 0 ≤ (x12_3 : Int) := of_decide_eq_true tat11Build_t8
                 have q124 : x12_3 < (t107.length : Int) := of_decide_eq_true tat11Build_t8
                 obtain ⟨ad124, e124, hx124_0⟩ := Kd.at_int (Kd.R_reads' HO_8.out).2.2 x12_3 p124 q124
                 obtain rfl : ad123 = ad124 := (by injection e124)
                 replace p124 := eq_true p124
                 replace q124 := eq_true q124
                 refine start_ (n := 8) (S := fun w' => w'.cell? ⟨gb101, 0, none⟩ = some (.slice A0_0 l0_0.length c0_0) ∧ w'.cell? ⟨gb101, 1, none⟩ = some (.int .i64 a0_1) ∧ w'.cell? ⟨gb101, 2, none⟩ = some (.int .i64 a0_2) ∧ w'.cell? (ad123.add (x12_3).toNat) = some (.int .i64 (rd t107 x12_3))) (ds := []) #[false, false, false, false, false, false, false, false] (by kernel_rfl) rfl rfl ⟨(blk_cell BK101.out 0).trans rfl, (blk_cell BK101.out 1).trans rfl, (blk_cell BK101.out 2).trans rfl, hx124_0⟩ (fun hHeld => ?_); refine with_tabW tattingref11_Build.tab13 tattingref11_Build.bits13 (fun HT_ HW_ => ?_)
                 generalize wr.drew = w42 at HO_6 HO_8 HO_9 HO_10 HL122_0 BK101 BK102 HR122_0 HB hx124_0 hHeld ⊢
                 refine pure_ (i := 1) (N := some 60) (v := ?_) (a' := ?_) #[false, true, false, false, false, false, false, false] rfl rfl (any_of HT_.out (by kernel_rfl)) (fun _ _ _ h => h) (Or.inl ⟨by rfl, ?_⟩) ?_ ?_
                 rotate_left
                 ·intro w'
                  go_simp
                  with_reducible rfl
                 rotate_left
                 ·simp only [Act.put, List.setIfInBounds_toArray, List.set_cons_zero, List.set_cons_succ, i64_w, i32_w]
                  rfl
                 refine pure_ (i := 2) (N := some 61) (v := ?_) (a' := ?_) #[false, true, true, false, false, false, false, false] rfl rfl (any_of HT_.out (by kernel_rfl)) (fun _ _ _ h => h) (Or.inl ⟨by rfl, ?_⟩) ?_ ?_
                 rotate_left
                 ·intro w'
                  go_simp
                  with_reducible rfl
                 rotate_left
                 ·simp only [Act.put, List.setIfInBounds_toArray, List.set_cons_zero, List.set_cons_succ, i64_w, i32_w]
                  rfl
                 refine pure_ (i := 3) (N := some 62) (v := ?_) (a' := ?_) #[false, true, true, true, false, false, false, false] rfl rfl (any_of HT_.out (by kernel_rfl)) (fun _ _ _ h => h) (Or.inl ⟨by rfl, ?_⟩) ?_ ?_
                 rotate_left
                 ·intro w'
                  go_simp
                  with_reducible rfl
                 rotate_left
                 ·simp only [Act.put, List.setIfInBounds_toArray, List.set_cons_zero, List.set_cons_succ, i64_w, i32_w]
                  rfl
                 refine pure_ (i := 4) (N := some 63) (v := ?_) (a' := ?_) #[false, true, true, true, true, false, false, false] rfl rfl (any_of HT_.out (by kernel_rfl)) (fun _ _ _ h => h) (Or.inl ⟨by rfl, ?_⟩) ?_ ?_
                 rotate_left
                 ·intro w'
                  go_simp
                  with_reducible rfl
                 rotate_left
                 ·simp only [Act.put, List.setIfInBounds_toArray, List.set_cons_zero, List.set_cons_succ, i64_w, i32_w]
                  rfl
                 refine take_ (i := 0) (N := some 59) (v := ?_) (a' := ?_) #[true, true, true, true, true, false, false, false] rfl rfl (take_ofW HT_.out HW_.out (by kernel_rfl)) (fun _ _ _ h => h) (Or.inl ⟨by rfl, ?_⟩) hHeld ?_ ?_
                 rotate_left
                 ·rintro w' ⟨s0, s1, s2, s3⟩
                  go_simp
                  with_reducible rfl
                 rotate_left
                 ·simp only [Act.put, List.setIfInBounds_toArray, List.set_cons_zero, List.set_cons_succ, i64_w, i32_w]
                  rfl
                 refine take_ (i := 5) (N := some 64) (v := ?_) (a' := ?_) #[true, true, true, true, true, true, false, false] rfl rfl (take_ofW HT_.out HW_.out (by kernel_rfl)) (fun _ _ _ h => h) (Or.inl ⟨by rfl, ?_⟩) hHeld ?_ ?_
                 rotate_left
                 ·rintro w' ⟨s0, s1, s2, s3⟩
                  go_simp
                  with_reducible rfl
                 rotate_left
                 ·simp only [Act.put, List.setIfInBounds_toArray, List.set_cons_zero, List.set_cons_succ, i64_w, i32_w]
                  rfl
                 refine one_ (i := 6) (N := some 65) #[true, true, true, true, true, true, true, false] rfl rfl (one_of HT_.out (by kernel_rfl)) (by decide) (fun K hK => ?_)
                 refine goes_ Tryd.func27 (by kernel_rfl) rfl #[.agg #[.slice A0_0 l0_0.length c0_0, .int .i64 a0_1, .int .i64 a0_2], .slice A122_0 (rd_L10 x9_3 x11_1).length c122_0, .int .i64 (rd t107 x12_3)] (by rfl) rfl rfl tat11Build_t5 ?_
                 with_reducible refine (tattingref09_Step.calls k3 _ _ l0_0 a0_1 a0_2 _ _ (rd_L10 x9_3 x11_1) (rd t107 x12_3) t125 _ ?side1 ?side2 ?side3 ?side4 A35.out).mono ?_
                 (case side1 => repeat (first | exact (Kd.C_below HR0_0.out HB.out) | (with_reducible refine Kd.C_alloc ?_ _) | (with_reducible refine Kd.C_drewN ?_ _) | (with_reducible refine Kd.C_drew ?_)))
                 (case side2 => exact HC0_0.out)
                 (case side3 => repeat (first | exact tat11Build_t7 | (with_reducible refine Kd.C_alloc ?_ _) | (with_reducible refine Kd.C_drewN ?_ _) | (with_reducible refine Kd.C_drew ?_)))
                 (case side4 => exact HC122_0.out)
                 rintro e w43 ⟨v126, rfl, ho0, hb⟩
                 have HS3_ := (hb.cell (World.block_lt_of_cell? _ _ (hHeld.2.2.2))).trans (hHeld.2.2.2)
                 refine ⟨_, rfl, ?_⟩
                 have n0_ := Aside0.mk (Kd.R_below tat11Build_t3 hb)
                 have n1_ := Aside0.mk (Kd.R_below tat11Build_t4 hb)
                 have n2_ := Aside0.mk (Kd.N_elder' tat11Build_t9 (Kd.R_base ho0) hb)
                 have n3_ := Aside0.mk (Kd.R_below tat11Build_t6 hb)
                 have n4_ := Aside0.mk (Kd.V_elder' tat11Build_t15 (Kd.R_base ho0) hb)
                 have n5_ := Aside0.mk (Kd.R_lower ho0 (below_size tat11Build_t0))
                 have n6_ := Aside0.mk (blk_below (g := gb101) (o := .cells #[.slice A0_0 l0_0.length c0_0, .int .i64 a0_1, .int .i64 a0_2] 24 (0, 0)) tat11Build_t1 hb)
                 have n7_ := Aside0.mk (blk_below (g := gb102) (o := .cells #[.slice none 0 0, .int .i64 0, .int .i64 0, .slice none 0 0, .slice none 0 0] 30 (0, 0)) tat11Build_t2 hb)
                 have n8_ := Aside0.mk (Kd.C_below tat11Build_t7 hb)
                 have n9_ := Aside0.mk (below_step tat11Build_t0 hb)
                 clear HO_6
                 clear HO_8
                 clear HO_9
                 clear HO_10
                 clear HL122_0
                 clear BK101
                 clear BK102
                 clear HR122_0
                 clear HB
                 have HO_6 := n0_
                 have HO_8 := n1_
                 have HO_9 := n2_
                 have HO_10 := n3_
                 have HL122_0 := n4_
                 have HO127 := n5_
                 have BK101 := n6_
                 have BK102 := n7_
                 have HR122_0 := n8_
                 have HB := n9_
                 clear n0_ n1_ n2_ n3_ n4_ n5_ n6_ n7_ n8_ n9_
                 (try clear hb)
                 (try clear hb2)
                 (try clear hk)
                 (try clear hi)
                 (try clear ho0)
                 refine hK.out _ _ ⟨(blk_cell BK101.out 0).trans rfl, (blk_cell BK101.out 1).trans rfl, (blk_cell BK101.out 2).trans rfl, HS3_⟩ (fun hHeld => ?_)
                 clear hK K
                 refine norm_ (a' := ?_) ?_ ?_
                 rotate_left
                 ·show Act.put _ (some 65) _ = _
                  simp only [Act.put, List.setIfInBounds_toArray, List.set_cons_zero, List.set_cons_succ, i64_w, i32_w]
                  rfl
                 refine pure_ (i := 7) (N := some 13) (v := ?_) (a' := ?_) #[true, true, true, true, true, true, true, true] rfl rfl (any_of HT_.out (by kernel_rfl)) (fun _ _ _ h => h) (Or.inl ⟨by rfl, ?_⟩) ?_ ?_
                 rotate_left
                 ·intro w'
                  go_simp
                  with_reducible rfl
                 rotate_left
                 ·simp only [Act.put, List.setIfInBounds_toArray, List.set_cons_zero, List.set_cons_succ, i64_w, i32_w]
                  rfl
                 refine done_ (done_of HT_.out (by kernel_rfl)) ?_
                 obtain ⟨Ao44, co44, eo44⟩ := Kd.R_slice HO127.out
                 subst eo44
                 try go_wp2_with (first | ((with_reducible refine gate_callee (f := 28) rfl ?_); refine goesL_ (some 75) rfl rfl Tryd.func28 (by kernel_rfl) rfl #[.slice (some ad122) x9_3.length co40, .slice Ao44 t125.length co44] rfl tat11Build_t5 ?_; (with_reducible refine (tattingref11_find.calls k3 _ _ x9_3 _ _ t125 t128 _ ?side1 ?side2 ?side3 ?side4 A36.out).mono ?_); (case side1 => repeat (first | exact (Kd.N_reads' HO_9.out).2.2 | (with_reducible refine Kd.C_alloc ?_ _) | (with_reducible refine Kd.C_drewN ?_ _) | (with_reducible refine Kd.C_drew ?_))); (case side2 => exact (Kd.N_reads' HO_9.out).2.1); (case side3 => repeat (first | exact (Kd.R_reads' HO127.out).2.2 | (with_reducible refine Kd.C_alloc ?_ _) | (with_reducible refine Kd.C_drewN ?_ _) | (with_reducible refine Kd.C_drew ?_))); (case side4 => exact (Kd.R_reads' HO127.out).2.1); rintro e w' ⟨rfl, ⟨nd, rfl⟩⟩; refine ⟨_, rfl, ?_⟩) | ((with_reducible refine gate_builtin (b := .append) (xs := #[.tmp 80, .tmp 82]) rfl ?_); (try (refine gate_guard (by rfl) ?_; dsimp only)); at_builtin; refine Kd.N_append (Kd.slice 4 Kd.bool) (w0 := w) w.heap.size rfl (.tmp 80) (.tmp 82) 44 28 (.slice none 0 0) 24 rfl Tryd.underlying44 info28 rfl (by decide) (by omega) (.slice (some ad122) x9_3.length co40) x9_3 t125 [.slice Ao44 t125.length co44] (fun k_ => some k_ ≠ (.slice Ao12 t103.length co12 : Value).ownBlock ∧ some k_ ≠ (.slice (some ad123) t107.length co41 : Value).ownBlock ∧ some k_ ≠ (u10 : Value).ownBlock ∧ k_ ≠ gb101 ∧ k_ ≠ gb102) (fun k_ => ((fun k_ => some k_ ≠ (.slice Ao12 t103.length co12 : Value).ownBlock ∧ some k_ ≠ (.slice (some ad123) t107.length co41 : Value).ownBlock ∧ some k_ ≠ (u10 : Value).ownBlock ∧ k_ ≠ gb101 ∧ k_ ≠ gb102)) k_ ∧ some k_ ≠ (.slice (some ad122) x9_3.length co40 : Value).ownBlock) rfl rfl ?aP (fun _ hk => hk) ?aF ?aO ?aB ?aS ?aL ?_; (case aP => exact (Kd.FK_slice_mk (Kd.R_reads' (Kd.R_mono (ok' := (fun k_ => ((fun k_ => some k_ ≠ (.slice Ao12 t103.length co12 : Value).ownBlock ∧ some k_ ≠ (.slice (some ad123) t107.length co41 : Value).ownBlock ∧ some k_ ≠ (u10 : Value).ownBlock ∧ k_ ≠ gb101 ∧ k_ ≠ gb102)) k_ ∧ some k_ ≠ (.slice (some ad122) x9_3.length co40 : Value).ownBlock)) (Kd.R_types (Kd.R_types (Kd.R_apart' (Kd.R_apart' (Kd.R_apart' (Kd.R_apart' (HO127.out) (Kd.R_typed HO_6.out) (by decide)) (Kd.R_typed HO_8.out) (by decide)) (Kd.R_typed HO_10.out) (by decide)) (Kd.N_typed HO_9.out) (by decide)) BK101.out (by decide)) BK102.out (by decide)) (fun k_ hk => tat11Build_t12))).2.1 (Kd.R_F (Kd.R_mono (ok' := (fun k_ => ((fun k_ => some k_ ≠ (.slice Ao12 t103.length co12 : Value).ownBlock ∧ some k_ ≠ (.slice (some ad123) t107.length co41 : Value).ownBlock ∧ some k_ ≠ (u10 : Value).ownBlock ∧ k_ ≠ gb101 ∧ k_ ≠ gb102)) k_ ∧ some k_ ≠ (.slice (some ad122) x9_3.length co40 : Value).ownBlock)) (Kd.R_types (Kd.R_types (Kd.R_apart' (Kd.R_apart' (Kd.R_apart' (Kd.R_apart' (HO127.out) (Kd.R_typed HO_6.out) (by decide)) (Kd.R_typed HO_8.out) (by decide)) (Kd.R_typed HO_10.out) (by decide)) (Kd.N_typed HO_9.out) (by decide)) BK101.out (by decide)) BK102.out (by decide)) (fun k_ hk => tat11Build_t12))))); (case aB => exact tat11Build_t0); (case aF => exact (fun k_ hk => ⟨Kd.fresh' (Kd.R_lt tat11Build_t3) k_ hk, Kd.fresh' (Kd.R_lt tat11Build_t4) k_ hk, Kd.fresh' (Kd.R_lt tat11Build_t6) k_ hk, Kd.freshB (g := gb101) (o := .cells #[.slice A0_0 l0_0.length c0_0, .int .i64 a0_1, .int .i64 a0_2] 24 (0, 0)) tat11Build_t1 k_ hk, Kd.freshB (g := gb102) (o := .cells #[.slice none 0 0, .int .i64 0, .int .i64 0, .slice none 0 0, .slice none 0 0] 30 (0, 0)) tat11Build_t2 k_ hk⟩)); (case aO => exact tat11Build_t23); (case aS => exact (below_size tat11Build_t0)); (case aL => have := LMc38.out; omega); intro v130 w45 ho hb hg hat; rw [← Ny129.out] at ho; have n0_ := Aside0.mk (Kd.R_over' tat11Build_t3 (Kd.N_typed tat11Build_t9) (by decide) hg); have n1_ := Aside0.mk (Kd.R_over' tat11Build_t4 (Kd.N_typed tat11Build_t9) (by decide) hg); have n2_ := Aside0.mk (Kd.R_over' tat11Build_t6 (Kd.N_typed tat11Build_t9) (by decide) hg); have n3_ := Aside0.mk (blk_grown (g := gb101) (o := .cells #[.slice A0_0 l0_0.length c0_0, .int .i64 a0_1, .int .i64 a0_2] 24 (0, 0)) tat11Build_t1 hg (Kd.N_ne HO_9.out BK101.out (by decide))); have n4_ := Aside0.mk (blk_grown (g := gb102) (o := .cells #[.slice none 0 0, .int .i64 0, .int .i64 0, .slice none 0 0, .slice none 0 0] 30 (0, 0)) tat11Build_t2 hg (Kd.N_ne HO_9.out BK102.out (by decide))); have n5_ := Aside0.mk (Kd.V_afterv (ok := (fun k_ => some k_ ≠ (.slice Ao12 t103.length co12 : Value).ownBlock ∧ some k_ ≠ (.slice (some ad123) t107.length co41 : Value).ownBlock ∧ some k_ ≠ (u10 : Value).ownBlock ∧ some k_ ≠ (.slice Ao44 t125.length co44 : Value).ownBlock ∧ k_ ≠ gb101 ∧ k_ ≠ gb102)) tat11Build_t17 hg hat); have n6_ := Aside0.mk (hb); have n7_ := Aside0.mk (ho); clear HO_6; clear HO_8; clear HO_10; clear BK101; clear BK102; clear HL122_0; clear HB; clear HO_9; clear HO127; have HO_6 := n0_; have HO_8 := n1_; have HO_10 := n2_; have BK101 := n3_; have BK102 := n4_; have HL122_0 := n5_; have HB := n6_; have HO131 := n7_; clear n0_ n1_ n2_ n3_ n4_ n5_ n6_ n7_; clear ho hb hg hat) | ((with_reducible refine gate_builtin (b := .append) (xs := #[.tmp 84, .tmp 86]) rfl ?_); (try (refine gate_guard (by rfl) ?_; dsimp only)); at_builtin; refine Kd.R_append (Kd.int .i64) (w0 := w) w.heap.size rfl (.tmp 84) (.tmp 86) 27 3 (.int .i64 0) 8 rfl Tryd.underlying27 info3 rfl (by decide) (by omega) u10 x10_3 (x9_3.length : Int) [.int .i64 (x9_3.length : Int)] (fun k_ => some k_ ≠ (.slice Ao12 t103.length co12 : Value).ownBlock ∧ some k_ ≠ (.slice (some ad123) t107.length co41 : Value).ownBlock) (fun _ => False) rfl rfl ?aP (fun _ hk => hk.elim) ?aF ?aO ?aB ?aS ?aL ?_; (case aP => exact rfl); (case aB => exact tat11Build_t0); (case aF => exact (fun k_ hk => ⟨Kd.fresh' (Kd.R_lt tat11Build_t3) k_ hk, Kd.fresh' (Kd.R_lt tat11Build_t4) k_ hk⟩)); (case aO => exact tat11Build_t6); (case aS => exact (below_size tat11Build_t0)); (case aL => have := LMc39.out; omega); intro v133 w46 ho hb hg hat; rw [← Ny132.out] at ho; have n0_ := Aside0.mk (Kd.R_after (ok := (fun k_ => some k_ ≠ (.slice (some ad123) t107.length co41 : Value).ownBlock)) tat11Build_t3 hg hat); have n1_ := Aside0.mk (Kd.R_after (ok := (fun k_ => some k_ ≠ (.slice Ao12 t103.length co12 : Value).ownBlock)) tat11Build_t4 hg hat); have n2_ := Aside0.mk (blk_grown (g := gb101) (o := .cells #[.slice A0_0 l0_0.length c0_0, .int .i64 a0_1, .int .i64 a0_2] 24 (0, 0)) tat11Build_t1 hg (Kd.R_ne HO_10.out BK101.out (by decide))); have n3_ := Aside0.mk (blk_grown (g := gb102) (o := .cells #[.slice none 0 0, .int .i64 0, .int .i64 0, .slice none 0 0, .slice none 0 0] 30 (0, 0)) tat11Build_t2 hg (Kd.R_ne HO_10.out BK102.out (by decide))); have n4_ := Aside0.mk (Kd.V_afterv (ok := (fun k_ => some k_ ≠ (.slice Ao12 t103.length co12 : Value).ownBlock ∧ some k_ ≠ (.slice (some ad123) t107.length co41 : Value).ownBlock ∧ some k_ ≠ (v130 : Value).ownBlock ∧ k_ ≠ gb101 ∧ k_ ≠ gb102)) tat11Build_t21 hg hat); have n5_ := Aside0.mk (Kd.N_afterv (ok := (fun k_ => some k_ ≠ (.slice Ao12 t103.length co12 : Value).ownBlock ∧ some k_ ≠ (.slice (some ad123) t107.length co41 : Value).ownBlock ∧ k_ ≠ gb101 ∧ k_ ≠ gb102)) (by (with_reducible repeat (first | apply Kd.N_alloc | apply Kd.N_drewN | apply Kd.N_drew)); exact Kd.N_mono HO131.out (fun _ hk => (by first | exact ⟨⟨hk.1, ⟨hk.2.1, ⟨hk.2.2.2.1, hk.2.2.2.2⟩⟩⟩, hk.2.2.1⟩ | (simp_all; done) | grind))) hg hat); have n6_ := Aside0.mk (hb); have n7_ := Aside0.mk (ho); clear HO_6; clear HO_8; clear BK101; clear BK102; clear HL122_0; clear HO131; clear HB; clear HO_10; have HO_6 := n0_; have HO_8 := n1_; have BK101 := n2_; have BK102 := n3_; have HL122_0 := n4_; have HO131 := n5_; have HB := n6_; have HO134 := n7_; clear n0_ n1_ n2_ n3_ n4_ n5_ n6_ n7_; clear ho hb hg hat))
                 go_roundg k3
                 case measure => have := HK1.out; have := HJ23.out; have := HK3.out; omega
                 case rel => exact ⟨(y129), (y132), (wrap64 (x12_3 + 1)), tat11Build_t13, H', ⟨by have := HK1.out; have := HJ23.out; have := HK3.out; omega⟩, ⟨by (with_reducible repeat (first | apply Kd.R_alloc | apply Kd.R_drewN | apply Kd.R_drew)); exact HO_6.out⟩, ⟨by (with_reducible repeat (first | apply Kd.R_alloc | apply Kd.R_drewN | apply Kd.R_drew)); exact HO_8.out⟩, ⟨by (with_reducible repeat (first | apply Kd.N_alloc | apply Kd.N_drewN | apply Kd.N_drew)); exact Kd.N_mono HO131.out (fun _ hk => (by first | exact ⟨hk.1.1, ⟨hk.1.2.1, ⟨hk.2, ⟨hk.1.2.2.1, hk.1.2.2.2⟩⟩⟩⟩ | (simp_all; done) | grind))⟩, ⟨by (with_reducible repeat (first | apply Kd.R_alloc | apply Kd.R_drewN | apply Kd.R_drew)); exact HO134.out⟩, ⟨by (with_reducible repeat (first | refine blk_drewN ?_ _ | refine blk_drew ?_ | refine blk_alloc ?_ _)); exact BK101.out⟩, ⟨by (with_reducible repeat (first | refine blk_drewN ?_ _ | refine blk_drew ?_ | refine blk_alloc ?_ _)); exact BK102.out⟩, ⟨by repeat (first | (with_reducible first | exact HB.out | apply below_alloc | apply pw_below_drewN | apply below_drew1 | refine below_set ?_ GE101.out | refine below_set ?_ GE102.out) | exact HB.out)⟩⟩
                ·rw [if_neg c39] at H
                 exact absurd H (by simp)
               ·rw [if_neg c38] at H
                exact absurd H (by simp)
              ·rw [if_neg c37] at H
               have c37b0 : decide (t128 < 0) = false := decide_eq_false c37
               clear c37
               by_cases c47 : x10_3.length < 17592186044416
               ·rw [if_pos c47] at H
                have LMc47 := Aside0.mk c47
                clear c47
                obtain ⟨y135, hy135⟩ : ∃ y_ : List Int, y_ = (x10_3 ++ [t128]) := ⟨_, rfl⟩
                replace H : (tattingref11_Build.l1 k3 a1 t103 t106 t107 x9_3 y135 x11_1 (wrap64 (x12_3 + 1)) l0_0 a0_1 a0_2) = some (r1, r2, r3, r4, r5, r6) := by first | (rw [hy135]; with_reducible exact H) | (have H2_ := (Option.bind_some _ _).symm.trans H; rw [hy135]; with_reducible exact H2_) | (have H2_ := (Option.bind_some _ _).symm.trans H; with_reducible exact H2_) | with_reducible exact H | (rw [hy135]; exact H) | exact H
                have Ny135 := Aside0.mk hy135
                clear hy135
                have H' := Aside0.mk H
                clear H
                obtain ⟨Ao48, co48, eo48⟩ := Kd.N_slice HO_9.out
                subst eo48
                have p122 : 0 ≤ (x11_1 : Int) := of_decide_eq_true tat11Build_t8
                have q122 : x11_1 < (x9_3.length : Int) := of_decide_eq_true tat11Build_t8
                obtain ⟨ad122, A122_0, c122_0, e122, hx122_0, hl122_0, hi122_0⟩ := at_L10 (Kd.N_reads' HO_9.out).2.2 x11_1 p122 q122
                cases e122
                obtain ⟨ce122, hce122, hMe122, hcc122⟩ := Kd.N_get HO_9.out [] x11_1 p122 tat11Build_t16
                obtain ⟨ua122_0, uc122_0, rfl, ul122_0, ge122_0⟩ := Kd.FK_slice_open hMe122
                have hv122_0 := hcc122 0 _ rfl
                rw [Nat.add_zero, show ((Kd.slice 4 Kd.bool)).sz = 1 from rfl, Nat.mul_one] at hv122_0
                replace hv122_0 := Option.some.inj (hv122_0.symm.trans hx122_0)
                injection hv122_0 with hva_ hvn_ hvc_
                rw [hva_] at ge122_0
                rw [hvc_] at ul122_0
                have HL122_0 := Aside0.mk (show Kd.V Kd.bool 4 _ w.heap.size _ _ (rd_L10 x9_3 x11_1) from Kd.V_mk ul122_0 ge122_0)
                clear hva_ hvn_ hvc_ ge122_0 ul122_0
                clear hcc122 hce122
                have HR122_0 := Aside0.mk hi122_0
                have HC122_0 := Aside0.mk hl122_0
                clear hi122_0 hl122_0
                replace p122 := eq_true p122
                replace q122 := eq_true q122
                obtain ⟨Ao49, co49, eo49⟩ := Kd.R_slice HO_8.out
                subst eo49
                have p123 : 0 ≤ (x12_3 : Int) := of_decide_eq_true tat11Build_t8
                have q123 : x12_3 < (t107.length : Int) := of_decide_eq_true tat11Build_t8
                obtain ⟨ad123, e123, hx123_0⟩ := Kd.at_int (Kd.R_reads' HO_8.out).2.2 x12_3 p123 q123
                cases e123
                replace p123 := eq_true p123
                replace q123 := eq_true q123
                try go_wp2
                have n0_ := Aside0.mk (Kd.R_drew HO_6.out)
                have n1_ := Aside0.mk (Kd.R_drew HO_8.out)
                have n2_ := Aside0.mk (Kd.N_drew HO_9.out)
                have n3_ := Aside0.mk (Kd.R_drew HO_10.out)
                have n4_ := Aside0.mk (Kd.V_drew HL122_0.out)
                have n5_ := Aside0.mk (blk_drew BK101.out)
                have n6_ := Aside0.mk (blk_drew BK102.out)
                have n7_ := Aside0.mk (Kd.C_drew HR122_0.out)
                have n8_ := Aside0.mk (below_drew1 HB.out)
                clear HO_6
                clear HO_8
                clear HO_9
                clear HO_10
                clear HL122_0
                clear BK101
                clear BK102
                clear HR122_0
                clear HB
                have HO_6 := n0_
                have HO_8 := n1_
                have HO_9 := n2_
                have HO_10 := n3_
                have HL122_0 := n4_
                have BK101 := n5_
                have BK102 := n6_
                have HR122_0 := n7_
                have HB := n8_
                clear n0_ n1_ n2_ n3_ n4_ n5_ n6_ n7_ n8_
                have p124 : 0 ≤ (x12_3 : Int) := of_decide_eq_true tat11Build_t8
                have q124 : x12_3 < (t107.length : Int) := of_decide_eq_true tat11Build_t8
                obtain ⟨ad124, e124, hx124_0⟩ := Kd.at_int (Kd.R_reads' HO_8.out).2.2 x12_3 p124 q124
                obtain rfl : ad123 = ad124 := (by injection e124)
                replace p124 := eq_true p124
                replace q124 := eq_true q124
                refine start_ (n := 8) (S := fun w' => w'.cell? ⟨gb101, 0, none⟩ = some (.slice A0_0 l0_0.length c0_0) ∧ w'.cell? ⟨gb101, 1, none⟩ = some (.int .i64 a0_1) ∧ w'.cell? ⟨gb101, 2, none⟩ = some (.int .i64 a0_2) ∧ w'.cell? (ad123.add (x12_3).toNat) = some (.int .i64 (rd t107 x12_3))) (ds := []) #[false, false, false, false, false, false, false, false] (by kernel_rfl) rfl rfl ⟨(blk_cell BK101.out 0).trans rfl, (blk_cell BK101.out 1).trans rfl, (blk_cell BK101.out 2).trans rfl, hx124_0⟩ (fun hHeld => ?_); refine with_tabW tattingref11_Build.tab13 tattingref11_Build.bits13 (fun HT_ HW_ => ?_)
                generalize wr.drew = w50 at HO_6 HO_8 HO_9 HO_10 HL122_0 BK101 BK102 HR122_0 HB hx124_0 hHeld ⊢
                refine pure_ (i := 1) (N := some 60) (v := ?_) (a' := ?_) #[false, true, false, false, false, false, false, false] rfl rfl (any_of HT_.out (by kernel_rfl)) (fun _ _ _ h => h) (Or.inl ⟨by rfl, ?_⟩) ?_ ?_
                rotate_left
                ·intro w'
                 go_simp
                 with_reducible rfl
                rotate_left
                ·simp only [Act.put, List.setIfInBounds_toArray, List.set_cons_zero, List.set_cons_succ, i64_w, i32_w]
                 rfl
                refine pure_ (i := 2) (N := some 61) (v := ?_) (a' := ?_) #[false, true, true, false, false, false, false, false] rfl rfl (any_of HT_.out (by kernel_rfl)) (fun _ _ _ h => h) (Or.inl ⟨by rfl, ?_⟩) ?_ ?_
                rotate_left
                ·intro w'
                 go_simp
                 with_reducible rfl
                rotate_left
                ·simp only [Act.put, List.setIfInBounds_toArray, List.set_cons_zero, List.set_cons_succ, i64_w, i32_w]
                 rfl
                refine pure_ (i := 3) (N := some 62) (v := ?_) (a' := ?_) #[false, true, true, true, false, false, false, false] rfl rfl (any_of HT_.out (by kernel_rfl)) (fun _ _ _ h => h) (Or.inl ⟨by rfl, ?_⟩) ?_ ?_
                rotate_left
                ·intro w'
                 go_simp
                 with_reducible rfl
                rotate_left
                ·simp only [Act.put, List.setIfInBounds_toArray, List.set_cons_zero, List.set_cons_succ, i64_w, i32_w]
                 rfl
                refine pure_ (i := 4) (N := some 63) (v := ?_) (a' := ?_) #[false, true, true, true, true, false, false, false] rfl rfl (any_of HT_.out (by kernel_rfl)) (fun _ _ _ h => h) (Or.inl ⟨by rfl, ?_⟩) ?_ ?_
                rotate_left
                ·intro w'
                 go_simp
                 with_reducible rfl
                rotate_left
                ·simp only [Act.put, List.setIfInBounds_toArray, List.set_cons_zero, List.set_cons_succ, i64_w, i32_w]
                 rfl
                refine take_ (i := 0) (N := some 59) (v := ?_) (a' := ?_) #[true, true, true, true, true, false, false, false] rfl rfl (take_ofW HT_.out HW_.out (by kernel_rfl)) (fun _ _ _ h => h) (Or.inl ⟨by rfl, ?_⟩) hHeld ?_ ?_
                rotate_left
                ·rintro w' ⟨s0, s1, s2, s3⟩
                 go_simp
                 with_reducible rfl
                rotate_left
                ·simp only [Act.put, List.setIfInBounds_toArray, List.set_cons_zero, List.set_cons_succ, i64_w, i32_w]
                 rfl
                refine take_ (i := 5) (N := some 64) (v := ?_) (a' := ?_) #[true, true, true, true, true, true, false, false] rfl rfl (take_ofW HT_.out HW_.out (by kernel_rfl)) (fun _ _ _ h => h) (Or.inl ⟨by rfl, ?_⟩) hHeld ?_ ?_
                rotate_left
                ·rintro w' ⟨s0, s1, s2, s3⟩
                 go_simp
                 with_reducible rfl
                rotate_left
                ·simp only [Act.put, List.setIfInBounds_toArray, List.set_cons_zero, List.set_cons_succ, i64_w, i32_w]
                 rfl
                refine one_ (i := 6) (N := some 65) #[true, true, true, true, true, true, true, false] rfl rfl (one_of HT_.out (by kernel_rfl)) (by decide) (fun K hK => ?_)
                refine goes_ Tryd.func27 (by kernel_rfl) rfl #[.agg #[.slice A0_0 l0_0.length c0_0, .int .i64 a0_1, .int .i64 a0_2], .slice A122_0 (rd_L10 x9_3 x11_1).length c122_0, .int .i64 (rd t107 x12_3)] (by rfl) rfl rfl tat11Build_t5 ?_
                with_reducible refine (tattingref09_Step.calls k3 _ _ l0_0 a0_1 a0_2 _ _ (rd_L10 x9_3 x11_1) (rd t107 x12_3) t125 _ ?side1 ?side2 ?side3 ?side4 A35.out).mono ?_
                (case side1 => repeat (first | exact (Kd.C_below HR0_0.out HB.out) | (with_reducible refine Kd.C_alloc ?_ _) | (with_reducible refine Kd.C_drewN ?_ _) | (with_reducible refine Kd.C_drew ?_)))
                (case side2 => exact HC0_0.out)
                (case side3 => repeat (first | exact tat11Build_t7 | (with_reducible refine Kd.C_alloc ?_ _) | (with_reducible refine Kd.C_drewN ?_ _) | (with_reducible refine Kd.C_drew ?_)))
                (case side4 => exact HC122_0.out)
                rintro e w51 ⟨v126, rfl, ho0, hb⟩
                have HS3_ := (hb.cell (World.block_lt_of_cell? _ _ (hHeld.2.2.2))).trans (hHeld.2.2.2)
                refine ⟨_, rfl, ?_⟩
                have n0_ := Aside0.mk (Kd.R_below tat11Build_t3 hb)
                have n1_ := Aside0.mk (Kd.R_below tat11Build_t4 hb)
                have n2_ := Aside0.mk (Kd.N_elder' tat11Build_t9 (Kd.R_base ho0) hb)
                have n3_ := Aside0.mk (Kd.R_below tat11Build_t6 hb)
                have n4_ := Aside0.mk (Kd.V_elder' tat11Build_t15 (Kd.R_base ho0) hb)
                have n5_ := Aside0.mk (Kd.R_lower ho0 (below_size tat11Build_t0))
                have n6_ := Aside0.mk (blk_below (g := gb101) (o := .cells #[.slice A0_0 l0_0.length c0_0, .int .i64 a0_1, .int .i64 a0_2] 24 (0, 0)) tat11Build_t1 hb)
                have n7_ := Aside0.mk (blk_below (g := gb102) (o := .cells #[.slice none 0 0, .int .i64 0, .int .i64 0, .slice none 0 0, .slice none 0 0] 30 (0, 0)) tat11Build_t2 hb)
                have n8_ := Aside0.mk (Kd.C_below tat11Build_t7 hb)
                have n9_ := Aside0.mk (below_step tat11Build_t0 hb)
                clear HO_6
                clear HO_8
                clear HO_9
                clear HO_10
                clear HL122_0
                clear BK101
                clear BK102
                clear HR122_0
                clear HB
                have HO_6 := n0_
                have HO_8 := n1_
                have HO_9 := n2_
                have HO_10 := n3_
                have HL122_0 := n4_
                have HO127 := n5_
                have BK101 := n6_
                have BK102 := n7_
                have HR122_0 := n8_
                have HB := n9_
                clear n0_ n1_ n2_ n3_ n4_ n5_ n6_ n7_ n8_ n9_
                (try clear hb)
                (try clear hb2)
                (try clear hk)
                (try clear hi)
                (try clear ho0)
                refine hK.out _ _ ⟨(blk_cell BK101.out 0).trans rfl, (blk_cell BK101.out 1).trans rfl, (blk_cell BK101.out 2).trans rfl, HS3_⟩ (fun hHeld => ?_)
                clear hK K
                refine norm_ (a' := ?_) ?_ ?_
                rotate_left
                ·show Act.put _ (some 65) _ = _
                 simp only [Act.put, List.setIfInBounds_toArray, List.set_cons_zero, List.set_cons_succ, i64_w, i32_w]
                 rfl
                refine pure_ (i := 7) (N := some 13) (v := ?_) (a' := ?_) #[true, true, true, true, true, true, true, true] rfl rfl (any_of HT_.out (by kernel_rfl)) (fun _ _ _ h => h) (Or.inl ⟨by rfl, ?_⟩) ?_ ?_
                rotate_left
                ·intro w'
                 go_simp
                 with_reducible rfl
                rotate_left
                ·simp only [Act.put, List.setIfInBounds_toArray, List.set_cons_zero, List.set_cons_succ, i64_w, i32_w]
                 rfl
                refine done_ (done_of HT_.out (by kernel_rfl)) ?_
                obtain ⟨Ao52, co52, eo52⟩ := Kd.R_slice HO127.out
                subst eo52
                try go_wp2_with (first | ((with_reducible refine gate_callee (f := 28) rfl ?_); refine goesL_ (some 75) rfl rfl Tryd.func28 (by kernel_rfl) rfl #[.slice (some ad122) x9_3.length co48, .slice Ao52 t125.length co52] rfl tat11Build_t5 ?_; (with_reducible refine (tattingref11_find.calls k3 _ _ x9_3 _ _ t125 t128 _ ?side1 ?side2 ?side3 ?side4 A36.out).mono ?_); (case side1 => repeat (first | exact (Kd.N_reads' HO_9.out).2.2 | (with_reducible refine Kd.C_alloc ?_ _) | (with_reducible refine Kd.C_drewN ?_ _) | (with_reducible refine Kd.C_drew ?_))); (case side2 => exact (Kd.N_reads' HO_9.out).2.1); (case side3 => repeat (first | exact (Kd.R_reads' HO127.out).2.2 | (with_reducible refine Kd.C_alloc ?_ _) | (with_reducible refine Kd.C_drewN ?_ _) | (with_reducible refine Kd.C_drew ?_))); (case side4 => exact (Kd.R_reads' HO127.out).2.1); rintro e w' ⟨rfl, ⟨nd, rfl⟩⟩; refine ⟨_, rfl, ?_⟩) | ((with_reducible refine gate_builtin (b := .append) (xs := #[.tmp 84, .tmp 86]) rfl ?_); (try (refine gate_guard (by rfl) ?_; dsimp only)); at_builtin; refine Kd.R_append (Kd.int .i64) (w0 := w) w.heap.size rfl (.tmp 84) (.tmp 86) 27 3 (.int .i64 0) 8 rfl Tryd.underlying27 info3 rfl (by decide) (by omega) u10 x10_3 t128 [.int .i64 t128] (fun k_ => some k_ ≠ (.slice Ao12 t103.length co12 : Value).ownBlock ∧ some k_ ≠ (.slice (some ad123) t107.length co49 : Value).ownBlock) (fun _ => False) rfl rfl ?aP (fun _ hk => hk.elim) ?aF ?aO ?aB ?aS ?aL ?_; (case aP => exact rfl); (case aB => exact tat11Build_t0); (case aF => exact (fun k_ hk => ⟨Kd.fresh' (Kd.R_lt tat11Build_t3) k_ hk, Kd.fresh' (Kd.R_lt tat11Build_t4) k_ hk⟩)); (case aO => exact tat11Build_t6); (case aS => exact (below_size tat11Build_t0)); (case aL => have := LMc47.out; omega); intro v136 w53 ho hb hg hat; rw [← Ny135.out] at ho; have n0_ := Aside0.mk (Kd.R_after (ok := (fun k_ => some k_ ≠ (.slice (some ad123) t107.length co49 : Value).ownBlock)) tat11Build_t3 hg hat); have n1_ := Aside0.mk (Kd.R_after (ok := (fun k_ => some k_ ≠ (.slice Ao12 t103.length co12 : Value).ownBlock)) tat11Build_t4 hg hat); have n2_ := Aside0.mk (Kd.N_afterv (ok := (fun k_ => some k_ ≠ (.slice Ao12 t103.length co12 : Value).ownBlock ∧ some k_ ≠ (.slice (some ad123) t107.length co49 : Value).ownBlock ∧ some k_ ≠ (.slice Ao52 t125.length co52 : Value).ownBlock ∧ k_ ≠ gb101 ∧ k_ ≠ gb102)) tat11Build_t22 hg hat); have n3_ := Aside0.mk (blk_grown (g := gb101) (o := .cells #[.slice A0_0 l0_0.length c0_0, .int .i64 a0_1, .int .i64 a0_2] 24 (0, 0)) tat11Build_t1 hg (Kd.R_ne HO_10.out BK101.out (by decide))); have n4_ := Aside0.mk (blk_grown (g := gb102) (o := .cells #[.slice none 0 0, .int .i64 0, .int .i64 0, .slice none 0 0, .slice none 0 0] 30 (0, 0)) tat11Build_t2 hg (Kd.R_ne HO_10.out BK102.out (by decide))); have n5_ := Aside0.mk (Kd.V_afterv (ok := (fun k_ => some k_ ≠ (.slice Ao12 t103.length co12 : Value).ownBlock ∧ some k_ ≠ (.slice (some ad123) t107.length co49 : Value).ownBlock ∧ some k_ ≠ (.slice (some ad122) x9_3.length co48 : Value).ownBlock ∧ some k_ ≠ (.slice Ao52 t125.length co52 : Value).ownBlock ∧ k_ ≠ gb101 ∧ k_ ≠ gb102)) tat11Build_t18 hg hat); have n6_ := Aside0.mk (Kd.R_over' (by (with_reducible repeat (first | apply Kd.R_alloc | apply Kd.R_drewN | apply Kd.R_drew)); exact HO127.out) (Kd.R_typed tat11Build_t6) (by decide) hg); have n7_ := Aside0.mk (hb); have n8_ := Aside0.mk (ho); clear HO_6; clear HO_8; clear HO_9; clear BK101; clear BK102; clear HL122_0; clear HO127; clear HB; clear HO_10; have HO_6 := n0_; have HO_8 := n1_; have HO_9 := n2_; have BK101 := n3_; have BK102 := n4_; have HL122_0 := n5_; have HO127 := n6_; have HB := n7_; have HO137 := n8_; clear n0_ n1_ n2_ n3_ n4_ n5_ n6_ n7_ n8_; clear ho hb hg hat))
                go_roundg k3
                case measure => have := HK1.out; have := HJ23.out; have := HK3.out; omega
                case rel => exact ⟨(x9_3), (y135), (wrap64 (x12_3 + 1)), tat11Build_t13, H', ⟨by have := HK1.out; have := HJ23.out; have := HK3.out; omega⟩, ⟨by (with_reducible repeat (first | apply Kd.R_alloc | apply Kd.R_drewN | apply Kd.R_drew)); exact HO_6.out⟩, ⟨by (with_reducible repeat (first | apply Kd.R_alloc | apply Kd.R_drewN | apply Kd.R_drew)); exact HO_8.out⟩, ⟨by (with_reducible repeat (first | apply Kd.N_alloc | apply Kd.N_drewN | apply Kd.N_drew)); exact Kd.N_mono HO_9.out (fun _ hk => (by first | exact ⟨hk.1.1, ⟨hk.1.2.1, ⟨hk.2, ⟨hk.1.2.2.2.1, hk.1.2.2.2.2⟩⟩⟩⟩ | (simp_all; done) | grind))⟩, ⟨by (with_reducible repeat (first | apply Kd.R_alloc | apply Kd.R_drewN | apply Kd.R_drew)); exact HO137.out⟩, ⟨by (with_reducible repeat (first | refine blk_drewN ?_ _ | refine blk_drew ?_ | refine blk_alloc ?_ _)); exact BK101.out⟩, ⟨by (with_reducible repeat (first | refine blk_drewN ?_ _ | refine blk_drew ?_ | refine blk_alloc ?_ _)); exact BK102.out⟩, ⟨by repeat (first | (with_reducible first | exact HB.out | apply below_alloc | apply pw_below_drewN | apply below_drew1 | refine below_set ?_ GE101.out | refine below_set ?_ GE102.out) | exact HB.out)⟩⟩
               ·rw [if_neg c47] at H
                exact absurd H (by simp)
             ·rw [if_neg c34] at H
              have c34b0 : decide ((rd t107 x12_3) < 256) = false := decide_eq_false c34
              clear c34
              replace H := Option.bind_eq_some_iff.mp H
              obtain ⟨t139, A540, H⟩ := H
              replace H : ((tattingref11_find.f k3 x9_3 t139).bind fun t142 => (if t142 < 0 then (if x9_3.length < 5864062014805 then (if x10_3.length < 17592186044416 then (tattingref11_Build.l1 k3 a1 t103 t106 t107 (x9_3 ++ [t139]) (x10_3 ++ [(x9_3.length : Int)]) x11_1 (wrap64 (x12_3 + 1)) l0_0 a0_1 a0_2) else (none)) else (none)) else (if x10_3.length < 17592186044416 then (tattingref11_Build.l1 k3 a1 t103 t106 t107 x9_3 (x10_3 ++ [t142]) x11_1 (wrap64 (x12_3 + 1)) l0_0 a0_1 a0_2) else (none)))) = some (r1, r2, r3, r4, r5, r6) := H
              have A54 := Aside0.mk A540
              clear A540
              replace H := Option.bind_eq_some_iff.mp H
              obtain ⟨t142, A550, H⟩ := H
              replace H : (if t142 < 0 then (if x9_3.length < 5864062014805 then (if x10_3.length < 17592186044416 then (tattingref11_Build.l1 k3 a1 t103 t106 t107 (x9_3 ++ [t139]) (x10_3 ++ [(x9_3.length : Int)]) x11_1 (wrap64 (x12_3 + 1)) l0_0 a0_1 a0_2) else (none)) else (none)) else (if x10_3.length < 17592186044416 then (tattingref11_Build.l1 k3 a1 t103 t106 t107 x9_3 (x10_3 ++ [t142]) x11_1 (wrap64 (x12_3 + 1)) l0_0 a0_1 a0_2) else (none))) = some (r1, r2, r3, r4, r5, r6) := H
              have A55 := Aside0.mk A550
              clear A550
              by_cases c56 : t142 < 0
              ·rw [if_pos c56] at H
               have c56b0 : decide (t142 < 0) = true := decide_eq_true c56
               clear c56
               by_cases c57 : x9_3.length < 5864062014805
               ·rw [if_pos c57] at H
                have LMc57 := Aside0.mk c57
                clear c57
                obtain ⟨y143, hy143⟩ : ∃ y_ : List (List Bool), y_ = (x9_3 ++ [t139]) := ⟨_, rfl⟩
                replace H : (if x10_3.length < 17592186044416 then (tattingref11_Build.l1 k3 a1 t103 t106 t107 y143 (x10_3 ++ [(x9_3.length : Int)]) x11_1 (wrap64 (x12_3 + 1)) l0_0 a0_1 a0_2) else (none)) = some (r1, r2, r3, r4, r5, r6) := by first | (rw [hy143]; with_reducible exact H) | (have H2_ := (Option.bind_some _ _).symm.trans H; rw [hy143]; with_reducible exact H2_) | (have H2_ := (Option.bind_some _ _).symm.trans H; with_reducible exact H2_) | with_reducible exact H | (rw [hy143]; exact H) | exact H
                have Ny143 := Aside0.mk hy143
                clear hy143
                by_cases c58 : x10_3.length < 17592186044416
                ·rw [if_pos c58] at H
                 have LMc58 := Aside0.mk c58
                 clear c58
                 obtain ⟨y146, hy146⟩ : ∃ y_ : List Int, y_ = (x10_3 ++ [(x9_3.length : Int)]) := ⟨_, rfl⟩
                 replace H : (tattingref11_Build.l1 k3 a1 t103 t106 t107 y143 y146 x11_1 (wrap64 (x12_3 + 1)) l0_0 a0_1 a0_2) = some (r1, r2, r3, r4, r5, r6) := by first | (rw [hy146]; with_reducible exact H) | (have H2_ := (Option.bind_some _ _).symm.trans H; rw [hy146]; with_reducible exact H2_) | (have H2_ := (Option.bind_some _ _).symm.trans H; with_reducible exact H2_) | with_reducible exact H | (rw [hy146]; exact H) | exact H
                 have Ny146 := Aside0.mk hy146
                 clear hy146
                 have H' := Aside0.mk H
                 clear H
                 obtain ⟨Ao59, co59, eo59⟩ := Kd.N_slice HO_9.out
                 subst eo59
                 have p122 : 0 ≤ (x11_1 : Int) := of_decide_eq_true tat11Build_t8
                 have q122 : x11_1 < (x9_3.length : Int) := of_decide_eq_true tat11Build_t8
                 obtain ⟨ad122, A122_0, c122_0, e122, hx122_0, hl122_0, hi122_0⟩ := at_L10 (Kd.N_reads' HO_9.out).2.2 x11_1 p122 q122
                 cases e122
                 obtain ⟨ce122, hce122, hMe122, hcc122⟩ := Kd.N_get HO_9.out [] x11_1 p122 tat11Build_t16
                 obtain ⟨ua122_0, uc122_0, rfl, ul122_0, ge122_0⟩ := Kd.FK_slice_open hMe122
                 have hv122_0 := hcc122 0 _ rfl
                 rw [Nat.add_zero, show ((Kd.slice 4 Kd.bool)).sz = 1 from rfl, Nat.mul_one] at hv122_0
                 replace hv122_0 := Option.some.inj (hv122_0.symm.trans hx122_0)
                 injection hv122_0 with hva_ hvn_ hvc_
                 rw [hva_] at ge122_0
                 rw [hvc_] at ul122_0
                 have HL122_0 := Aside0.mk (show Kd.V Kd.bool 4 _ w.heap.size _ _ (rd_L10 x9_3 x11_1) from Kd.V_mk ul122_0 ge122_0)
                 clear hva_ hvn_ hvc_ ge122_0 ul122_0
                 clear hcc122 hce122
                 have HR122_0 := Aside0.mk hi122_0
                 have HC122_0 := Aside0.mk hl122_0
                 clear hi122_0 hl122_0
                 replace p122 := eq_true p122
                 replace q122 := eq_true q122
                 obtain ⟨Ao60, co60, eo60⟩ := Kd.R_slice HO_8.out
                 subst eo60
                 have p123 : 0 ≤ (x12_3 : Int) := of_decide_eq_true tat11Build_t8
                 have q123 : x12_3 < (t107.length : Int) := of_decide_eq_true tat11Build_t8
                 obtain ⟨ad123, e123, hx123_0⟩ := Kd.at_int (Kd.R_reads' HO_8.out).2.2 x12_3 p123 q123
                 cases e123
                 replace p123 := eq_true p123
                 replace q123 := eq_true q123
                 try go_wp2
                 have n0_ := Aside0.mk (Kd.R_drew HO_6.out)
                 have n1_ := Aside0.mk (Kd.R_drew HO_8.out)
                 have n2_ := Aside0.mk (Kd.N_drew HO_9.out)
                 have n3_ := Aside0.mk (Kd.R_drew HO_10.out)
                 have n4_ := Aside0.mk (Kd.V_drew HL122_0.out)
                 have n5_ := Aside0.mk (blk_drew BK101.out)
                 have n6_ := Aside0.mk (blk_drew BK102.out)
                 have n7_ := Aside0.mk (Kd.C_drew HR122_0.out)
                 have n8_ := Aside0.mk (below_drew1 HB.out)
                 clear HO_6
                 clear HO_8
                 clear HO_9
                 clear HO_10
                 clear HL122_0
                 clear BK101
                 clear BK102
                 clear HR122_0
                 clear HB
                 have HO_6 := n0_
                 have HO_8 := n1_
                 have HO_9 := n2_
                 have HO_10 := n3_
                 have HL122_0 := n4_
                 have BK101 := n5_
                 have BK102 := n6_
                 have HR122_0 := n7_
                 have HB := n8_
                 clear n0_ n1_ n2_ n3_ n4_ n5_ n6_ n7_ n8_
                 have p138 : 0 ≤ (x12_3 : Int) := of_decide_eq_true tat11Build_t8
                 have q138 : x12_3 < (t107.length : Int) := of_decide_eq_true tat11Build_t8
                 obtain ⟨ad138, e138, hx138_0⟩ := Kd.at_int (Kd.R_reads' HO_8.out).2.2 x12_3 p138 q138
                 obtain rfl : ad123 = ad138 := (by injection e138)
                 replace p138 := eq_true p138
                 replace q138 := eq_true q138
                 refine start_ (n := 8) (S := fun w' => w'.cell? ⟨gb101, 0, none⟩ = some (.slice A0_0 l0_0.length c0_0) ∧ w'.cell? ⟨gb101, 1, none⟩ = some (.int .i64 a0_1) ∧ w'.cell? ⟨gb101, 2, none⟩ = some (.int .i64 a0_2) ∧ w'.cell? (ad123.add (x12_3).toNat) = some (.int .i64 (rd t107 x12_3))) (ds := []) #[false, false, false, false, false, false, false, false] (by kernel_rfl) rfl rfl ⟨(blk_cell BK101.out 0).trans rfl, (blk_cell BK101.out 1).trans rfl, (blk_cell BK101.out 2).trans rfl, hx138_0⟩ (fun hHeld => ?_); refine with_tabW tattingref11_Build.tab14 tattingref11_Build.bits14 (fun HT_ HW_ => ?_)
                 generalize wr.drew = w61 at HO_6 HO_8 HO_9 HO_10 HL122_0 BK101 BK102 HR122_0 HB hx138_0 hHeld ⊢
                 refine pure_ (i := 1) (N := some 67) (v := ?_) (a' := ?_) #[false, true, false, false, false, false, false, false] rfl rfl (any_of HT_.out (by kernel_rfl)) (fun _ _ _ h => h) (Or.inl ⟨by rfl, ?_⟩) ?_ ?_
                 rotate_left
                 ·intro w'
                  go_simp
                  with_reducible rfl
                 rotate_left
                 ·simp only [Act.put, List.setIfInBounds_toArray, List.set_cons_zero, List.set_cons_succ, i64_w, i32_w]
                  rfl
                 refine pure_ (i := 2) (N := some 68) (v := ?_) (a' := ?_) #[false, true, true, false, false, false, false, false] rfl rfl (any_of HT_.out (by kernel_rfl)) (fun _ _ _ h => h) (Or.inl ⟨by rfl, ?_⟩) ?_ ?_
                 rotate_left
                 ·intro w'
                  go_simp
                  with_reducible rfl
                 rotate_left
                 ·simp only [Act.put, List.setIfInBounds_toArray, List.set_cons_zero, List.set_cons_succ, i64_w, i32_w]
                  rfl
                 refine pure_ (i := 3) (N := some 69) (v := ?_) (a' := ?_) #[false, true, true, true, false, false, false, false] rfl rfl (any_of HT_.out (by kernel_rfl)) (fun _ _ _ h => h) (Or.inl ⟨by rfl, ?_⟩) ?_ ?_
                 rotate_left
                 ·intro w'
                  go_simp
                  with_reducible rfl
                 rotate_left
                 ·simp only [Act.put, List.setIfInBounds_toArray, List.set_cons_zero, List.set_cons_succ, i64_w, i32_w]
                  rfl
                 refine pure_ (i := 4) (N := some 70) (v := ?_) (a' := ?_) #[false, true, true, true, true, false, false, false] rfl rfl (any_of HT_.out (by kernel_rfl)) (fun _ _ _ h => h) (Or.inl ⟨by rfl, ?_⟩) ?_ ?_
                 rotate_left
                 ·intro w'
                  go_simp
                  with_reducible rfl
                 rotate_left
                 ·simp only [Act.put, List.setIfInBounds_toArray, List.set_cons_zero, List.set_cons_succ, i64_w, i32_w]
                  rfl
                 refine take_ (i := 0) (N := some 66) (v := ?_) (a' := ?_) #[true, true, true, true, true, false, false, false] rfl rfl (take_ofW HT_.out HW_.out (by kernel_rfl)) (fun _ _ _ h => h) (Or.inl ⟨by rfl, ?_⟩) hHeld ?_ ?_
                 rotate_left
                 ·rintro w' ⟨s0, s1, s2, s3⟩
                  go_simp
                  with_reducible rfl
                 rotate_left
                 ·simp only [Act.put, List.setIfInBounds_toArray, List.set_cons_zero, List.set_cons_succ, i64_w, i32_w]
                  rfl
                 refine take_ (i := 5) (N := some 71) (v := ?_) (a' := ?_) #[true, true, true, true, true, true, false, false] rfl rfl (take_ofW HT_.out HW_.out (by kernel_rfl)) (fun _ _ _ h => h) (Or.inl ⟨by rfl, ?_⟩) hHeld ?_ ?_
                 rotate_left
                 ·rintro w' ⟨s0, s1, s2, s3⟩
                  go_simp
                  with_reducible rfl
                 rotate_left
                 ·simp only [Act.put, List.setIfInBounds_toArray, List.set_cons_zero, List.set_cons_succ, i64_w, i32_w]
                  rfl
                 refine one_ (i := 6) (N := some 72) #[true, true, true, true, true, true, true, false] rfl rfl (one_of HT_.out (by kernel_rfl)) (by decide) (fun K hK => ?_)
                 refine goes_ Tryd.func25 (by kernel_rfl) rfl #[.agg #[.slice A0_0 l0_0.length c0_0, .int .i64 a0_1, .int .i64 a0_2], .slice A122_0 (rd_L10 x9_3 x11_1).length c122_0, .int .i64 (rd t107 x12_3)] (by rfl) rfl rfl tat11Build_t5 ?_
                 with_reducible refine (tattingref09_Close.calls k3 _ _ l0_0 a0_1 a0_2 _ _ (rd_L10 x9_3 x11_1) (rd t107 x12_3) t139 _ ?side1 ?side2 ?side3 ?side4 A54.out).mono ?_
                 (case side1 => repeat (first | exact (Kd.C_below HR0_0.out HB.out) | (with_reducible refine Kd.C_alloc ?_ _) | (with_reducible refine Kd.C_drewN ?_ _) | (with_reducible refine Kd.C_drew ?_)))
                 (case side2 => exact HC0_0.out)
                 (case side3 => repeat (first | exact tat11Build_t7 | (with_reducible refine Kd.C_alloc ?_ _) | (with_reducible refine Kd.C_drewN ?_ _) | (with_reducible refine Kd.C_drew ?_)))
                 (case side4 => exact HC122_0.out)
                 rintro e w62 ⟨v140, rfl, ho0, hb⟩
                 have HS3_ := (hb.cell (World.block_lt_of_cell? _ _ (hHeld.2.2.2))).trans (hHeld.2.2.2)
                 refine ⟨_, rfl, ?_⟩
                 have n0_ := Aside0.mk (Kd.R_below tat11Build_t3 hb)
                 have n1_ := Aside0.mk (Kd.R_below tat11Build_t4 hb)
                 have n2_ := Aside0.mk (Kd.N_elder' tat11Build_t9 (Kd.R_base ho0) hb)
                 have n3_ := Aside0.mk (Kd.R_below tat11Build_t6 hb)
                 have n4_ := Aside0.mk (Kd.V_elder' tat11Build_t15 (Kd.R_base ho0) hb)
                 have n5_ := Aside0.mk (Kd.R_lower ho0 (below_size tat11Build_t0))
                 have n6_ := Aside0.mk (blk_below (g := gb101) (o := .cells #[.slice A0_0 l0_0.length c0_0, .int .i64 a0_1, .int .i64 a0_2] 24 (0, 0)) tat11Build_t1 hb)
                 have n7_ := Aside0.mk (blk_below (g := gb102) (o := .cells #[.slice none 0 0, .int .i64 0, .int .i64 0, .slice none 0 0, .slice none 0 0] 30 (0, 0)) tat11Build_t2 hb)
                 have n8_ := Aside0.mk (Kd.C_below tat11Build_t7 hb)
                 have n9_ := Aside0.mk (below_step tat11Build_t0 hb)
                 clear HO_6
                 clear HO_8
                 clear HO_9
                 clear HO_10
                 clear HL122_0
                 clear BK101
                 clear BK102
                 clear HR122_0
                 clear HB
                 have HO_6 := n0_
                 have HO_8 := n1_
                 have HO_9 := n2_
                 have HO_10 := n3_
                 have HL122_0 := n4_
                 have HO141 := n5_
                 have BK101 := n6_
                 have BK102 := n7_
                 have HR122_0 := n8_
                 have HB := n9_
                 clear n0_ n1_ n2_ n3_ n4_ n5_ n6_ n7_ n8_ n9_
                 (try clear hb)
                 (try clear hb2)
                 (try clear hk)
                 (try clear hi)
                 (try clear ho0)
                 refine hK.out _ _ ⟨(blk_cell BK101.out 0).trans rfl, (blk_cell BK101.out 1).trans rfl, (blk_cell BK101.out 2).trans rfl, HS3_⟩ (fun hHeld => ?_)
                 clear hK K
                 refine norm_ (a' := ?_) ?_ ?_
                 rotate_left
                 ·show Act.put _ (some 72) _ = _
                  simp only [Act.put, List.setIfInBounds_toArray, List.set_cons_zero, List.set_cons_succ, i64_w, i32_w]
                  rfl
                 refine pure_ (i := 7) (N := some 13) (v := ?_) (a' := ?_) #[true, true, true, true, true, true, true, true] rfl rfl (any_of HT_.out (by kernel_rfl)) (fun _ _ _ h => h) (Or.inl ⟨by rfl, ?_⟩) ?_ ?_
                 rotate_left
                 ·intro w'
                  go_simp
                  with_reducible rfl
                 rotate_left
                 ·simp only [Act.put, List.setIfInBounds_toArray, List.set_cons_zero, List.set_cons_succ, i64_w, i32_w]
                  rfl
                 refine done_ (done_of HT_.out (by kernel_rfl)) ?_
                 obtain ⟨Ao63, co63, eo63⟩ := Kd.R_slice HO141.out
                 subst eo63
                 try go_wp2_with (first | ((with_reducible refine gate_callee (f := 28) rfl ?_); refine goesL_ (some 75) rfl rfl Tryd.func28 (by kernel_rfl) rfl #[.slice (some ad122) x9_3.length co59, .slice Ao63 t139.length co63] rfl tat11Build_t5 ?_; (with_reducible refine (tattingref11_find.calls k3 _ _ x9_3 _ _ t139 t142 _ ?side1 ?side2 ?side3 ?side4 A55.out).mono ?_); (case side1 => repeat (first | exact (Kd.N_reads' HO_9.out).2.2 | (with_reducible refine Kd.C_alloc ?_ _) | (with_reducible refine Kd.C_drewN ?_ _) | (with_reducible refine Kd.C_drew ?_))); (case side2 => exact (Kd.N_reads' HO_9.out).2.1); (case side3 => repeat (first | exact (Kd.R_reads' HO141.out).2.2 | (with_reducible refine Kd.C_alloc ?_ _) | (with_reducible refine Kd.C_drewN ?_ _) | (with_reducible refine Kd.C_drew ?_))); (case side4 => exact (Kd.R_reads' HO141.out).2.1); rintro e w' ⟨rfl, ⟨nd, rfl⟩⟩; refine ⟨_, rfl, ?_⟩) | ((with_reducible refine gate_builtin (b := .append) (xs := #[.tmp 80, .tmp 82]) rfl ?_); (try (refine gate_guard (by rfl) ?_; dsimp only)); at_builtin; refine Kd.N_append (Kd.slice 4 Kd.bool) (w0 := w) w.heap.size rfl (.tmp 80) (.tmp 82) 44 28 (.slice none 0 0) 24 rfl Tryd.underlying44 info28 rfl (by decide) (by omega) (.slice (some ad122) x9_3.length co59) x9_3 t139 [.slice Ao63 t139.length co63] (fun k_ => some k_ ≠ (.slice Ao12 t103.length co12 : Value).ownBlock ∧ some k_ ≠ (.slice (some ad123) t107.length co60 : Value).ownBlock ∧ some k_ ≠ (u10 : Value).ownBlock ∧ k_ ≠ gb101 ∧ k_ ≠ gb102) (fun k_ => ((fun k_ => some k_ ≠ (.slice Ao12 t103.length co12 : Value).ownBlock ∧ some k_ ≠ (.slice (some ad123) t107.length co60 : Value).ownBlock ∧ some k_ ≠ (u10 : Value).ownBlock ∧ k_ ≠ gb101 ∧ k_ ≠ gb102)) k_ ∧ some k_ ≠ (.slice (some ad122) x9_3.length co59 : Value).ownBlock) rfl rfl ?aP (fun _ hk => hk) ?aF ?aO ?aB ?aS ?aL ?_; (case aP => exact (Kd.FK_slice_mk (Kd.R_reads' (Kd.R_mono (ok' := (fun k_ => ((fun k_ => some k_ ≠ (.slice Ao12 t103.length co12 : Value).ownBlock ∧ some k_ ≠ (.slice (some ad123) t107.length co60 : Value).ownBlock ∧ some k_ ≠ (u10 : Value).ownBlock ∧ k_ ≠ gb101 ∧ k_ ≠ gb102)) k_ ∧ some k_ ≠ (.slice (some ad122) x9_3.length co59 : Value).ownBlock)) (Kd.R_types (Kd.R_types (Kd.R_apart' (Kd.R_apart' (Kd.R_apart' (Kd.R_apart' (HO141.out) (Kd.R_typed HO_6.out) (by decide)) (Kd.R_typed HO_8.out) (by decide)) (Kd.R_typed HO_10.out) (by decide)) (Kd.N_typed HO_9.out) (by decide)) BK101.out (by decide)) BK102.out (by decide)) (fun k_ hk => tat11Build_t12))).2.1 (Kd.R_F (Kd.R_mono (ok' := (fun k_ => ((fun k_ => some k_ ≠ (.slice Ao12 t103.length co12 : Value).ownBlock ∧ some k_ ≠ (.slice (some ad123) t107.length co60 : Value).ownBlock ∧ some k_ ≠ (u10 : Value).ownBlock ∧ k_ ≠ gb101 ∧ k_ ≠ gb102)) k_ ∧ some k_ ≠ (.slice (some ad122) x9_3.length co59 : Value).ownBlock)) (Kd.R_types (Kd.R_types (Kd.R_apart' (Kd.R_apart' (Kd.R_apart' (Kd.R_apart' (HO141.out) (Kd.R_typed HO_6.out) (by decide)) (Kd.R_typed HO_8.out) (by decide)) (Kd.R_typed HO_10.out) (by decide)) (Kd.N_typed HO_9.out) (by decide)) BK101.out (by decide)) BK102.out (by decide)) (fun k_ hk => tat11Build_t12))))); (case aB => exact tat11Build_t0); (case aF => exact (fun k_ hk => ⟨Kd.fresh' (Kd.R_lt tat11Build_t3) k_ hk, Kd.fresh' (Kd.R_lt tat11Build_t4) k_ hk, Kd.fresh' (Kd.R_lt tat11Build_t6) k_ hk, Kd.freshB (g := gb101) (o := .cells #[.slice A0_0 l0_0.length c0_0, .int .i64 a0_1, .int .i64 a0_2] 24 (0, 0)) tat11Build_t1 k_ hk, Kd.freshB (g := gb102) (o := .cells #[.slice none 0 0, .int .i64 0, .int .i64 0, .slice none 0 0, .slice none 0 0] 30 (0, 0)) tat11Build_t2 k_ hk⟩)); (case aO => exact tat11Build_t23); (case aS => exact (below_size tat11Build_t0)); (case aL => have := LMc57.out; omega); intro v144 w64 ho hb hg hat; rw [← Ny143.out] at ho; have n0_ := Aside0.mk (Kd.R_over' tat11Build_t3 (Kd.N_typed tat11Build_t9) (by decide) hg); have n1_ := Aside0.mk (Kd.R_over' tat11Build_t4 (Kd.N_typed tat11Build_t9) (by decide) hg); have n2_ := Aside0.mk (Kd.R_over' tat11Build_t6 (Kd.N_typed tat11Build_t9) (by decide) hg); have n3_ := Aside0.mk (blk_grown (g := gb101) (o := .cells #[.slice A0_0 l0_0.length c0_0, .int .i64 a0_1, .int .i64 a0_2] 24 (0, 0)) tat11Build_t1 hg (Kd.N_ne HO_9.out BK101.out (by decide))); have n4_ := Aside0.mk (blk_grown (g := gb102) (o := .cells #[.slice none 0 0, .int .i64 0, .int .i64 0, .slice none 0 0, .slice none 0 0] 30 (0, 0)) tat11Build_t2 hg (Kd.N_ne HO_9.out BK102.out (by decide))); have n5_ := Aside0.mk (Kd.V_afterv (ok := (fun k_ => some k_ ≠ (.slice Ao12 t103.length co12 : Value).ownBlock ∧ some k_ ≠ (.slice (some ad123) t107.length co60 : Value).ownBlock ∧ some k_ ≠ (u10 : Value).ownBlock ∧ some k_ ≠ (.slice Ao63 t139.length co63 : Value).ownBlock ∧ k_ ≠ gb101 ∧ k_ ≠ gb102)) tat11Build_t17 hg hat); have n6_ := Aside0.mk (hb); have n7_ := Aside0.mk (ho); clear HO_6; clear HO_8; clear HO_10; clear BK101; clear BK102; clear HL122_0; clear HB; clear HO_9; clear HO141; have HO_6 := n0_; have HO_8 := n1_; have HO_10 := n2_; have BK101 := n3_; have BK102 := n4_; have HL122_0 := n5_; have HB := n6_; have HO145 := n7_; clear n0_ n1_ n2_ n3_ n4_ n5_ n6_ n7_; clear ho hb hg hat) | ((with_reducible refine gate_builtin (b := .append) (xs := #[.tmp 84, .tmp 86]) rfl ?_); (try (refine gate_guard (by rfl) ?_; dsimp only)); at_builtin; refine Kd.R_append (Kd.int .i64) (w0 := w) w.heap.size rfl (.tmp 84) (.tmp 86) 27 3 (.int .i64 0) 8 rfl Tryd.underlying27 info3 rfl (by decide) (by omega) u10 x10_3 (x9_3.length : Int) [.int .i64 (x9_3.length : Int)] (fun k_ => some k_ ≠ (.slice Ao12 t103.length co12 : Value).ownBlock ∧ some k_ ≠ (.slice (some ad123) t107.length co60 : Value).ownBlock) (fun _ => False) rfl rfl ?aP (fun _ hk => hk.elim) ?aF ?aO ?aB ?aS ?aL ?_; (case aP => exact rfl); (case aB => exact tat11Build_t0); (case aF => exact (fun k_ hk => ⟨Kd.fresh' (Kd.R_lt tat11Build_t3) k_ hk, Kd.fresh' (Kd.R_lt tat11Build_t4) k_ hk⟩)); (case aO => exact tat11Build_t6); (case aS => exact (below_size tat11Build_t0)); (case aL => have := LMc58.out; omega); intro v147 w65 ho hb hg hat; rw [← Ny146.out] at ho; have n0_ := Aside0.mk (Kd.R_after (ok := (fun k_ => some k_ ≠ (.slice (some ad123) t107.length co60 : Value).ownBlock)) tat11Build_t3 hg hat); have n1_ := Aside0.mk (Kd.R_after (ok := (fun k_ => some k_ ≠ (.slice Ao12 t103.length co12 : Value).ownBlock)) tat11Build_t4 hg hat); have n2_ := Aside0.mk (blk_grown (g := gb101) (o := .cells #[.slice A0_0 l0_0.length c0_0, .int .i64 a0_1, .int .i64 a0_2] 24 (0, 0)) tat11Build_t1 hg (Kd.R_ne HO_10.out BK101.out (by decide))); have n3_ := Aside0.mk (blk_grown (g := gb102) (o := .cells #[.slice none 0 0, .int .i64 0, .int .i64 0, .slice none 0 0, .slice none 0 0] 30 (0, 0)) tat11Build_t2 hg (Kd.R_ne HO_10.out BK102.out (by decide))); have n4_ := Aside0.mk (Kd.V_afterv (ok := (fun k_ => some k_ ≠ (.slice Ao12 t103.length co12 : Value).ownBlock ∧ some k_ ≠ (.slice (some ad123) t107.length co60 : Value).ownBlock ∧ some k_ ≠ (v144 : Value).ownBlock ∧ k_ ≠ gb101 ∧ k_ ≠ gb102)) tat11Build_t21 hg hat); have n5_ := Aside0.mk (Kd.N_afterv (ok := (fun k_ => some k_ ≠ (.slice Ao12 t103.length co12 : Value).ownBlock ∧ some k_ ≠ (.slice (some ad123) t107.length co60 : Value).ownBlock ∧ k_ ≠ gb101 ∧ k_ ≠ gb102)) (by (with_reducible repeat (first | apply Kd.N_alloc | apply Kd.N_drewN | apply Kd.N_drew)); exact Kd.N_mono HO145.out (fun _ hk => (by first | exact ⟨⟨hk.1, ⟨hk.2.1, ⟨hk.2.2.2.1, hk.2.2.2.2⟩⟩⟩, hk.2.2.1⟩ | (simp_all; done) | grind))) hg hat); have n6_ := Aside0.mk (hb); have n7_ := Aside0.mk (ho); clear HO_6; clear HO_8; clear BK101; clear BK102; clear HL122_0; clear HO145; clear HB; clear HO_10; have HO_6 := n0_; have HO_8 := n1_; have BK101 := n2_; have BK102 := n3_; have HL122_0 := n4_; have HO145 := n5_; have HB := n6_; have HO148 := n7_; clear n0_ n1_ n2_ n3_ n4_ n5_ n6_ n7_; clear ho hb hg hat))
                 go_roundg k3
                 case measure => have := HK1.out; have := HJ23.out; have := HK3.out; omega
                 case rel => exact ⟨(y143), (y146), (wrap64 (x12_3 + 1)), tat11Build_t13, H', ⟨by have := HK1.out; have := HJ23.out; have := HK3.out; omega⟩, ⟨by (with_reducible repeat (first | apply Kd.R_alloc | apply Kd.R_drewN | apply Kd.R_drew)); exact HO_6.out⟩, ⟨by (with_reducible repeat (first | apply Kd.R_alloc | apply Kd.R_drewN | apply Kd.R_drew)); exact HO_8.out⟩, ⟨by (with_reducible repeat (first | apply Kd.N_alloc | apply Kd.N_drewN | apply Kd.N_drew)); exact Kd.N_mono HO145.out (fun _ hk => (by first | exact ⟨hk.1.1, ⟨hk.1.2.1, ⟨hk.2, ⟨hk.1.2.2.1, hk.1.2.2.2⟩⟩⟩⟩ | (simp_all; done) | grind))⟩, ⟨by (with_reducible repeat (first | apply Kd.R_alloc | apply Kd.R_drewN | apply Kd.R_drew)); exact HO148.out⟩, ⟨by (with_reducible repeat (first | refine blk_drewN ?_ _ | refine blk_drew ?_ | refine blk_alloc ?_ _)); exact BK101.out⟩, ⟨by (with_reducible repeat (first | refine blk_drewN ?_ _ | refine blk_drew ?_ | refine blk_alloc ?_ _)); exact BK102.out⟩, ⟨by repeat (first | (with_reducible first | exact HB.out | apply below_alloc | apply pw_below_drewN | apply below_drew1 | refine below_set ?_ GE101.out | refine below_set ?_ GE102.out) | exact HB.out)⟩⟩
                ·rw [if_neg c58] at H
                 exact absurd H (by simp)
               ·rw [if_neg c57] at H
                exact absurd H (by simp)
              ·rw [if_neg c56] at H
               have c56b0 : decide (t142 < 0) = false := decide_eq_false c56
               clear c56
               by_cases c66 : x10_3.length < 17592186044416
               ·rw [if_pos c66] at H
                have LMc66 := Aside0.mk c66
                clear c66
                obtain ⟨y149, hy149⟩ : ∃ y_ : List Int, y_ = (x10_3 ++ [t142]) := ⟨_, rfl⟩
                replace H : (tattingref11_Build.l1 k3 a1 t103 t106 t107 x9_3 y149 x11_1 (wrap64 (x12_3 + 1)) l0_0 a0_1 a0_2) = some (r1, r2, r3, r4, r5, r6) := by first | (rw [hy149]; with_reducible exact H) | (have H2_ := (Option.bind_some _ _).symm.trans H; rw [hy149]; with_reducible exact H2_) | (have H2_ := (Option.bind_some _ _).symm.trans H; with_reducible exact H2_) | with_reducible exact H | (rw [hy149]; exact H) | exact H
                have Ny149 := Aside0.mk hy149
                clear hy149
                have H' := Aside0.mk H
                clear H
                obtain ⟨Ao67, co67, eo67⟩ := Kd.N_slice HO_9.out
                subst eo67
                have p122 : 0 ≤ (x11_1 : Int) := of_decide_eq_true tat11Build_t8
                have q122 : x11_1 < (x9_3.length : Int) := of_decide_eq_true tat11Build_t8
                obtain ⟨ad122, A122_0, c122_0, e122, hx122_0, hl122_0, hi122_0⟩ := at_L10 (Kd.N_reads' HO_9.out).2.2 x11_1 p122 q122
                cases e122
                obtain ⟨ce122, hce122, hMe122, hcc122⟩ := Kd.N_get HO_9.out [] x11_1 p122 tat11Build_t16
                obtain ⟨ua122_0, uc122_0, rfl, ul122_0, ge122_0⟩ := Kd.FK_slice_open hMe122
                have hv122_0 := hcc122 0 _ rfl
                rw [Nat.add_zero, show ((Kd.slice 4 Kd.bool)).sz = 1 from rfl, Nat.mul_one] at hv122_0
                replace hv122_0 := Option.some.inj (hv122_0.symm.trans hx122_0)
                injection hv122_0 with hva_ hvn_ hvc_
                rw [hva_] at ge122_0
                rw [hvc_] at ul122_0
                have HL122_0 := Aside0.mk (show Kd.V Kd.bool 4 _ w.heap.size _ _ (rd_L10 x9_3 x11_1) from Kd.V_mk ul122_0 ge122_0)
                clear hva_ hvn_ hvc_ ge122_0 ul122_0
                clear hcc122 hce122
                have HR122_0 := Aside0.mk hi122_0
                have HC122_0 := Aside0.mk hl122_0
                clear hi122_0 hl122_0
                replace p122 := eq_true p122
                replace q122 := eq_true q122
                obtain ⟨Ao68, co68, eo68⟩ := Kd.R_slice HO_8.out
                subst eo68
                have p123 : 0 ≤ (x12_3 : Int) := of_decide_eq_true tat11Build_t8
                have q123 : x12_3 < (t107.length : Int) := of_decide_eq_true tat11Build_t8
                obtain ⟨ad123, e123, hx123_0⟩ := Kd.at_int (Kd.R_reads' HO_8.out).2.2 x12_3 p123 q123
                cases e123
                replace p123 := eq_true p123
                replace q123 := eq_true q123
                try go_wp2
                have n0_ := Aside0.mk (Kd.R_drew HO_6.out)
                have n1_ := Aside0.mk (Kd.R_drew HO_8.out)
                have n2_ := Aside0.mk (Kd.N_drew HO_9.out)
                have n3_ := Aside0.mk (Kd.R_drew HO_10.out)
                have n4_ := Aside0.mk (Kd.V_drew HL122_0.out)
                have n5_ := Aside0.mk (blk_drew BK101.out)
                have n6_ := Aside0.mk (blk_drew BK102.out)
                have n7_ := Aside0.mk (Kd.C_drew HR122_0.out)
                have n8_ := Aside0.mk (below_drew1 HB.out)
                clear HO_6
                clear HO_8
                clear HO_9
                clear HO_10
                clear HL122_0
                clear BK101
                clear BK102
                clear HR122_0
                clear HB
                have HO_6 := n0_
                have HO_8 := n1_
                have HO_9 := n2_
                have HO_10 := n3_
                have HL122_0 := n4_
                have BK101 := n5_
                have BK102 := n6_
                have HR122_0 := n7_
                have HB := n8_
                clear n0_ n1_ n2_ n3_ n4_ n5_ n6_ n7_ n8_
                have p138 : 0 ≤ (x12_3 : Int) := of_decide_eq_true tat11Build_t8
                have q138 : x12_3 < (t107.length : Int) := of_decide_eq_true tat11Build_t8
                obtain ⟨ad138, e138, hx138_0⟩ := Kd.at_int (Kd.R_reads' HO_8.out).2.2 x12_3 p138 q138
                obtain rfl : ad123 = ad138 := (by injection e138)
                replace p138 := eq_true p138
                replace q138 := eq_true q138
                refine start_ (n := 8) (S := fun w' => w'.cell? ⟨gb101, 0, none⟩ = some (.slice A0_0 l0_0.length c0_0) ∧ w'.cell? ⟨gb101, 1, none⟩ = some (.int .i64 a0_1) ∧ w'.cell? ⟨gb101, 2, none⟩ = some (.int .i64 a0_2) ∧ w'.cell? (ad123.add (x12_3).toNat) = some (.int .i64 (rd t107 x12_3))) (ds := []) #[false, false, false, false, false, false, false, false] (by kernel_rfl) rfl rfl ⟨(blk_cell BK101.out 0).trans rfl, (blk_cell BK101.out 1).trans rfl, (blk_cell BK101.out 2).trans rfl, hx138_0⟩ (fun hHeld => ?_); refine with_tabW tattingref11_Build.tab14 tattingref11_Build.bits14 (fun HT_ HW_ => ?_)
                generalize wr.drew = w69 at HO_6 HO_8 HO_9 HO_10 HL122_0 BK101 BK102 HR122_0 HB hx138_0 hHeld ⊢
                refine pure_ (i := 1) (N := some 67) (v := ?_) (a' := ?_) #[false, true, false, false, false, false, false, false] rfl rfl (any_of HT_.out (by kernel_rfl)) (fun _ _ _ h => h) (Or.inl ⟨by rfl, ?_⟩) ?_ ?_
                rotate_left
                ·intro w'
                 go_simp
                 with_reducible rfl
                rotate_left
                ·simp only [Act.put, List.setIfInBounds_toArray, List.set_cons_zero, List.set_cons_succ, i64_w, i32_w]
                 rfl
                refine pure_ (i := 2) (N := some 68) (v := ?_) (a' := ?_) #[false, true, true, false, false, false, false, false] rfl rfl (any_of HT_.out (by kernel_rfl)) (fun _ _ _ h => h) (Or.inl ⟨by rfl, ?_⟩) ?_ ?_
                rotate_left
                ·intro w'
                 go_simp
                 with_reducible rfl
                rotate_left
                ·simp only [Act.put, List.setIfInBounds_toArray, List.set_cons_zero, List.set_cons_succ, i64_w, i32_w]
                 rfl
                refine pure_ (i := 3) (N := some 69) (v := ?_) (a' := ?_) #[false, true, true, true, false, false, false, false] rfl rfl (any_of HT_.out (by kernel_rfl)) (fun _ _ _ h => h) (Or.inl ⟨by rfl, ?_⟩) ?_ ?_
                rotate_left
                ·intro w'
                 go_simp
                 with_reducible rfl
                rotate_left
                ·simp only [Act.put, List.setIfInBounds_toArray, List.set_cons_zero, List.set_cons_succ, i64_w, i32_w]
                 rfl
                refine pure_ (i := 4) (N := some 70) (v := ?_) (a' := ?_) #[false, true, true, true, true, false, false, false] rfl rfl (any_of HT_.out (by kernel_rfl)) (fun _ _ _ h => h) (Or.inl ⟨by rfl, ?_⟩) ?_ ?_
                rotate_left
                ·intro w'
                 go_simp
                 with_reducible rfl
                rotate_left
                ·simp only [Act.put, List.setIfInBounds_toArray, List.set_cons_zero, List.set_cons_succ, i64_w, i32_w]
                 rfl
                refine take_ (i := 0) (N := some 66) (v := ?_) (a' := ?_) #[true, true, true, true, true, false, false, false] rfl rfl (take_ofW HT_.out HW_.out (by kernel_rfl)) (fun _ _ _ h => h) (Or.inl ⟨by rfl, ?_⟩) hHeld ?_ ?_
                rotate_left
                ·rintro w' ⟨s0, s1, s2, s3⟩
                 go_simp
                 with_reducible rfl
                rotate_left
                ·simp only [Act.put, List.setIfInBounds_toArray, List.set_cons_zero, List.set_cons_succ, i64_w, i32_w]
                 rfl
                refine take_ (i := 5) (N := some 71) (v := ?_) (a' := ?_) #[true, true, true, true, true, true, false, false] rfl rfl (take_ofW HT_.out HW_.out (by kernel_rfl)) (fun _ _ _ h => h) (Or.inl ⟨by rfl, ?_⟩) hHeld ?_ ?_
                rotate_left
                ·rintro w' ⟨s0, s1, s2, s3⟩
                 go_simp
                 with_reducible rfl
                rotate_left
                ·simp only [Act.put, List.setIfInBounds_toArray, List.set_cons_zero, List.set_cons_succ, i64_w, i32_w]
                 rfl
                refine one_ (i := 6) (N := some 72) #[true, true, true, true, true, true, true, false] rfl rfl (one_of HT_.out (by kernel_rfl)) (by decide) (fun K hK => ?_)
                refine goes_ Tryd.func25 (by kernel_rfl) rfl #[.agg #[.slice A0_0 l0_0.length c0_0, .int .i64 a0_1, .int .i64 a0_2], .slice A122_0 (rd_L10 x9_3 x11_1).length c122_0, .int .i64 (rd t107 x12_3)] (by rfl) rfl rfl tat11Build_t5 ?_
                with_reducible refine (tattingref09_Close.calls k3 _ _ l0_0 a0_1 a0_2 _ _ (rd_L10 x9_3 x11_1) (rd t107 x12_3) t139 _ ?side1 ?side2 ?side3 ?side4 A54.out).mono ?_
                (case side1 => repeat (first | exact (Kd.C_below HR0_0.out HB.out) | (with_reducible refine Kd.C_alloc ?_ _) | (with_reducible refine Kd.C_drewN ?_ _) | (with_reducible refine Kd.C_drew ?_)))
                (case side2 => exact HC0_0.out)
                (case side3 => repeat (first | exact tat11Build_t7 | (with_reducible refine Kd.C_alloc ?_ _) | (with_reducible refine Kd.C_drewN ?_ _) | (with_reducible refine Kd.C_drew ?_)))
                (case side4 => exact HC122_0.out)
                rintro e w70 ⟨v140, rfl, ho0, hb⟩
                have HS3_ := (hb.cell (World.block_lt_of_cell? _ _ (hHeld.2.2.2))).trans (hHeld.2.2.2)
                refine ⟨_, rfl, ?_⟩
                have n0_ := Aside0.mk (Kd.R_below tat11Build_t3 hb)
                have n1_ := Aside0.mk (Kd.R_below tat11Build_t4 hb)
                have n2_ := Aside0.mk (Kd.N_elder' tat11Build_t9 (Kd.R_base ho0) hb)
                have n3_ := Aside0.mk (Kd.R_below tat11Build_t6 hb)
                have n4_ := Aside0.mk (Kd.V_elder' tat11Build_t15 (Kd.R_base ho0) hb)
                have n5_ := Aside0.mk (Kd.R_lower ho0 (below_size tat11Build_t0))
                have n6_ := Aside0.mk (blk_below (g := gb101) (o := .cells #[.slice A0_0 l0_0.length c0_0, .int .i64 a0_1, .int .i64 a0_2] 24 (0, 0)) tat11Build_t1 hb)
                have n7_ := Aside0.mk (blk_below (g := gb102) (o := .cells #[.slice none 0 0, .int .i64 0, .int .i64 0, .slice none 0 0, .slice none 0 0] 30 (0, 0)) tat11Build_t2 hb)
                have n8_ := Aside0.mk (Kd.C_below tat11Build_t7 hb)
                have n9_ := Aside0.mk (below_step tat11Build_t0 hb)
                clear HO_6
                clear HO_8
                clear HO_9
                clear HO_10
                clear HL122_0
                clear BK101
                clear BK102
                clear HR122_0
                clear HB
                have HO_6 := n0_
                have HO_8 := n1_
                have HO_9 := n2_
                have HO_10 := n3_
                have HL122_0 := n4_
                have HO141 := n5_
                have BK101 := n6_
                have BK102 := n7_
                have HR122_0 := n8_
                have HB := n9_
                clear n0_ n1_ n2_ n3_ n4_ n5_ n6_ n7_ n8_ n9_
                (try clear hb)
                (try clear hb2)
                (try clear hk)
                (try clear hi)
                (try clear ho0)
                refine hK.out _ _ ⟨(blk_cell BK101.out 0).trans rfl, (blk_cell BK101.out 1).trans rfl, (blk_cell BK101.out 2).trans rfl, HS3_⟩ (fun hHeld => ?_)
                clear hK K
                refine norm_ (a' := ?_) ?_ ?_
                rotate_left
                ·show Act.put _ (some 72) _ = _
                 simp only [Act.put, List.setIfInBounds_toArray, List.set_cons_zero, List.set_cons_succ, i64_w, i32_w]
                 rfl
                refine pure_ (i := 7) (N := some 13) (v := ?_) (a' := ?_) #[true, true, true, true, true, true, true, true] rfl rfl (any_of HT_.out (by kernel_rfl)) (fun _ _ _ h => h) (Or.inl ⟨by rfl, ?_⟩) ?_ ?_
                rotate_left
                ·intro w'
                 go_simp
                 with_reducible rfl
                rotate_left
                ·simp only [Act.put, List.setIfInBounds_toArray, List.set_cons_zero, List.set_cons_succ, i64_w, i32_w]
                 rfl
                refine done_ (done_of HT_.out (by kernel_rfl)) ?_
                obtain ⟨Ao71, co71, eo71⟩ := Kd.R_slice HO141.out
                subst eo71
                try go_wp2_with (first | ((with_reducible refine gate_callee (f := 28) rfl ?_); refine goesL_ (some 75) rfl rfl Tryd.func28 (by kernel_rfl) rfl #[.slice (some ad122) x9_3.length co67, .slice Ao71 t139.length co71] rfl tat11Build_t5 ?_; (with_reducible refine (tattingref11_find.calls k3 _ _ x9_3 _ _ t139 t142 _ ?side1 ?side2 ?side3 ?side4 A55.out).mono ?_); (case side1 => repeat (first | exact (Kd.N_reads' HO_9.out).2.2 | (with_reducible refine Kd.C_alloc ?_ _) | (with_reducible refine Kd.C_drewN ?_ _) | (with_reducible refine Kd.C_drew ?_))); (case side2 => exact (Kd.N_reads' HO_9.out).2.1); (case side3 => repeat (first | exact (Kd.R_reads' HO141.out).2.2 | (with_reducible refine Kd.C_alloc ?_ _) | (with_reducible refine Kd.C_drewN ?_ _) | (with_reducible refine Kd.C_drew ?_))); (case side4 => exact (Kd.R_reads' HO141.out).2.1); rintro e w' ⟨rfl, ⟨nd, rfl⟩⟩; refine ⟨_, rfl, ?_⟩) | ((with_reducible refine gate_builtin (b := .append) (xs := #[.tmp 84, .tmp 86]) rfl ?_); (try (refine gate_guard (by rfl) ?_; dsimp only)); at_builtin; refine Kd.R_append (Kd.int .i64) (w0 := w) w.heap.size rfl (.tmp 84) (.tmp 86) 27 3 (.int .i64 0) 8 rfl Tryd.underlying27 info3 rfl (by decide) (by omega) u10 x10_3 t142 [.int .i64 t142] (fun k_ => some k_ ≠ (.slice Ao12 t103.length co12 : Value).ownBlock ∧ some k_ ≠ (.slice (some ad123) t107.length co68 : Value).ownBlock) (fun _ => False) rfl rfl ?aP (fun _ hk => hk.elim) ?aF ?aO ?aB ?aS ?aL ?_; (case aP => exact rfl); (case aB => exact tat11Build_t0); (case aF => exact (fun k_ hk => ⟨Kd.fresh' (Kd.R_lt tat11Build_t3) k_ hk, Kd.fresh' (Kd.R_lt tat11Build_t4) k_ hk⟩)); (case aO => exact tat11Build_t6); (case aS => exact (below_size tat11Build_t0)); (case aL => have := LMc66.out; omega); intro v150 w72 ho hb hg hat; rw [← Ny149.out] at ho; have n0_ := Aside0.mk (Kd.R_after (ok := (fun k_ => some k_ ≠ (.slice (some ad123) t107.length co68 : Value).ownBlock)) tat11Build_t3 hg hat); have n1_ := Aside0.mk (Kd.R_after (ok := (fun k_ => some k_ ≠ (.slice Ao12 t103.length co12 : Value).ownBlock)) tat11Build_t4 hg hat); have n2_ := Aside0.mk (Kd.N_afterv (ok := (fun k_ => some k_ ≠ (.slice Ao12 t103.length co12 : Value).ownBlock ∧ some k_ ≠ (.slice (some ad123) t107.length co68 : Value).ownBlock ∧ some k_ ≠ (.slice Ao71 t139.length co71 : Value).ownBlock ∧ k_ ≠ gb101 ∧ k_ ≠ gb102)) tat11Build_t22 hg hat); have n3_ := Aside0.mk (blk_grown (g := gb101) (o := .cells #[.slice A0_0 l0_0.length c0_0, .int .i64 a0_1, .int .i64 a0_2] 24 (0, 0)) tat11Build_t1 hg (Kd.R_ne HO_10.out BK101.out (by decide))); have n4_ := Aside0.mk (blk_grown (g := gb102) (o := .cells #[.slice none 0 0, .int .i64 0, .int .i64 0, .slice none 0 0, .slice none 0 0] 30 (0, 0)) tat11Build_t2 hg (Kd.R_ne HO_10.out BK102.out (by decide))); have n5_ := Aside0.mk (Kd.V_afterv (ok := (fun k_ => some k_ ≠ (.slice Ao12 t103.length co12 : Value).ownBlock ∧ some k_ ≠ (.slice (some ad123) t107.length co68 : Value).ownBlock ∧ some k_ ≠ (.slice (some ad122) x9_3.length co67 : Value).ownBlock ∧ some k_ ≠ (.slice Ao71 t139.length co71 : Value).ownBlock ∧ k_ ≠ gb101 ∧ k_ ≠ gb102)) tat11Build_t18 hg hat); have n6_ := Aside0.mk (Kd.R_over' (by (with_reducible repeat (first | apply Kd.R_alloc | apply Kd.R_drewN | apply Kd.R_drew)); exact HO141.out) (Kd.R_typed tat11Build_t6) (by decide) hg); have n7_ := Aside0.mk (hb); have n8_ := Aside0.mk (ho); clear HO_6; clear HO_8; clear HO_9; clear BK101; clear BK102; clear HL122_0; clear HO141; clear HB; clear HO_10; have HO_6 := n0_; have HO_8 := n1_; have HO_9 := n2_; have BK101 := n3_; have BK102 := n4_; have HL122_0 := n5_; have HO141 := n6_; have HB := n7_; have HO151 := n8_; clear n0_ n1_ n2_ n3_ n4_ n5_ n6_ n7_ n8_; clear ho hb hg hat))
                go_roundg k3
                case measure => have := HK1.out; have := HJ23.out; have := HK3.out; omega
                case rel => exact ⟨(x9_3), (y149), (wrap64 (x12_3 + 1)), tat11Build_t13, H', ⟨by have := HK1.out; have := HJ23.out; have := HK3.out; omega⟩, ⟨by (with_reducible repeat (first | apply Kd.R_alloc | apply Kd.R_drewN | apply Kd.R_drew)); exact HO_6.out⟩, ⟨by (with_reducible repeat (first | apply Kd.R_alloc | apply Kd.R_drewN | apply Kd.R_drew)); exact HO_8.out⟩, ⟨by (with_reducible repeat (first | apply Kd.N_alloc | apply Kd.N_drewN | apply Kd.N_drew)); exact Kd.N_mono HO_9.out (fun _ hk => (by first | exact ⟨hk.1.1, ⟨hk.1.2.1, ⟨hk.2, ⟨hk.1.2.2.2.1, hk.1.2.2.2.2⟩⟩⟩⟩ | (simp_all; done) | grind))⟩, ⟨by (with_reducible repeat (first | apply Kd.R_alloc | apply Kd.R_drewN | apply Kd.R_drew)); exact HO151.out⟩, ⟨by (with_reducible repeat (first | refine blk_drewN ?_ _ | refine blk_drew ?_ | refine blk_alloc ?_ _)); exact BK101.out⟩, ⟨by (with_reducible repeat (first | refine blk_drewN ?_ _ | refine blk_drew ?_ | refine blk_alloc ?_ _)); exact BK102.out⟩, ⟨by repeat (first | (with_reducible first | exact HB.out | apply below_alloc | apply pw_below_drewN | apply below_drew1 | refine below_set ?_ GE101.out | refine below_set ?_ GE102.out) | exact HB.out)⟩⟩
               ·rw [if_neg c66] at H
                exact absurd H (by simp)
            ·rw [if_neg c33] at H
             exact absurd H (by simp)
           ·rw [if_neg c32] at H
            exact absurd H (by simp)
          ·rw [if_neg c31] at H
           exact absurd H (by simp)
         ·rw [if_neg c30] at H
          exact absurd H (by simp)
        ·rw [if_neg c29] at H
         have c29b0 : decide (x12_3 < t106) = false := decide_eq_false c29
         clear c29
         have H' := Aside0.mk H
         clear H
         go_wp2
         go_roundg k3
         case measure => have := HK1.out; have := HJ23.out; have := HK3.out; omega
         case rel => exact ⟨(x9_3), (x10_3), (wrap64 (x11_1 + 1)), tat11Build_t13, H', ⟨by have := HK1.out; have := HJ23.out; have := HK3.out; omega⟩, ⟨by (with_reducible repeat (first | apply Kd.R_alloc | apply Kd.R_drewN | apply Kd.R_drew)); exact HO_6.out⟩, ⟨by (with_reducible repeat (first | apply Kd.R_alloc | apply Kd.R_drewN | apply Kd.R_drew)); exact HO_8.out⟩, ⟨by (with_reducible repeat (first | apply Kd.N_alloc | apply Kd.N_drewN | apply Kd.N_drew)); exact HO_9.out⟩, ⟨by (with_reducible repeat (first | apply Kd.R_alloc | apply Kd.R_drewN | apply Kd.R_drew)); exact HO_10.out⟩, ⟨by (with_reducible repeat (first | refine blk_drewN ?_ _ | refine blk_drew ?_ | refine blk_alloc ?_ _)); exact BK101.out⟩, ⟨by (with_reducible repeat (first | refine blk_drewN ?_ _ | refine blk_drew ?_ | refine blk_alloc ?_ _)); exact BK102.out⟩, ⟨by repeat (first | (with_reducible first | exact HB.out | apply below_alloc | apply pw_below_drewN | apply below_drew1 | refine below_set ?_ GE101.out | refine below_set ?_ GE102.out) | exact HB.out)⟩⟩
     ·replace c28 := Bool.eq_false_iff.mpr c28
      subst c28
      have H1 : (if (x9_1.length : Int) > a1 then (some (([] : List Int), 0, 0, ([] : List Int), ([] : List Bool), false)) else (tattingref11_Build.l2 kj23 x9_1 0 l0_0 a0_1 a0_2 t103 t106 0 x10_1 ([] : List Bool))) = some (r1, r2, r3, r4, r5, r6) := by rw [if_neg (show ¬ (false = true) by decide)] at H; exact H
      clear H
      have H := H1
      clear H1
      by_cases c73 : (x9_1.length : Int) > a1
      ·rw [if_pos c73] at H
       have c73b0 : decide (a1 < (x9_1.length : Int)) = true := decide_eq_true c73
       clear c73
       simp only [Option.some.injEq, Prod.mk.injEq] at H
       obtain ⟨rfl, rfl, rfl, rfl, rfl, rfl⟩ := H
       obtain ⟨Ao74, co74, eo74⟩ := Kd.N_slice HO_9.out
       subst eo74
       have hnb75 := NB102_101.out
       have hnc75 := NB101_102.out
       have hcz76_0 : wc.cell? ⟨gb102, 0, none⟩ = some (.slice none 0 0) := (blk_cell BK102.out 0).trans rfl
       have hcz76_1 : wc.cell? ⟨gb102, 1, none⟩ = some (.int .i64 0) := (blk_cell BK102.out 1).trans rfl
       have hcz76_2 : wc.cell? ⟨gb102, 2, none⟩ = some (.int .i64 0) := (blk_cell BK102.out 2).trans rfl
       have hcz76_3 : wc.cell? ⟨gb102, 3, none⟩ = some (.slice none 0 0) := (blk_cell BK102.out 3).trans rfl
       have hcz76_4 : wc.cell? ⟨gb102, 4, none⟩ = some (.slice none 0 0) := (blk_cell BK102.out 4).trans rfl
       have hfz76_0 := blk_frozen BK102.out 0
       have hfz76_1 := blk_frozen BK102.out 1
       have hfz76_2 := blk_frozen BK102.out 2
       have hfz76_3 := blk_frozen BK102.out 3
       have hfz76_4 := blk_frozen BK102.out 4
       go_wp2
       refine bodyPost_ret (results_ct rfl _ _ gb102 30 #[.slice none 0 0, .int .i64 0, .int .i64 0, .slice none 0 0, .slice none 0 0] (0, 0) _ rfl (by (with_reducible repeat (first | refine blk_drewN ?_ _ | refine blk_drew ?_ | refine blk_alloc ?_ _)); refine blk_put (cs := #[.slice none 0 0, .int .i64 0, .int .i64 0, .slice none 0 0, .slice none 0 0]) ?_ 4 _ rfl; (with_reducible repeat (first | refine blk_drewN ?_ _ | refine blk_drew ?_ | refine blk_alloc ?_ _)); refine blk_put (cs := #[.slice none 0 0, .int .i64 0, .int .i64 0, .slice none 0 0, .slice none 0 0]) ?_ 3 _ rfl; (with_reducible repeat (first | refine blk_drewN ?_ _ | refine blk_drew ?_ | refine blk_alloc ?_ _)); refine blk_put (cs := #[.slice none 0 0, .int .i64 0, .int .i64 0, .slice none 0 0, .slice none 0 0]) ?_ 2 _ rfl; (with_reducible repeat (first | refine blk_drewN ?_ _ | refine blk_drew ?_ | refine blk_alloc ?_ _)); refine blk_put (cs := #[.slice none 0 0, .int .i64 0, .int .i64 0, .slice none 0 0, .slice none 0 0]) ?_ 1 _ rfl; (with_reducible repeat (first | refine blk_drewN ?_ _ | refine blk_drew ?_ | refine blk_alloc ?_ _)); refine blk_put (cs := #[.slice none 0 0, .int .i64 0, .int .i64 0, .slice none 0 0, .slice none 0 0]) ?_ 0 _ rfl; (with_reducible repeat (first | refine blk_drewN ?_ _ | refine blk_drew ?_ | refine blk_alloc ?_ _)); exact BK102.out) Tryd.underlying30 rfl (by kernel_rfl)) rfl ?_
       exact ⟨_, _, _, by first | rfl | (simp [errW_none, errW_some] <;> rfl) | (simp [*, errW_none, errW_some] <;> rfl), by first | exact Kd.R_nil _ _ _ _ _ | exact Kd.N_nil _ _ _ _ _ | exact Kd.V_nil _ _ _ _ _ | exact Kd.Q_nil _ _ _ _ _ | exact Kd.S_nil _ _ _ _ _, by first | exact Kd.R_nil _ _ _ _ _ | exact Kd.N_nil _ _ _ _ _ | exact Kd.V_nil _ _ _ _ _ | exact Kd.Q_nil _ _ _ _ _ | exact Kd.S_nil _ _ _ _ _, by first | exact Kd.R_nil _ _ _ _ _ | exact Kd.N_nil _ _ _ _ _ | exact Kd.V_nil _ _ _ _ _ | exact Kd.Q_nil _ _ _ _ _ | exact Kd.S_nil _ _ _ _ _, by repeat (first | (with_reducible first | exact HB.out | apply below_alloc | apply pw_below_drewN | apply below_drew1 | refine below_set ?_ GE101.out | refine below_set ?_ GE102.out) | exact HB.out)⟩
      ·rw [if_neg c73] at H
       have c73b0 : decide (a1 < (x9_1.length : Int)) = false := decide_eq_false c73
       clear c73
       have H' := Aside0.mk H
       clear H
       obtain ⟨Ao77, co77, eo77⟩ := Kd.N_slice HO_9.out
       subst eo77
       obtain ⟨Ao78, co78, eo78⟩ := Kd.R_slice HO_10.out
       subst eo78
       go_wp2_with (first | ((with_reducible refine gate_dst (N := 15) rfl ?_); (try (refine gate_guard (by rfl) ?_; dsimp only)); refine box_event ?hg (N := 15) ?hd (cs := #[.slice none 0 0, .int .i64 0, .int .i64 0, .slice none 0 0, .slice none 0 0]) (t := 30) ?hr ?_; (case hd => rfl); (case hg => rfl); (case hr => first | (go_simp; done) | (go_simp; rfl)); intro gb152 hg w79 hbox hb; have n0_ := Aside0.mk (Kd.R_below tat11Build_t3 hb); have n1_ := Aside0.mk (Kd.R_below tat11Build_t4 hb); have n2_ := Aside0.mk (Kd.N_below (Kd.N_elderB tat11Build_t9 gb152 (Nat.le_of_eq hg.symm)) hb); have n3_ := Aside0.mk (Kd.R_below tat11Build_t6 hb); have n4_ := Aside0.mk (blk_below (g := gb101) (o := .cells #[.slice A0_0 l0_0.length c0_0, .int .i64 a0_1, .int .i64 a0_2] 24 (0, 0)) tat11Build_t1 hb); have n5_ := Aside0.mk (blk_below (g := gb102) (o := .cells #[.slice none 0 0, .int .i64 0, .int .i64 0, .slice none 0 0, .slice none 0 0] 30 (0, 0)) tat11Build_t2 hb); have n6_ := Aside0.mk (below_step tat11Build_t0 hb); have n7_ := Aside0.mk (hbox); have n8_ := Aside0.mk ((by rw [hg]; exact (below_size tat11Build_t0) : w.heap.size ≤ gb152)); have n9_ := Aside0.mk ((by rw [hg]; exact (below_size tat11Build_t0) : w.heap.size ≤ gb152)); have n10_ := Aside0.mk ((by rw [hg]; exact Nat.ne_of_lt (blk_lt (g := gb101) (o := .cells #[.slice A0_0 l0_0.length c0_0, .int .i64 a0_1, .int .i64 a0_2] 24 (0, 0)) tat11Build_t1) : gb101 ≠ gb152)); have n11_ := Aside0.mk ((by rw [hg]; exact Nat.ne_of_gt (blk_lt (g := gb101) (o := .cells #[.slice A0_0 l0_0.length c0_0, .int .i64 a0_1, .int .i64 a0_2] 24 (0, 0)) tat11Build_t1) : gb152 ≠ gb101)); have n12_ := Aside0.mk ((by rw [hg]; exact Nat.ne_of_lt (blk_lt (g := gb102) (o := .cells #[.slice none 0 0, .int .i64 0, .int .i64 0, .slice none 0 0, .slice none 0 0] 30 (0, 0)) tat11Build_t2) : gb102 ≠ gb152)); have n13_ := Aside0.mk ((by rw [hg]; exact Nat.ne_of_gt (blk_lt (g := gb102) (o := .cells #[.slice none 0 0, .int .i64 0, .int .i64 0, .slice none 0 0, .slice none 0 0] 30 (0, 0)) tat11Build_t2) : gb152 ≠ gb102)); clear HO_6; clear HO_8; clear HO_9; clear HO_10; clear BK101; clear BK102; clear HB; have HO_6 := n0_; have HO_8 := n1_; have HO_9 := n2_; have HO_10 := n3_; have BK101 := n4_; have BK102 := n5_; have HB := n6_; have BK152 := n7_; have GW152 := n8_; have GE152 := n9_; have NB101_152 := n10_; have NB152_101 := n11_; have NB102_152 := n12_; have NB152_102 := n13_; clear n0_ n1_ n2_ n3_ n4_ n5_ n6_ n7_ n8_ n9_ n10_ n11_ n12_ n13_; clear hb hbox hg; have hnb80 := NB152_101.out; have hnc80 := NB101_152.out; have hnb81 := NB152_102.out; have hnc81 := NB102_152.out; have hcz82_0 : w79.cell? ⟨gb152, 0, none⟩ = some (.slice none 0 0) := (blk_cell BK152.out 0).trans rfl; have hcz82_1 : w79.cell? ⟨gb152, 1, none⟩ = some (.int .i64 0) := (blk_cell BK152.out 1).trans rfl; have hcz82_2 : w79.cell? ⟨gb152, 2, none⟩ = some (.int .i64 0) := (blk_cell BK152.out 2).trans rfl; have hcz82_3 : w79.cell? ⟨gb152, 3, none⟩ = some (.slice none 0 0) := (blk_cell BK152.out 3).trans rfl; have hcz82_4 : w79.cell? ⟨gb152, 4, none⟩ = some (.slice none 0 0) := (blk_cell BK152.out 4).trans rfl; have hfz82_0 := blk_frozen BK152.out 0; have hfz82_1 := blk_frozen BK152.out 1; have hfz82_2 := blk_frozen BK152.out 2; have hfz82_3 := blk_frozen BK152.out 3; have hfz82_4 := blk_frozen BK152.out 4))
       go_loopg [16] kj23 (fun kq v16 w' => ∃ (x16_3 : Int) (x153004_3 : List Bool) (u153004 : Value), v16 = .int .i64 x16_3 ∧ Aside0 (tattingref11_Build.l2 kq x9_1 x16_3 l0_0 a0_1 a0_2 t103 t106 0 x10_1 x153004_3 = some (r1, r2, r3, r4, r5, r6)) ∧ Aside0 (kq ≤ kj23) ∧ Aside0 (Kd.N (Kd.slice 4 Kd.bool) 28 w' w.heap.size (fun k_ => some k_ ≠ ((.slice Ao12 t103.length co12) : Value).ownBlock ∧ some k_ ≠ ((.slice Ao78 x10_1.length co78) : Value).ownBlock ∧ some k_ ≠ (u153004 : Value).ownBlock ∧ k_ ≠ gb101 ∧ k_ ≠ gb102 ∧ k_ ≠ gb152) (.slice Ao77 x9_1.length co77) x9_1) ∧ Aside0 (Kd.R (Kd.int .i64) 3 w' w.heap.size (fun k_ => some k_ ≠ ((.slice Ao78 x10_1.length co78) : Value).ownBlock) (.slice Ao12 t103.length co12) t103) ∧ Aside0 (Kd.R (Kd.int .i64) 3 w' w.heap.size (fun k_ => some k_ ≠ ((.slice Ao12 t103.length co12) : Value).ownBlock) (.slice Ao78 x10_1.length co78) x10_1) ∧ Aside0 (Kd.R Kd.bool 4 w' w.heap.size (fun _ => True) u153004 x153004_3) ∧ Aside0 (w'.heap[gb101]? = some (.cells #[(.slice A0_0 l0_0.length c0_0), .int .i64 a0_1, .int .i64 a0_2] 24 (0, 0))) ∧ Aside0 (w'.heap[gb102]? = some (.cells #[(.slice none 0 0), .int .i64 0, .int .i64 0, (.slice none 0 0), (.slice none 0 0)] 30 (0, 0))) ∧ Aside0 (w'.heap[gb152]? = some (.cells #[(.slice Ao12 t103.length co12), .int .i64 t106, .int .i64 0, (.slice Ao78 x10_1.length co78), u153004] 30 (0, 0))) ∧ Aside0 (Below w.heap.size w w'))
       case atStart => exact ⟨(0), (([] : List Bool)), (.slice none 0 0), tat11Build_t13, H', ⟨Nat.le_refl _⟩, ⟨by (with_reducible repeat (first | apply Kd.N_alloc | apply Kd.N_drewN | apply Kd.N_drew)); exact Kd.N_mono (Kd.N_far (p := ⟨gb152, 4, none⟩) (Kd.N_far (p := ⟨gb152, 3, none⟩) (Kd.N_far (p := ⟨gb152, 2, none⟩) (Kd.N_far (p := ⟨gb152, 1, none⟩) (Kd.N_far (p := ⟨gb152, 0, none⟩) (Kd.N_mono HO_9.out (fun k_ hk => (⟨hk, hk.2⟩ : _ ∧ k_ ≠ gb152))) (fun _ hk => hk.2) (.slice Ao12 t103.length co12)) (fun _ hk => hk.2) (.int .i64 t106)) (fun _ hk => hk.2) (.int .i64 0)) (fun _ hk => hk.2) (.slice Ao78 x10_1.length co78)) (fun _ hk => hk.2) (.slice none 0 0)) (fun _ hk => (by first | exact ⟨hk.1.1.1, ⟨hk.1.1.2.2.1, ⟨(by simp [Value.ownBlock]), ⟨hk.1.1.2.2.2.1, ⟨hk.1.1.2.2.2.2, hk.1.2⟩⟩⟩⟩⟩ | (simp_all; done) | grind))⟩, ⟨by (with_reducible repeat (first | apply Kd.R_alloc | apply Kd.R_drewN | apply Kd.R_drew)); exact Kd.R_mono (Kd.R_far (p := ⟨gb152, 4, none⟩) (Kd.R_far (p := ⟨gb152, 3, none⟩) (Kd.R_far (p := ⟨gb152, 2, none⟩) (Kd.R_far (p := ⟨gb152, 1, none⟩) (Kd.R_far (p := ⟨gb152, 0, none⟩) (Kd.R_types HO_6.out BK152.out (by decide)) (fun _ hk => hk.2) (.slice Ao12 t103.length co12)) (fun _ hk => hk.2) (.int .i64 t106)) (fun _ hk => hk.2) (.int .i64 0)) (fun _ hk => hk.2) (.slice Ao78 x10_1.length co78)) (fun _ hk => hk.2) (.slice none 0 0)) (fun _ hk => hk.1.2)⟩, ⟨by (with_reducible repeat (first | apply Kd.R_alloc | apply Kd.R_drewN | apply Kd.R_drew)); exact Kd.R_mono (Kd.R_far (p := ⟨gb152, 4, none⟩) (Kd.R_far (p := ⟨gb152, 3, none⟩) (Kd.R_far (p := ⟨gb152, 2, none⟩) (Kd.R_far (p := ⟨gb152, 1, none⟩) (Kd.R_far (p := ⟨gb152, 0, none⟩) (Kd.R_types HO_10.out BK152.out (by decide)) (fun _ hk => hk.2) (.slice Ao12 t103.length co12)) (fun _ hk => hk.2) (.int .i64 t106)) (fun _ hk => hk.2) (.int .i64 0)) (fun _ hk => hk.2) (.slice Ao78 x10_1.length co78)) (fun _ hk => hk.2) (.slice none 0 0)) (fun _ hk => hk.1.1)⟩, ⟨by first | exact Kd.R_nil _ _ _ _ _ | exact Kd.N_nil _ _ _ _ _ | exact Kd.V_nil _ _ _ _ _ | exact Kd.Q_nil _ _ _ _ _ | exact Kd.S_nil _ _ _ _ _⟩, ⟨by (with_reducible repeat (first | refine blk_drewN ?_ _ | refine blk_drew ?_ | refine blk_alloc ?_ _)); refine blk_far ?_ NB101_152.out _; (with_reducible repeat (first | refine blk_drewN ?_ _ | refine blk_drew ?_ | refine blk_alloc ?_ _)); refine blk_far ?_ NB101_152.out _; (with_reducible repeat (first | refine blk_drewN ?_ _ | refine blk_drew ?_ | refine blk_alloc ?_ _)); refine blk_far ?_ NB101_152.out _; (with_reducible repeat (first | refine blk_drewN ?_ _ | refine blk_drew ?_ | refine blk_alloc ?_ _)); refine blk_far ?_ NB101_152.out _; (with_reducible repeat (first | refine blk_drewN ?_ _ | refine blk_drew ?_ | refine blk_alloc ?_ _)); refine blk_far ?_ NB101_152.out _; (with_reducible repeat (first | refine blk_drewN ?_ _ | refine blk_drew ?_ | refine blk_alloc ?_ _)); exact BK101.out⟩, ⟨by (with_reducible repeat (first | refine blk_drewN ?_ _ | refine blk_drew ?_ | refine blk_alloc ?_ _)); refine blk_far ?_ NB102_152.out _; (with_reducible repeat (first | refine blk_drewN ?_ _ | refine blk_drew ?_ | refine blk_alloc ?_ _)); refine blk_far ?_ NB102_152.out _; (with_reducible repeat (first | refine blk_drewN ?_ _ | refine blk_drew ?_ | refine blk_alloc ?_ _)); refine blk_far ?_ NB102_152.out _; (with_reducible repeat (first | refine blk_drewN ?_ _ | refine blk_drew ?_ | refine blk_alloc ?_ _)); refine blk_far ?_ NB102_152.out _; (with_reducible repeat (first | refine blk_drewN ?_ _ | refine blk_drew ?_ | refine blk_alloc ?_ _)); refine blk_far ?_ NB102_152.out _; (with_reducible repeat (first | refine blk_drewN ?_ _ | refine blk_drew ?_ | refine blk_alloc ?_ _)); exact BK102.out⟩, ⟨by (with_reducible repeat (first | refine blk_drewN ?_ _ | refine blk_drew ?_ | refine blk_alloc ?_ _)); refine blk_put (cs := #[.slice Ao12 t103.length co12, .int .i64 t106, .int .i64 0, .slice Ao78 x10_1.length co78, .slice none 0 0]) ?_ 4 _ rfl; (with_reducible repeat (first | refine blk_drewN ?_ _ | refine blk_drew ?_ | refine blk_alloc ?_ _)); refine blk_put (cs := #[.slice Ao12 t103.length co12, .int .i64 t106, .int .i64 0, .slice none 0 0, .slice none 0 0]) ?_ 3 _ rfl; (with_reducible repeat (first | refine blk_drewN ?_ _ | refine blk_drew ?_ | refine blk_alloc ?_ _)); refine blk_put (cs := #[.slice Ao12 t103.length co12, .int .i64 t106, .int .i64 0, .slice none 0 0, .slice none 0 0]) ?_ 2 _ rfl; (with_reducible repeat (first | refine blk_drewN ?_ _ | refine blk_drew ?_ | refine blk_alloc ?_ _)); refine blk_put (cs := #[.slice Ao12 t103.length co12, .int .i64 0, .int .i64 0, .slice none 0 0, .slice none 0 0]) ?_ 1 _ rfl; (with_reducible repeat (first | refine blk_drewN ?_ _ | refine blk_drew ?_ | refine blk_alloc ?_ _)); refine blk_put (cs := #[.slice none 0 0, .int .i64 0, .int .i64 0, .slice none 0 0, .slice none 0 0]) ?_ 0 _ rfl; (with_reducible repeat (first | refine blk_drewN ?_ _ | refine blk_drew ?_ | refine blk_alloc ?_ _)); exact BK152.out⟩, ⟨by repeat (first | (with_reducible first | exact HB.out | apply below_alloc | apply pw_below_drewN | apply below_drew1 | refine below_set ?_ GE101.out | refine below_set ?_ GE102.out | refine below_set ?_ GE152.out) | exact HB.out)⟩⟩
       case round =>
        clear H'
        try clear c1
        try clear p1
        try clear q1
        try clear hx1
        try clear c2
        try clear p2
        try clear c3
        try clear c4
        try clear c5
        try clear c6
        try clear p6
        try clear c7
        try clear c8
        try clear c12
        try clear p12
        try clear q12
        try clear hx12
        try clear p13
        try clear q13
        try clear hx13
        try clear c25
        try clear c27
        try clear c28
        try clear c29
        try clear c29b0
        try clear c30
        try clear c31
        try clear c32
        try clear c33
        try clear c34
        try clear c34b0
        try clear c47
        try clear c56
        try clear c56b0
        try clear c57
        try clear c58
        try clear p64
        try clear c66
        try clear c73
        try clear c73b0
        try clear c75
        try clear c80
        try clear c81
        try clear hcz76_0
        try clear hcz76_1
        try clear hcz76_2
        try clear hcz76_3
        try clear hcz76_4
        try clear hcz82_0
        try clear hcz82_1
        try clear hcz82_2
        try clear hcz82_3
        try clear hcz82_4
        try clear hfz76_0
        try clear hfz76_1
        try clear hfz76_2
        try clear hfz76_3
        try clear hfz76_4
        try clear hfz82_0
        try clear hfz82_1
        try clear hfz82_2
        try clear hfz82_3
        try clear hfz82_4
        try clear hx122_0
        try clear hx123_0
        try clear hx124_0
        try clear hx138_0
        try clear p122
        try clear p123
        try clear p124
        try clear p138
        try clear q122
        try clear q123
        try clear q124
        try clear q138
        obtain ⟨x16_3, x153004_3, u153004, rfl, HA, HK3, HO_9, HO_153000, HO_153003, HO_153004, BK101, BK102, BK152, HB⟩ := hrel
        cases gk with
        | zero => exact absurd HA.out (by simp [tattingref11_Build.l2])
        | succ k3 =>
         have H := HA.out
         clear HA
         simp only [tattingref11_Build.l2] at H
         by_cases c83 : x16_3 < (x9_1.length : Int)
         ·rw [if_pos c83] at H
          have c83b0 : decide (x16_3 < (x9_1.length : Int)) = true := decide_eq_true c83
          clear c83
          by_cases c84 : 0 ≤ x16_3
          ·rw [if_pos c84] at H
           have c84b0 : decide (0 ≤ x16_3) = true := decide_eq_true c84
           clear c84
           by_cases c85 : 0 ≤ a0_2
           ·rw [if_pos c85] at H
            have c85b0 : decide (0 ≤ a0_2) = true := decide_eq_true c85
            clear c85
            by_cases c86 : a0_2 < ((rd_L10 x9_1 x16_3).length : Int)
            ·rw [if_pos c86] at H
             have c86b0 : decide (a0_2 < ((rd_L10 x9_1 x16_3).length : Int)) = true := decide_eq_true c86
             clear c86
             by_cases c87 : x153004_3.length < 140737488355328
             ·rw [if_pos c87] at H
              have LMc87 := Aside0.mk c87
              clear c87
              obtain ⟨y155, hy155⟩ : ∃ y_ : List Bool, y_ = (x153004_3 ++ [rdOf false (rd_L10 x9_1 x16_3) a0_2]) := ⟨_, rfl⟩
              replace H : (tattingref11_Build.l2 k3 x9_1 (wrap64 (x16_3 + 1)) l0_0 a0_1 a0_2 t103 t106 0 x10_1 y155) = some (r1, r2, r3, r4, r5, r6) := by first | (rw [hy155]; with_reducible exact H) | (have H2_ := (Option.bind_some _ _).symm.trans H; rw [hy155]; with_reducible exact H2_) | (have H2_ := (Option.bind_some _ _).symm.trans H; with_reducible exact H2_) | with_reducible exact H | (rw [hy155]; exact H) | exact H
              have Ny155 := Aside0.mk hy155
              clear hy155
              have H' := Aside0.mk H
              clear H
              try go_wp2
              have n0_ := Aside0.mk (Kd.N_drew HO_9.out)
              have n1_ := Aside0.mk (Kd.R_drew HO_153000.out)
              have n2_ := Aside0.mk (Kd.R_drew HO_153003.out)
              have n3_ := Aside0.mk (Kd.R_drew HO_153004.out)
              have n4_ := Aside0.mk (blk_drew BK101.out)
              have n5_ := Aside0.mk (blk_drew BK102.out)
              have n6_ := Aside0.mk (blk_drew BK152.out)
              have n7_ := Aside0.mk (below_drew1 HB.out)
              clear HO_9
              clear HO_153000
              clear HO_153003
              clear HO_153004
              clear BK101
              clear BK102
              clear BK152
              clear HB
              have HO_9 := n0_
              have HO_153000 := n1_
              have HO_153003 := n2_
              have HO_153004 := n3_
              have BK101 := n4_
              have BK102 := n5_
              have BK152 := n6_
              have HB := n7_
              clear n0_ n1_ n2_ n3_ n4_ n5_ n6_ n7_
              have p153 : 0 ≤ (x16_3 : Int) := of_decide_eq_true tat11Build_t8
              have q153 : x16_3 < (x9_1.length : Int) := of_decide_eq_true tat11Build_t8
              obtain ⟨ad153, A153_0, c153_0, e153, hx153_0, hl153_0, hi153_0⟩ := at_L10 (Kd.N_reads' HO_9.out).2.2 x16_3 p153 q153
              cases e153
              obtain ⟨ce153, hce153, hMe153, hcc153⟩ := Kd.N_get HO_9.out [] x16_3 p153 (by first | exact q153 | exact of_decide_eq_true tat11Build_t8 | (have e_ := (Kd.N_reads' HO_9.out).1; omega))
              obtain ⟨ua153_0, uc153_0, rfl, ul153_0, ge153_0⟩ := Kd.FK_slice_open hMe153
              have hv153_0 := hcc153 0 _ rfl
              rw [Nat.add_zero, show ((Kd.slice 4 Kd.bool)).sz = 1 from rfl, Nat.mul_one] at hv153_0
              replace hv153_0 := Option.some.inj (hv153_0.symm.trans hx153_0)
              injection hv153_0 with hva_ hvn_ hvc_
              rw [hva_] at ge153_0
              rw [hvc_] at ul153_0
              have HL153_0 := Aside0.mk (show Kd.V Kd.bool 4 _ w.heap.size _ _ (rd_L10 x9_1 x16_3) from Kd.V_mk ul153_0 ge153_0)
              clear hva_ hvn_ hvc_ ge153_0 ul153_0
              clear hcc153 hce153
              have HR153_0 := Aside0.mk hi153_0
              have HC153_0 := Aside0.mk hl153_0
              clear hi153_0 hl153_0
              replace p153 := eq_true p153
              replace q153 := eq_true q153
              have p154 : 0 ≤ (a0_2 : Int) := of_decide_eq_true tat11Build_t8
              have q154 : a0_2 < ((rd_L10 x9_1 x16_3).length : Int) := of_decide_eq_true tat11Build_t8
              obtain ⟨ad154, e154, hx154_0⟩ := Kd.at_bool (by repeat (first | (with_reducible exact HR153_0.out) | (with_reducible refine Kd.C_alloc ?_ _) | (with_reducible refine Kd.C_drewN ?_ _) | (with_reducible refine Kd.C_drew ?_) | exact HR153_0.out)) a0_2 p154 q154
              cases e154
              replace p154 := eq_true p154
              replace q154 := eq_true q154
              refine start_ (n := 14) (S := fun w' => w'.cell? ⟨gb152, 0, none⟩ = some (.slice Ao12 t103.length co12) ∧ w'.cell? ⟨gb152, 1, none⟩ = some (.int .i64 t106) ∧ w'.cell? ⟨gb152, 2, none⟩ = some (.int .i64 0) ∧ w'.cell? ⟨gb152, 3, none⟩ = some (.slice Ao78 x10_1.length co78) ∧ w'.cell? ⟨gb152, 4, none⟩ = some (u153004) ∧ w'.cell? ⟨gb101, 0, none⟩ = some (.slice A0_0 l0_0.length c0_0) ∧ w'.cell? ⟨gb101, 1, none⟩ = some (.int .i64 a0_1) ∧ w'.cell? ⟨gb101, 2, none⟩ = some (.int .i64 a0_2) ∧ w'.cell? (ad153.add (x16_3).toNat) = some (.slice (some ad154) (rd_L10 x9_1 x16_3).length c153_0) ∧ w'.cell? (ad154.add (a0_2).toNat) = some (.bool (rdOf false (rd_L10 x9_1 x16_3) a0_2))) (ds := [11, 13]) #[false, false, false, false, false, false, false, false, false, false, false, false, false, false] (by kernel_rfl) rfl rfl ⟨(blk_cell BK152.out 0).trans rfl, (blk_cell BK152.out 1).trans rfl, (blk_cell BK152.out 2).trans rfl, (blk_cell BK152.out 3).trans rfl, (blk_cell BK152.out 4).trans rfl, (blk_cell BK101.out 0).trans rfl, (blk_cell BK101.out 1).trans rfl, (blk_cell BK101.out 2).trans rfl, hx153_0, hx154_0⟩ (fun hHeld => ?_); refine with_tabW tattingref11_Build.tab26 tattingref11_Build.bits26 (fun HT_ HW_ => ?_)
              generalize wr.drew = w88 at HO_9 HO_153000 HO_153003 HO_153004 BK101 BK102 BK152 HB HL153_0 HR153_0 hx153_0 hx154_0 hHeld ⊢
              refine pure_ (i := 0) (N := some 103) (v := ?_) (a' := ?_) #[true, false, false, false, false, false, false, false, false, false, false, false, false, false] rfl rfl (any_of HT_.out (by kernel_rfl)) (fun _ _ _ h => h) (Or.inl ⟨by rfl, ?_⟩) ?_ ?_
              rotate_left
              ·intro w'
               go_simp
               with_reducible rfl
              rotate_left
              ·simp only [Act.put, List.setIfInBounds_toArray, List.set_cons_zero, List.set_cons_succ, i64_w, i32_w]
               rfl
              refine pure_ (i := 2) (N := some 105) (v := ?_) (a' := ?_) #[true, false, true, false, false, false, false, false, false, false, false, false, false, false] rfl rfl (any_of HT_.out (by kernel_rfl)) (fun _ _ _ h => h) (Or.inl ⟨by rfl, ?_⟩) ?_ ?_
              rotate_left
              ·intro w'
               go_simp
               with_reducible rfl
              rotate_left
              ·simp only [Act.put, List.setIfInBounds_toArray, List.set_cons_zero, List.set_cons_succ, i64_w, i32_w]
               rfl
              refine pure_ (i := 3) (N := some 106) (v := ?_) (a' := ?_) #[true, false, true, true, false, false, false, false, false, false, false, false, false, false] rfl rfl (any_of HT_.out (by kernel_rfl)) (fun _ _ _ h => h) (Or.inl ⟨by rfl, ?_⟩) ?_ ?_
              rotate_left
              ·intro w'
               go_simp
               with_reducible rfl
              rotate_left
              ·simp only [Act.put, List.setIfInBounds_toArray, List.set_cons_zero, List.set_cons_succ, i64_w, i32_w]
               rfl
              refine pure_ (i := 4) (N := some 107) (v := ?_) (a' := ?_) #[true, false, true, true, true, false, false, false, false, false, false, false, false, false] rfl rfl (any_of HT_.out (by kernel_rfl)) (fun _ _ _ h => h) (Or.inl ⟨by rfl, ?_⟩) ?_ ?_
              rotate_left
              ·intro w'
               go_simp
               with_reducible rfl
              rotate_left
              ·simp only [Act.put, List.setIfInBounds_toArray, List.set_cons_zero, List.set_cons_succ, i64_w, i32_w]
               rfl
              refine pure_ (i := 6) (N := some 109) (v := ?_) (a' := ?_) #[true, false, true, true, true, false, true, false, false, false, false, false, false, false] rfl rfl (any_of HT_.out (by kernel_rfl)) (fun _ _ _ h => h) (Or.inl ⟨by rfl, ?_⟩) ?_ ?_
              rotate_left
              ·intro w'
               go_simp
               with_reducible rfl
              rotate_left
              ·simp only [Act.put, List.setIfInBounds_toArray, List.set_cons_zero, List.set_cons_succ, i64_w, i32_w]
               rfl
              refine take_ (i := 1) (N := some 104) (v := ?_) (a' := ?_) #[true, true, true, true, true, false, true, false, false, false, false, false, false, false] rfl rfl (take_ofW HT_.out HW_.out (by kernel_rfl)) (fun _ _ _ h => h) (Or.inl ⟨by rfl, ?_⟩) hHeld ?_ ?_
              rotate_left
              ·rintro w' ⟨s0, s1, s2, s3, s4, s5, s6, s7, s8, s9⟩
               go_simp
               with_reducible rfl
              rotate_left
              ·simp only [Act.put, List.setIfInBounds_toArray, List.set_cons_zero, List.set_cons_succ, i64_w, i32_w]
               rfl
              refine take_ (i := 5) (N := some 108) (v := ?_) (a' := ?_) #[true, true, true, true, true, true, true, false, false, false, false, false, false, false] rfl rfl (take_ofW HT_.out HW_.out (by kernel_rfl)) (fun _ _ _ h => h) (Or.inl ⟨by rfl, ?_⟩) hHeld ?_ ?_
              rotate_left
              ·rintro w' ⟨s0, s1, s2, s3, s4, s5, s6, s7, s8, s9⟩
               go_simp
               with_reducible rfl
              rotate_left
              ·simp only [Act.put, List.setIfInBounds_toArray, List.set_cons_zero, List.set_cons_succ, i64_w, i32_w]
               rfl
              refine take_ (i := 7) (N := some 110) (v := ?_) (a' := ?_) #[true, true, true, true, true, true, true, true, false, false, false, false, false, false] rfl rfl (take_ofW HT_.out HW_.out (by kernel_rfl)) (fun _ _ _ h => h) (Or.inl ⟨by rfl, ?_⟩) hHeld ?_ ?_
              rotate_left
              ·rintro w' ⟨s0, s1, s2, s3, s4, s5, s6, s7, s8, s9⟩
               go_simp
               with_reducible rfl
              rotate_left
              ·simp only [Act.put, List.setIfInBounds_toArray, List.set_cons_zero, List.set_cons_succ, i64_w, i32_w]
               rfl
              refine pure_ (i := 8) (N := some 111) (v := ?_) (a' := ?_) #[true, true, true, true, true, true, true, true, true, false, false, false, false, false] rfl rfl (any_of HT_.out (by kernel_rfl)) (fun _ _ _ h => h) (Or.inl ⟨by rfl, ?_⟩) ?_ ?_
              rotate_left
              ·intro w'
               go_simp
               with_reducible rfl
              rotate_left
              ·simp only [Act.put, List.setIfInBounds_toArray, List.set_cons_zero, List.set_cons_succ, i64_w, i32_w]
               rfl
              refine take_ (i := 9) (N := some 112) (v := ?_) (a' := ?_) #[true, true, true, true, true, true, true, true, true, true, false, false, false, false] rfl rfl (take_ofW HT_.out HW_.out (by kernel_rfl)) (fun _ _ _ h => h) (Or.inl ⟨by rfl, ?_⟩) hHeld ?_ ?_
              rotate_left
              ·rintro w' ⟨s0, s1, s2, s3, s4, s5, s6, s7, s8, s9⟩
               go_simp
               with_reducible rfl
              rotate_left
              ·simp only [Act.put, List.setIfInBounds_toArray, List.set_cons_zero, List.set_cons_succ, i64_w, i32_w]
               rfl
              refine one_ (i := 10) (N := some 113) #[true, true, true, true, true, true, true, true, true, true, true, false, false, false] rfl rfl (one_of HT_.out (by kernel_rfl)) (by decide) (fun K hK => ?_)
              refine value_ (w1 := ?_) (v := ?_) (by rfl) rfl ?_ ?_
              rotate_left 2
              ·go_simp
               constructor
               ·rfl
               ·rfl
              refine hK.out _ _ ⟨(blk_cell (blk_alloc BK152.out _) 0).trans rfl, (blk_cell (blk_alloc BK152.out _) 1).trans rfl, (blk_cell (blk_alloc BK152.out _) 2).trans rfl, (blk_cell (blk_alloc BK152.out _) 3).trans rfl, (blk_cell (blk_alloc BK152.out _) 4).trans rfl, (blk_cell (blk_alloc BK101.out _) 0).trans rfl, (blk_cell (blk_alloc BK101.out _) 1).trans rfl, (blk_cell (blk_alloc BK101.out _) 2).trans rfl, (World.cell?_alloc_lt _ _ _ (World.block_lt_of_cell? _ _ (hHeld.2.2.2.2.2.2.2.2.1))).trans (hHeld.2.2.2.2.2.2.2.2.1), (World.cell?_alloc_lt _ _ _ (World.block_lt_of_cell? _ _ (hHeld.2.2.2.2.2.2.2.2.2))).trans (hHeld.2.2.2.2.2.2.2.2.2)⟩ (fun hHeld => ?_)
              clear hK K
              refine norm_ (a' := ?_) ?_ ?_
              rotate_left
              ·show Act.put _ (some 113) _ = _
               simp only [Act.put, List.setIfInBounds_toArray, List.set_cons_zero, List.set_cons_succ, i64_w, i32_w]
               rfl
              refine last_ (i := 11) (N := some 114) #[true, true, true, true, true, true, true, true, true, true, true, true, false, false] rfl rfl (one_of HT_.out (by kernel_rfl)) (by decide) (fun K hK => ?_)
              refine Kd.R_append_step Kd.bool (w0 := w) w.heap.size (by rfl) (.tmp 104) (.tmp 113) 28 4 (.bool false) 1 rfl Tryd.underlying28 info4 rfl (by decide) (by omega) u153004 x153004_3 (rdOf false (rd_L10 x9_1 x16_3) a0_2) [.bool (rdOf false (rd_L10 x9_1 x16_3) a0_2)] (fun _ => True) (fun _ => False) rfl rfl ?aP (fun _ hk => hk.elim) ?aF ?aO ?aB ?aS ?aL ?_
              (case aP => exact rfl)
              (case aB => exact tat11Build_t25)
              (case aF => exact (fun _ _ => trivial))
              (case aO => exact tat11Build_t26)
              (case aS => exact (below_size tat11Build_t25))
              (case aL => have := LMc87.out; omega)
              intro v156 w89 ho hb hg hat
              rw [← Ny155.out] at ho
              have n0_ := Aside0.mk (Kd.N_afterv (ok := (fun k_ => some k_ ≠ (.slice Ao12 t103.length co12 : Value).ownBlock ∧ some k_ ≠ (.slice Ao78 x10_1.length co78 : Value).ownBlock ∧ k_ ≠ gb101 ∧ k_ ≠ gb102 ∧ k_ ≠ gb152)) (by (with_reducible repeat (first | apply Kd.N_alloc | apply Kd.N_drewN | apply Kd.N_drew)); exact Kd.N_mono HO_9.out (fun _ hk => (by first | exact ⟨⟨hk.1, ⟨hk.2.1, ⟨hk.2.2.2.1, ⟨hk.2.2.2.2.1, hk.2.2.2.2.2⟩⟩⟩⟩, hk.2.2.1⟩ | (simp_all; done) | grind))) hg hat)
              have n1_ := Aside0.mk (Kd.R_over' (by (with_reducible repeat (first | apply Kd.R_alloc | apply Kd.R_drewN | apply Kd.R_drew)); exact HO_153000.out) (Kd.R_typed tat11Build_t26) (by decide) hg)
              have n2_ := Aside0.mk (Kd.R_over' (by (with_reducible repeat (first | apply Kd.R_alloc | apply Kd.R_drewN | apply Kd.R_drew)); exact HO_153003.out) (Kd.R_typed tat11Build_t26) (by decide) hg)
              have n3_ := Aside0.mk (blk_grown (g := gb101) (o := .cells #[.slice A0_0 l0_0.length c0_0, .int .i64 a0_1, .int .i64 a0_2] 24 (0, 0)) tat11Build_t1 hg (Kd.R_ne HO_153004.out BK101.out (by decide)))
              have n4_ := Aside0.mk (blk_grown (g := gb102) (o := .cells #[.slice none 0 0, .int .i64 0, .int .i64 0, .slice none 0 0, .slice none 0 0] 30 (0, 0)) tat11Build_t2 hg (Kd.R_ne HO_153004.out BK102.out (by decide)))
              have n5_ := Aside0.mk (blk_grown (g := gb152) (o := .cells #[.slice Ao12 t103.length co12, .int .i64 t106, .int .i64 0, .slice Ao78 x10_1.length co78, u153004] 30 (0, 0)) (by (with_reducible repeat (first | refine blk_drewN ?_ _ | refine blk_drew ?_ | refine blk_alloc ?_ _)); exact BK152.out) hg (Kd.R_ne HO_153004.out BK152.out (by decide)))
              have n6_ := Aside0.mk (Kd.V_afterv (ok := (fun k_ => some k_ ≠ (.slice (some ad153) x9_1.length co77 : Value).ownBlock ∧ some k_ ≠ (.slice Ao12 t103.length co12 : Value).ownBlock ∧ some k_ ≠ (.slice Ao78 x10_1.length co78 : Value).ownBlock ∧ k_ ≠ gb101 ∧ k_ ≠ gb102 ∧ k_ ≠ gb152)) (by (with_reducible repeat (first | apply Kd.V_alloc | apply Kd.V_drewN | apply Kd.V_drew)); exact Kd.V_mono HL153_0.out (fun _ hk => (by first | exact ⟨⟨hk.2, ⟨hk.1.1, ⟨hk.1.2.1, ⟨hk.1.2.2.2.1, ⟨hk.1.2.2.2.2.1, hk.1.2.2.2.2.2⟩⟩⟩⟩⟩, hk.1.2.2.1⟩ | (simp_all; done) | grind))) hg hat)
              have n7_ := Aside0.mk (hb)
              have n8_ := Aside0.mk (ho)
              clear HO_9
              clear HO_153000
              clear HO_153003
              clear BK101
              clear BK102
              clear BK152
              clear HL153_0
              clear HB
              clear HO_153004
              have HO_9 := n0_
              have HO_153000 := n1_
              have HO_153003 := n2_
              have BK101 := n3_
              have BK102 := n4_
              have BK152 := n5_
              have HL153_0 := n6_
              have HB := n7_
              have HO157 := n8_
              clear n0_ n1_ n2_ n3_ n4_ n5_ n6_ n7_ n8_
              clear ho hb hg hat
              obtain ⟨Ao90, co90, eo90⟩ := Kd.R_slice HO157.out
              (first | subst eo90 | (injection eo90 with f1_ f2_ f3_; have f4_ := f1_.symm; have f5_ := f3_.symm; clear f1_ f2_ f3_; subst f4_; subst f5_))
              refine hK.out _ _ ?_
              clear hK K
              refine norm_ (a' := ?_) ?_ ?_
              rotate_left
              ·show Act.put _ (some 114) _ = _
               simp only [Act.put, List.setIfInBounds_toArray, List.set_cons_zero, List.set_cons_succ, i64_w, i32_w]
               rfl
              refine pure_ (i := 12) (N := some 115) (v := ?_) (a' := ?_) #[true, true, true, true, true, true, true, true, true, true, true, true, true, false] rfl rfl (any_of HT_.out (by kernel_rfl)) (fun _ _ _ h => h) (Or.inl ⟨by rfl, ?_⟩) ?_ ?_
              rotate_left
              ·intro w'
               go_simp
               with_reducible rfl
              rotate_left
              ·simp only [Act.put, List.setIfInBounds_toArray, List.set_cons_zero, List.set_cons_succ, i64_w, i32_w]
               rfl
              refine last_ (i := 13) (N := none) #[true, true, true, true, true, true, true, true, true, true, true, true, true, true] rfl rfl (one_of HT_.out (by kernel_rfl)) (by decide) (fun K hK => ?_)
              have hs91 : w89.cell? ⟨gb152, 4, none⟩ = some (u153004) := (blk_cell BK152.out 4).trans rfl
              have hfs91 := blk_frozen BK152.out 4
              have hns91_0 := NB101_152.out
              have hns91_1 := NB102_152.out
              have hms91_0 := NB152_101.out
              have hms91_1 := NB152_102.out
              refine skip_ (w1 := ?_) (by rfl) rfl ?_ ?_
              rotate_left
              ·go_simp
               rfl
              refine hK.out _ _ ?_
              clear hK K
              refine done_ (done_of HT_.out (by kernel_rfl)) ?_
              try go_wp2
              go_roundg k3
              case measure => have := HK1.out; have := HJ23.out; have := HK3.out; omega
              case rel => exact ⟨(wrap64 (x16_3 + 1)), (y155), (.slice Ao90 y155.length co90), tat11Build_t13, H', ⟨by have := HK1.out; have := HJ23.out; have := HK3.out; omega⟩, ⟨by (with_reducible repeat (first | apply Kd.N_alloc | apply Kd.N_drewN | apply Kd.N_drew)); exact Kd.N_mono (Kd.N_far (p := ⟨gb152, 4, none⟩) (Kd.N_mono HO_9.out (fun k_ hk => (⟨hk, hk.1.2.2.2.2⟩ : _ ∧ k_ ≠ gb152))) (fun _ hk => hk.2) (.slice Ao90 y155.length co90)) (fun _ hk => (by first | exact ⟨hk.1.1.1, ⟨hk.1.1.2.1, ⟨hk.1.2, ⟨hk.1.1.2.2.1, ⟨hk.1.1.2.2.2.1, hk.1.1.2.2.2.2⟩⟩⟩⟩⟩ | (simp_all; done) | grind))⟩, ⟨by (with_reducible repeat (first | apply Kd.R_alloc | apply Kd.R_drewN | apply Kd.R_drew)); exact Kd.R_mono (Kd.R_far (p := ⟨gb152, 4, none⟩) (Kd.R_types HO_153000.out BK152.out (by decide)) (fun _ hk => hk.2) (.slice Ao90 y155.length co90)) (fun _ hk => hk.1)⟩, ⟨by (with_reducible repeat (first | apply Kd.R_alloc | apply Kd.R_drewN | apply Kd.R_drew)); exact Kd.R_mono (Kd.R_far (p := ⟨gb152, 4, none⟩) (Kd.R_types HO_153003.out BK152.out (by decide)) (fun _ hk => hk.2) (.slice Ao90 y155.length co90)) (fun _ hk => hk.1)⟩, ⟨by (with_reducible repeat (first | apply Kd.R_alloc | apply Kd.R_drewN | apply Kd.R_drew)); exact Kd.R_mono (Kd.R_far (p := ⟨gb152, 4, none⟩) (Kd.R_types HO157.out BK152.out (by decide)) (fun _ hk => hk.2) (.slice Ao90 y155.length co90)) (fun _ hk => trivial)⟩, ⟨by (with_reducible repeat (first | refine blk_drewN ?_ _ | refine blk_drew ?_ | refine blk_alloc ?_ _)); refine blk_far ?_ NB101_152.out _; (with_reducible repeat (first | refine blk_drewN ?_ _ | refine blk_drew ?_ | refine blk_alloc ?_ _)); exact BK101.out⟩, ⟨by (with_reducible repeat (first | refine blk_drewN ?_ _ | refine blk_drew ?_ | refine blk_alloc ?_ _)); refine blk_far ?_ NB102_152.out _; (with_reducible repeat (first | refine blk_drewN ?_ _ | refine blk_drew ?_ | refine blk_alloc ?_ _)); exact BK102.out⟩, ⟨by (with_reducible repeat (first | refine blk_drewN ?_ _ | refine blk_drew ?_ | refine blk_alloc ?_ _)); refine blk_put (cs := #[.slice Ao12 t103.length co12, .int .i64 t106, .int .i64 0, .slice Ao78 x10_1.length co78, u153004]) ?_ 4 _ rfl; (with_reducible repeat (first | refine blk_drewN ?_ _ | refine blk_drew ?_ | refine blk_alloc ?_ _)); exact BK152.out⟩, ⟨by repeat (first | (with_reducible first | exact HB.out | apply below_alloc | apply pw_below_drewN | apply below_drew1 | refine below_set ?_ GE101.out | refine below_set ?_ GE102.out | refine below_set ?_ GE152.out) | exact HB.out)⟩⟩
             ·rw [if_neg c87] at H
              exact absurd H (by simp)
            ·rw [if_neg c86] at H
             exact absurd H (by simp)
           ·rw [if_neg c85] at H
            exact absurd H (by simp)
          ·rw [if_neg c84] at H
           exact absurd H (by simp)
         ·rw [if_neg c83] at H
          have c83b0 : decide (x16_3 < (x9_1.length : Int)) = false := decide_eq_false c83
          clear c83
          simp only [Option.some.injEq, Prod.mk.injEq] at H
          obtain ⟨rfl, rfl, rfl, rfl, rfl, rfl⟩ := H
          have hnb92 := NB152_101.out
          have hnc92 := NB101_152.out
          have hnb93 := NB152_102.out
          have hnc93 := NB102_152.out
          have hcz94_0 : wr.cell? ⟨gb152, 0, none⟩ = some (.slice Ao12 t103.length co12) := (blk_cell BK152.out 0).trans rfl
          have hcz94_1 : wr.cell? ⟨gb152, 1, none⟩ = some (.int .i64 t106) := (blk_cell BK152.out 1).trans rfl
          have hcz94_2 : wr.cell? ⟨gb152, 2, none⟩ = some (.int .i64 0) := (blk_cell BK152.out 2).trans rfl
          have hcz94_3 : wr.cell? ⟨gb152, 3, none⟩ = some (.slice Ao78 x10_1.length co78) := (blk_cell BK152.out 3).trans rfl
          have hcz94_4 : wr.cell? ⟨gb152, 4, none⟩ = some (u153004) := (blk_cell BK152.out 4).trans rfl
          have hfz94_0 := blk_frozen BK152.out 0
          have hfz94_1 := blk_frozen BK152.out 1
          have hfz94_2 := blk_frozen BK152.out 2
          have hfz94_3 := blk_frozen BK152.out 3
          have hfz94_4 := blk_frozen BK152.out 4
          have hnb95 := NB102_101.out
          have hnc95 := NB101_102.out
          have hcz96_0 : wr.cell? ⟨gb102, 0, none⟩ = some (.slice none 0 0) := (blk_cell BK102.out 0).trans rfl
          have hcz96_1 : wr.cell? ⟨gb102, 1, none⟩ = some (.int .i64 0) := (blk_cell BK102.out 1).trans rfl
          have hcz96_2 : wr.cell? ⟨gb102, 2, none⟩ = some (.int .i64 0) := (blk_cell BK102.out 2).trans rfl
          have hcz96_3 : wr.cell? ⟨gb102, 3, none⟩ = some (.slice none 0 0) := (blk_cell BK102.out 3).trans rfl
          have hcz96_4 : wr.cell? ⟨gb102, 4, none⟩ = some (.slice none 0 0) := (blk_cell BK102.out 4).trans rfl
          have hfz96_0 := blk_frozen BK102.out 0
          have hfz96_1 := blk_frozen BK102.out 1
          have hfz96_2 := blk_frozen BK102.out 2
          have hfz96_3 := blk_frozen BK102.out 3
          have hfz96_4 := blk_frozen BK102.out 4
          obtain ⟨Ao97, co97, eo97⟩ := Kd.R_slice HO_153004.out
          subst eo97
          go_wp2
          refine bodyPost_ret (results_ct rfl _ _ gb102 30 #[.slice Ao12 t103.length co12, .int .i64 t106, .int .i64 0, .slice Ao78 x10_1.length co78, .slice Ao97 x153004_3.length co97] (0, 0) _ rfl (by (with_reducible repeat (first | refine blk_drewN ?_ _ | refine blk_drew ?_ | refine blk_alloc ?_ _)); refine blk_put (cs := #[.slice Ao12 t103.length co12, .int .i64 t106, .int .i64 0, .slice Ao78 x10_1.length co78, .slice none 0 0]) ?_ 4 _ rfl; (with_reducible repeat (first | refine blk_drewN ?_ _ | refine blk_drew ?_ | refine blk_alloc ?_ _)); refine blk_put (cs := #[.slice Ao12 t103.length co12, .int .i64 t106, .int .i64 0, .slice none 0 0, .slice none 0 0]) ?_ 3 _ rfl; (with_reducible repeat (first | refine blk_drewN ?_ _ | refine blk_drew ?_ | refine blk_alloc ?_ _)); refine blk_put (cs := #[.slice Ao12 t103.length co12, .int .i64 t106, .int .i64 0, .slice none 0 0, .slice none 0 0]) ?_ 2 _ rfl; (with_reducible repeat (first | refine blk_drewN ?_ _ | refine blk_drew ?_ | refine blk_alloc ?_ _)); refine blk_put (cs := #[.slice Ao12 t103.length co12, .int .i64 0, .int .i64 0, .slice none 0 0, .slice none 0 0]) ?_ 1 _ rfl; (with_reducible repeat (first | refine blk_drewN ?_ _ | refine blk_drew ?_ | refine blk_alloc ?_ _)); refine blk_put (cs := #[.slice none 0 0, .int .i64 0, .int .i64 0, .slice none 0 0, .slice none 0 0]) ?_ 0 _ rfl; (with_reducible repeat (first | refine blk_drewN ?_ _ | refine blk_drew ?_ | refine blk_alloc ?_ _)); exact BK102.out) Tryd.underlying30 rfl (by kernel_rfl)) rfl ?_
          exact ⟨_, _, _, by first | rfl | (simp [errW_none, errW_some] <;> rfl) | (simp [*, errW_none, errW_some] <;> rfl), by (with_reducible repeat (first | apply Kd.R_alloc | apply Kd.R_drewN | apply Kd.R_drew)); exact Kd.R_mono (Kd.R_far (p := ⟨gb102, 4, none⟩) (Kd.R_far (p := ⟨gb102, 3, none⟩) (Kd.R_far (p := ⟨gb102, 2, none⟩) (Kd.R_far (p := ⟨gb102, 1, none⟩) (Kd.R_far (p := ⟨gb102, 0, none⟩) (Kd.R_types HO_153000.out BK102.out (by decide)) (fun _ hk => hk.2) (.slice Ao12 t103.length co12)) (fun _ hk => hk.2) (.int .i64 t106)) (fun _ hk => hk.2) (.int .i64 0)) (fun _ hk => hk.2) (.slice Ao78 x10_1.length co78)) (fun _ hk => hk.2) (.slice Ao97 x153004_3.length co97)) (fun _ hk => hk.1), by (with_reducible repeat (first | apply Kd.R_alloc | apply Kd.R_drewN | apply Kd.R_drew)); exact Kd.R_mono (Kd.R_far (p := ⟨gb102, 4, none⟩) (Kd.R_far (p := ⟨gb102, 3, none⟩) (Kd.R_far (p := ⟨gb102, 2, none⟩) (Kd.R_far (p := ⟨gb102, 1, none⟩) (Kd.R_far (p := ⟨gb102, 0, none⟩) (Kd.R_types HO_153003.out BK102.out (by decide)) (fun _ hk => hk.2) (.slice Ao12 t103.length co12)) (fun _ hk => hk.2) (.int .i64 t106)) (fun _ hk => hk.2) (.int .i64 0)) (fun _ hk => hk.2) (.slice Ao78 x10_1.length co78)) (fun _ hk => hk.2) (.slice Ao97 x153004_3.length co97)) (fun _ hk => hk.1), by (with_reducible repeat (first | apply Kd.R_alloc | apply Kd.R_drewN | apply Kd.R_drew)); exact Kd.R_mono (Kd.R_far (p := ⟨gb102, 4, none⟩) (Kd.R_far (p := ⟨gb102, 3, none⟩) (Kd.R_far (p := ⟨gb102, 2, none⟩) (Kd.R_far (p := ⟨gb102, 1, none⟩) (Kd.R_far (p := ⟨gb102, 0, none⟩) (Kd.R_types HO_153004.out BK102.out (by decide)) (fun _ hk => hk.2) (.slice Ao12 t103.length co12)) (fun _ hk => hk.2) (.int .i64 t106)) (fun _ hk => hk.2) (.int .i64 0)) (fun _ hk => hk.2) (.slice Ao78 x10_1.length co78)) (fun _ hk => hk.2) (.slice Ao97 x153004_3.length co97)) (fun _ hk => trivial), by repeat (first | (with_reducible first | exact HB.out | apply below_alloc | apply pw_below_drewN | apply below_drew1 | refine below_set ?_ GE101.out | refine below_set ?_ GE102.out | refine below_set ?_ GE152.out) | exact HB.out)⟩
end Go.Proofs.YtfjemaeidmikmaaDoorQ
