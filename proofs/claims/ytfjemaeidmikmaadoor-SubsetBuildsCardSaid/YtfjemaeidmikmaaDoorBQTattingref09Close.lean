import Derived.Test.YtfjemaeidmikmaaDoorBQ0
import Derived.Test.YtfjemaeidmikmaaDoorBM3
namespace Go.Proofs.YtfjemaeidmikmaaDoorQ
open Go.RowKit Go.Proofs.YtfjemaeidmikmaaDoorW.PrintWords Go.Proofs.YtfjemaeidmikmaaDoorW.PrintLast Go.Proofs.YtfjemaeidmikmaaDoorW.PrintMore
attribute [local go_sem] max2_int min2_int max_two min_two max_three min_three max_four min_four
set_option linter.unusedVariables false
set_option linter.unusedSimpArgs false
mutual
def tattingref09_Close.l0 : Nat → Int → List Bool → Int → List (S64) → Int → Int → Option (List Bool)
 | 0, _, _, _, _, _, _ => none
 | k + 1, x2, x7, x8, x102000, x102001, x102002 => if x8 < (x102000.length : Int) then (tattingref09_Close.l1 k x2 x7 x8 0 x102000 x102001 x102002) else (some x7)
def tattingref09_Close.l1 : Nat → Int → List Bool → Int → Int → List (S64) → Int → Int → Option (List Bool)
 | 0, _, _, _, _, _, _, _ => none
 | k + 1, x2, x7, x8, x9, x102000, x102001, x102002 => if x9 < (x102000.length : Int) then (if 0 ≤ x9 then (if x9 < (x7.length : Int) then (if rdOf false x7 x9 = true then (if ((rd_T64 x102000 x9).f0) = 2 then (tattingref09_Close.j2 k x2 x7 x8 x9 true x102000 x102001 x102002 ((rd_T64 x102000 x9).f0) ((rd_T64 x102000 x9).f1) ((rd_T64 x102000 x9).f2) ((rd_T64 x102000 x9).f3.f0) ((rd_T64 x102000 x9).f3.f1) ((rd_T64 x102000 x9).f3.f2) ((rd_T64 x102000 x9).f3.f3)) else (if ((rd_T64 x102000 x9).f0) = 3 then (tattingref09_Close.j2 k x2 x7 x8 x9 true x102000 x102001 x102002 ((rd_T64 x102000 x9).f0) ((rd_T64 x102000 x9).f1) ((rd_T64 x102000 x9).f2) ((rd_T64 x102000 x9).f3.f0) ((rd_T64 x102000 x9).f3.f1) ((rd_T64 x102000 x9).f3.f2) ((rd_T64 x102000 x9).f3.f3)) else (if ((rd_T64 x102000 x9).f0) = 4 then (if x2 = 256 then (tattingref09_Close.j2 k x2 x7 x8 x9 true x102000 x102001 x102002 ((rd_T64 x102000 x9).f0) ((rd_T64 x102000 x9).f1) ((rd_T64 x102000 x9).f2) ((rd_T64 x102000 x9).f3.f0) ((rd_T64 x102000 x9).f3.f1) ((rd_T64 x102000 x9).f3.f2) ((rd_T64 x102000 x9).f3.f3)) else (if x2 = 258 then (tattingref09_Close.j2 k x2 x7 x8 x9 true x102000 x102001 x102002 ((rd_T64 x102000 x9).f0) ((rd_T64 x102000 x9).f1) ((rd_T64 x102000 x9).f2) ((rd_T64 x102000 x9).f3.f0) ((rd_T64 x102000 x9).f3.f1) ((rd_T64 x102000 x9).f3.f2) ((rd_T64 x102000 x9).f3.f3)) else (if ((rd_T64 x102000 x9).f0) = 5 then (if x2 = 257 then (tattingref09_Close.j2 k x2 x7 x8 x9 true x102000 x102001 x102002 ((rd_T64 x102000 x9).f0) ((rd_T64 x102000 x9).f1) ((rd_T64 x102000 x9).f2) ((rd_T64 x102000 x9).f3.f0) ((rd_T64 x102000 x9).f3.f1) ((rd_T64 x102000 x9).f3.f2) ((rd_T64 x102000 x9).f3.f3)) else (tattingref09_Close.j2 k x2 x7 x8 x9 (x2 == 258) x102000 x102001 x102002 ((rd_T64 x102000 x9).f0) ((rd_T64 x102000 x9).f1) ((rd_T64 x102000 x9).f2) ((rd_T64 x102000 x9).f3.f0) ((rd_T64 x102000 x9).f3.f1) ((rd_T64 x102000 x9).f3.f2) ((rd_T64 x102000 x9).f3.f3))) else (tattingref09_Close.j2 k x2 x7 x8 x9 false x102000 x102001 x102002 ((rd_T64 x102000 x9).f0) ((rd_T64 x102000 x9).f1) ((rd_T64 x102000 x9).f2) ((rd_T64 x102000 x9).f3.f0) ((rd_T64 x102000 x9).f3.f1) ((rd_T64 x102000 x9).f3.f2) ((rd_T64 x102000 x9).f3.f3))))) else (if ((rd_T64 x102000 x9).f0) = 5 then (if x2 = 257 then (tattingref09_Close.j2 k x2 x7 x8 x9 true x102000 x102001 x102002 ((rd_T64 x102000 x9).f0) ((rd_T64 x102000 x9).f1) ((rd_T64 x102000 x9).f2) ((rd_T64 x102000 x9).f3.f0) ((rd_T64 x102000 x9).f3.f1) ((rd_T64 x102000 x9).f3.f2) ((rd_T64 x102000 x9).f3.f3)) else (tattingref09_Close.j2 k x2 x7 x8 x9 (x2 == 258) x102000 x102001 x102002 ((rd_T64 x102000 x9).f0) ((rd_T64 x102000 x9).f1) ((rd_T64 x102000 x9).f2) ((rd_T64 x102000 x9).f3.f0) ((rd_T64 x102000 x9).f3.f1) ((rd_T64 x102000 x9).f3.f2) ((rd_T64 x102000 x9).f3.f3))) else (tattingref09_Close.j2 k x2 x7 x8 x9 false x102000 x102001 x102002 ((rd_T64 x102000 x9).f0) ((rd_T64 x102000 x9).f1) ((rd_T64 x102000 x9).f2) ((rd_T64 x102000 x9).f3.f0) ((rd_T64 x102000 x9).f3.f1) ((rd_T64 x102000 x9).f3.f2) ((rd_T64 x102000 x9).f3.f3)))))) else (tattingref09_Close.l1 k x2 x7 x8 (wrap64 (x9 + 1)) x102000 x102001 x102002)) else (none)) else (none)) else (tattingref09_Close.l0 k x2 x7 (wrap64 (x8 + 1)) x102000 x102001 x102002)
def tattingref09_Close.j2 : Nat → Int → List Bool → Int → Int → Bool → List (S64) → Int → Int → Int → Int → Int → Int → Int → Int → Int → Option (List Bool)
 | 0, _, _, _, _, _, _, _, _, _, _, _, _, _, _, _ => none
 | k + 1, x2, x7, x8, x9, x71, x102000, x102001, x102002, x110000, x110001, x110002, x110003, x110004, x110005, x110006 => if x71 = true then (if 0 ≤ x110001 then (if x110001 < (x7.length : Int) then ((some (x7.set (x110001 : Int).toNat true : List Bool)).bind fun y111 => (if x110000 = 3 then (if 0 ≤ x110002 then (if x110002 < (x7.length : Int) then (tattingref09_Close.l1 k x2 (y111.set (x110002 : Int).toNat true) x8 (wrap64 (x9 + 1)) x102000 x102001 x102002) else (none)) else (none)) else (tattingref09_Close.l1 k x2 y111 x8 (wrap64 (x9 + 1)) x102000 x102001 x102002))) else (none)) else (none)) else (if x110000 = 3 then (if 0 ≤ x110002 then (if x110002 < (x7.length : Int) then (tattingref09_Close.l1 k x2 (x7.set (x110002 : Int).toNat true) x8 (wrap64 (x9 + 1)) x102000 x102001 x102002) else (none)) else (none)) else (tattingref09_Close.l1 k x2 x7 x8 (wrap64 (x9 + 1)) x102000 x102001 x102002))
end
def tattingref09_Close.f (k : Nat) (l0_0 : List (S64)) (a0_1 : Int) (a0_2 : Int) (l1 : List Bool) (a2 : Int) : Option (List Bool) := (some (([] : List Bool) : List Bool)).bind fun y102 => (if y102.length + l1.length < 140737488355328 then (tattingref09_Close.l0 k a2 (y102 ++ l1) 0 l0_0 a0_1 a0_2) else (none))
theorem tat09Close_t5 {P : Prop} (h : P := by repeat (first | (with_reducible first | exact HB.out | apply below_alloc | apply pw_below_drewN | apply below_drew1) | exact HB.out)) : P := h
theorem tat09Close_t4 {P : Prop} (h : P := by (with_reducible repeat (first | refine blk_drewN ?_ _ | refine blk_drew ?_ | refine blk_alloc ?_ _)); exact BK109.out) : P := h
theorem tat09Close_t3 {P : Prop} (h : P := by first | rfl | (simp; done) | (simp [*]; done)) : P := h
theorem tat09Close_t2 {P : Prop} (h : P := by first | (with_reducible assumption) | assumption) : P := h
theorem tat09Close_t1 {P : Prop} (h : P := by (with_reducible repeat (first | refine blk_drewN ?_ _ | refine blk_drew ?_ | refine blk_alloc ?_ _)); exact BK101.out) : P := h
theorem tat09Close_t0 {P : Prop} (h : P := by repeat (first | (with_reducible first | exact HB.out | apply below_alloc | apply pw_below_drewN | apply below_drew1 | refine below_set ?_ GE101.out) | exact HB.out)) : P := h
theorem tattingref09_Close_w0 {P : Prop} (h : P := by
 have hczz0 : w18.cell? ⟨gb109, 0, none⟩ = some (.int .i64 0) := (blk_cell BK109.out 0).trans rfl
 have hczz1 : w18.cell? ⟨gb109, 1, none⟩ = some (.int .i64 0) := (blk_cell BK109.out 1).trans rfl
 have hczz2 : w18.cell? ⟨gb109, 2, none⟩ = some (.int .i64 0) := (blk_cell BK109.out 2).trans rfl
 have hczz3 : w18.cell? ⟨gb109, 3, none⟩ = some (.int .u64 0) := (blk_cell BK109.out 3).trans rfl
 have hczz4 : w18.cell? ⟨gb109, 4, none⟩ = some (.int .u64 0) := (blk_cell BK109.out 4).trans rfl
 have hczz5 : w18.cell? ⟨gb109, 5, none⟩ = some (.int .u64 0) := (blk_cell BK109.out 5).trans rfl
 have hczz6 : w18.cell? ⟨gb109, 6, none⟩ = some (.int .u64 0) := (blk_cell BK109.out 6).trans rfl
 have hfzz7 := blk_frozen BK109.out 0
 have hfzz8 := blk_frozen BK109.out 1
 have hfzz9 := blk_frozen BK109.out 2
 have hfzz10 := blk_frozen BK109.out 3
 have hfzz11 := blk_frozen BK109.out 4
 have hfzz12 := blk_frozen BK109.out 5
 have hfzz13 := blk_frozen BK109.out 6
 go_wp2
 go_meet
 case rel => exact ⟨_, (true), tat09Close_t3, H', ⟨by have := HK1.out; have := HK2.out; first | omega | exact Nat.le_refl _⟩, ⟨by (with_reducible repeat (first | apply Kd.R_alloc | apply Kd.R_drewN | apply Kd.R_drew)); exact Kd.R_mono (Kd.R_far (p := ⟨gb109, 6, none⟩) (Kd.R_far (p := ⟨gb109, 5, none⟩) (Kd.R_far (p := ⟨gb109, 4, none⟩) (Kd.R_far (p := ⟨gb109, 3, none⟩) (Kd.R_far (p := ⟨gb109, 2, none⟩) (Kd.R_far (p := ⟨gb109, 1, none⟩) (Kd.R_far (p := ⟨gb109, 0, none⟩) (Kd.R_types HO_7.out BK109.out (by decide)) (fun _ hk => hk.2) (.int .i64 ((rd_T64 l0_0 x9_2).f0))) (fun _ hk => hk.2) (.int .i64 ((rd_T64 l0_0 x9_2).f1))) (fun _ hk => hk.2) (.int .i64 ((rd_T64 l0_0 x9_2).f2))) (fun _ hk => hk.2) (.int .u64 ((rd_T64 l0_0 x9_2).f3.f0))) (fun _ hk => hk.2) (.int .u64 ((rd_T64 l0_0 x9_2).f3.f1))) (fun _ hk => hk.2) (.int .u64 ((rd_T64 l0_0 x9_2).f3.f2))) (fun _ hk => hk.2) (.int .u64 ((rd_T64 l0_0 x9_2).f3.f3))) (fun _ hk => trivial)⟩, ⟨by (with_reducible repeat (first | refine blk_drewN ?_ _ | refine blk_drew ?_ | refine blk_alloc ?_ _)); refine blk_far ?_ NB101_109.out _; (with_reducible repeat (first | refine blk_drewN ?_ _ | refine blk_drew ?_ | refine blk_alloc ?_ _)); refine blk_far ?_ NB101_109.out _; (with_reducible repeat (first | refine blk_drewN ?_ _ | refine blk_drew ?_ | refine blk_alloc ?_ _)); refine blk_far ?_ NB101_109.out _; (with_reducible repeat (first | refine blk_drewN ?_ _ | refine blk_drew ?_ | refine blk_alloc ?_ _)); refine blk_far ?_ NB101_109.out _; (with_reducible repeat (first | refine blk_drewN ?_ _ | refine blk_drew ?_ | refine blk_alloc ?_ _)); refine blk_far ?_ NB101_109.out _; (with_reducible repeat (first | refine blk_drewN ?_ _ | refine blk_drew ?_ | refine blk_alloc ?_ _)); refine blk_far ?_ NB101_109.out _; (with_reducible repeat (first | refine blk_drewN ?_ _ | refine blk_drew ?_ | refine blk_alloc ?_ _)); refine blk_far ?_ NB101_109.out _; (with_reducible repeat (first | refine blk_drewN ?_ _ | refine blk_drew ?_ | refine blk_alloc ?_ _)); exact BK101.out⟩, ⟨by (with_reducible repeat (first | refine blk_drewN ?_ _ | refine blk_drew ?_ | refine blk_alloc ?_ _)); refine blk_put (cs := #[.int .i64 ((rd_T64 l0_0 x9_2).f0), .int .i64 ((rd_T64 l0_0 x9_2).f1), .int .i64 ((rd_T64 l0_0 x9_2).f2), .int .u64 ((rd_T64 l0_0 x9_2).f3.f0), .int .u64 ((rd_T64 l0_0 x9_2).f3.f1), .int .u64 ((rd_T64 l0_0 x9_2).f3.f2), .int .u64 0]) ?_ 6 _ rfl; (with_reducible repeat (first | refine blk_drewN ?_ _ | refine blk_drew ?_ | refine blk_alloc ?_ _)); refine blk_put (cs := #[.int .i64 ((rd_T64 l0_0 x9_2).f0), .int .i64 ((rd_T64 l0_0 x9_2).f1), .int .i64 ((rd_T64 l0_0 x9_2).f2), .int .u64 ((rd_T64 l0_0 x9_2).f3.f0), .int .u64 ((rd_T64 l0_0 x9_2).f3.f1), .int .u64 0, .int .u64 0]) ?_ 5 _ rfl; (with_reducible repeat (first | refine blk_drewN ?_ _ | refine blk_drew ?_ | refine blk_alloc ?_ _)); refine blk_put (cs := #[.int .i64 ((rd_T64 l0_0 x9_2).f0), .int .i64 ((rd_T64 l0_0 x9_2).f1), .int .i64 ((rd_T64 l0_0 x9_2).f2), .int .u64 ((rd_T64 l0_0 x9_2).f3.f0), .int .u64 0, .int .u64 0, .int .u64 0]) ?_ 4 _ rfl; (with_reducible repeat (first | refine blk_drewN ?_ _ | refine blk_drew ?_ | refine blk_alloc ?_ _)); refine blk_put (cs := #[.int .i64 ((rd_T64 l0_0 x9_2).f0), .int .i64 ((rd_T64 l0_0 x9_2).f1), .int .i64 ((rd_T64 l0_0 x9_2).f2), .int .u64 0, .int .u64 0, .int .u64 0, .int .u64 0]) ?_ 3 _ rfl; (with_reducible repeat (first | refine blk_drewN ?_ _ | refine blk_drew ?_ | refine blk_alloc ?_ _)); refine blk_put (cs := #[.int .i64 ((rd_T64 l0_0 x9_2).f0), .int .i64 ((rd_T64 l0_0 x9_2).f1), .int .i64 0, .int .u64 0, .int .u64 0, .int .u64 0, .int .u64 0]) ?_ 2 _ rfl; (with_reducible repeat (first | refine blk_drewN ?_ _ | refine blk_drew ?_ | refine blk_alloc ?_ _)); refine blk_put (cs := #[.int .i64 ((rd_T64 l0_0 x9_2).f0), .int .i64 0, .int .i64 0, .int .u64 0, .int .u64 0, .int .u64 0, .int .u64 0]) ?_ 1 _ rfl; (with_reducible repeat (first | refine blk_drewN ?_ _ | refine blk_drew ?_ | refine blk_alloc ?_ _)); refine blk_put (cs := #[.int .i64 0, .int .i64 0, .int .i64 0, .int .u64 0, .int .u64 0, .int .u64 0, .int .u64 0]) ?_ 0 _ rfl; (with_reducible repeat (first | refine blk_drewN ?_ _ | refine blk_drew ?_ | refine blk_alloc ?_ _)); exact BK109.out⟩, ⟨by repeat (first | (with_reducible first | exact HB.out | apply below_alloc | apply pw_below_drewN | apply below_drew1 | refine below_set ?_ GE101.out | refine below_set ?_ GE109.out) | exact HB.out)⟩⟩) : P := h
theorem tattingref09_Close_w1 {P : Prop} (h : P := by
 have hczz0 : w18.cell? ⟨gb109, 0, none⟩ = some (.int .i64 0) := (blk_cell BK109.out 0).trans rfl
 have hczz1 : w18.cell? ⟨gb109, 1, none⟩ = some (.int .i64 0) := (blk_cell BK109.out 1).trans rfl
 have hczz2 : w18.cell? ⟨gb109, 2, none⟩ = some (.int .i64 0) := (blk_cell BK109.out 2).trans rfl
 have hczz3 : w18.cell? ⟨gb109, 3, none⟩ = some (.int .u64 0) := (blk_cell BK109.out 3).trans rfl
 have hczz4 : w18.cell? ⟨gb109, 4, none⟩ = some (.int .u64 0) := (blk_cell BK109.out 4).trans rfl
 have hczz5 : w18.cell? ⟨gb109, 5, none⟩ = some (.int .u64 0) := (blk_cell BK109.out 5).trans rfl
 have hczz6 : w18.cell? ⟨gb109, 6, none⟩ = some (.int .u64 0) := (blk_cell BK109.out 6).trans rfl
 have hfzz7 := blk_frozen BK109.out 0
 have hfzz8 := blk_frozen BK109.out 1
 have hfzz9 := blk_frozen BK109.out 2
 have hfzz10 := blk_frozen BK109.out 3
 have hfzz11 := blk_frozen BK109.out 4
 have hfzz12 := blk_frozen BK109.out 5
 have hfzz13 := blk_frozen BK109.out 6
 go_wp2
 go_meet
 case rel => exact ⟨_, ((a2 == 258)), tat09Close_t3, H', ⟨by have := HK1.out; have := HK2.out; first | omega | exact Nat.le_refl _⟩, ⟨by (with_reducible repeat (first | apply Kd.R_alloc | apply Kd.R_drewN | apply Kd.R_drew)); exact Kd.R_mono (Kd.R_far (p := ⟨gb109, 6, none⟩) (Kd.R_far (p := ⟨gb109, 5, none⟩) (Kd.R_far (p := ⟨gb109, 4, none⟩) (Kd.R_far (p := ⟨gb109, 3, none⟩) (Kd.R_far (p := ⟨gb109, 2, none⟩) (Kd.R_far (p := ⟨gb109, 1, none⟩) (Kd.R_far (p := ⟨gb109, 0, none⟩) (Kd.R_types HO_7.out BK109.out (by decide)) (fun _ hk => hk.2) (.int .i64 ((rd_T64 l0_0 x9_2).f0))) (fun _ hk => hk.2) (.int .i64 ((rd_T64 l0_0 x9_2).f1))) (fun _ hk => hk.2) (.int .i64 ((rd_T64 l0_0 x9_2).f2))) (fun _ hk => hk.2) (.int .u64 ((rd_T64 l0_0 x9_2).f3.f0))) (fun _ hk => hk.2) (.int .u64 ((rd_T64 l0_0 x9_2).f3.f1))) (fun _ hk => hk.2) (.int .u64 ((rd_T64 l0_0 x9_2).f3.f2))) (fun _ hk => hk.2) (.int .u64 ((rd_T64 l0_0 x9_2).f3.f3))) (fun _ hk => trivial)⟩, ⟨by (with_reducible repeat (first | refine blk_drewN ?_ _ | refine blk_drew ?_ | refine blk_alloc ?_ _)); refine blk_far ?_ NB101_109.out _; (with_reducible repeat (first | refine blk_drewN ?_ _ | refine blk_drew ?_ | refine blk_alloc ?_ _)); refine blk_far ?_ NB101_109.out _; (with_reducible repeat (first | refine blk_drewN ?_ _ | refine blk_drew ?_ | refine blk_alloc ?_ _)); refine blk_far ?_ NB101_109.out _; (with_reducible repeat (first | refine blk_drewN ?_ _ | refine blk_drew ?_ | refine blk_alloc ?_ _)); refine blk_far ?_ NB101_109.out _; (with_reducible repeat (first | refine blk_drewN ?_ _ | refine blk_drew ?_ | refine blk_alloc ?_ _)); refine blk_far ?_ NB101_109.out _; (with_reducible repeat (first | refine blk_drewN ?_ _ | refine blk_drew ?_ | refine blk_alloc ?_ _)); refine blk_far ?_ NB101_109.out _; (with_reducible repeat (first | refine blk_drewN ?_ _ | refine blk_drew ?_ | refine blk_alloc ?_ _)); refine blk_far ?_ NB101_109.out _; (with_reducible repeat (first | refine blk_drewN ?_ _ | refine blk_drew ?_ | refine blk_alloc ?_ _)); exact BK101.out⟩, ⟨by (with_reducible repeat (first | refine blk_drewN ?_ _ | refine blk_drew ?_ | refine blk_alloc ?_ _)); refine blk_put (cs := #[.int .i64 ((rd_T64 l0_0 x9_2).f0), .int .i64 ((rd_T64 l0_0 x9_2).f1), .int .i64 ((rd_T64 l0_0 x9_2).f2), .int .u64 ((rd_T64 l0_0 x9_2).f3.f0), .int .u64 ((rd_T64 l0_0 x9_2).f3.f1), .int .u64 ((rd_T64 l0_0 x9_2).f3.f2), .int .u64 0]) ?_ 6 _ rfl; (with_reducible repeat (first | refine blk_drewN ?_ _ | refine blk_drew ?_ | refine blk_alloc ?_ _)); refine blk_put (cs := #[.int .i64 ((rd_T64 l0_0 x9_2).f0), .int .i64 ((rd_T64 l0_0 x9_2).f1), .int .i64 ((rd_T64 l0_0 x9_2).f2), .int .u64 ((rd_T64 l0_0 x9_2).f3.f0), .int .u64 ((rd_T64 l0_0 x9_2).f3.f1), .int .u64 0, .int .u64 0]) ?_ 5 _ rfl; (with_reducible repeat (first | refine blk_drewN ?_ _ | refine blk_drew ?_ | refine blk_alloc ?_ _)); refine blk_put (cs := #[.int .i64 ((rd_T64 l0_0 x9_2).f0), .int .i64 ((rd_T64 l0_0 x9_2).f1), .int .i64 ((rd_T64 l0_0 x9_2).f2), .int .u64 ((rd_T64 l0_0 x9_2).f3.f0), .int .u64 0, .int .u64 0, .int .u64 0]) ?_ 4 _ rfl; (with_reducible repeat (first | refine blk_drewN ?_ _ | refine blk_drew ?_ | refine blk_alloc ?_ _)); refine blk_put (cs := #[.int .i64 ((rd_T64 l0_0 x9_2).f0), .int .i64 ((rd_T64 l0_0 x9_2).f1), .int .i64 ((rd_T64 l0_0 x9_2).f2), .int .u64 0, .int .u64 0, .int .u64 0, .int .u64 0]) ?_ 3 _ rfl; (with_reducible repeat (first | refine blk_drewN ?_ _ | refine blk_drew ?_ | refine blk_alloc ?_ _)); refine blk_put (cs := #[.int .i64 ((rd_T64 l0_0 x9_2).f0), .int .i64 ((rd_T64 l0_0 x9_2).f1), .int .i64 0, .int .u64 0, .int .u64 0, .int .u64 0, .int .u64 0]) ?_ 2 _ rfl; (with_reducible repeat (first | refine blk_drewN ?_ _ | refine blk_drew ?_ | refine blk_alloc ?_ _)); refine blk_put (cs := #[.int .i64 ((rd_T64 l0_0 x9_2).f0), .int .i64 0, .int .i64 0, .int .u64 0, .int .u64 0, .int .u64 0, .int .u64 0]) ?_ 1 _ rfl; (with_reducible repeat (first | refine blk_drewN ?_ _ | refine blk_drew ?_ | refine blk_alloc ?_ _)); refine blk_put (cs := #[.int .i64 0, .int .i64 0, .int .i64 0, .int .u64 0, .int .u64 0, .int .u64 0, .int .u64 0]) ?_ 0 _ rfl; (with_reducible repeat (first | refine blk_drewN ?_ _ | refine blk_drew ?_ | refine blk_alloc ?_ _)); exact BK109.out⟩, ⟨by repeat (first | (with_reducible first | exact HB.out | apply below_alloc | apply pw_below_drewN | apply below_drew1 | refine below_set ?_ GE101.out | refine below_set ?_ GE109.out) | exact HB.out)⟩⟩) : P := h
theorem tattingref09_Close_w2 {P : Prop} (h : P := by
 have hczz0 : w18.cell? ⟨gb109, 0, none⟩ = some (.int .i64 0) := (blk_cell BK109.out 0).trans rfl
 have hczz1 : w18.cell? ⟨gb109, 1, none⟩ = some (.int .i64 0) := (blk_cell BK109.out 1).trans rfl
 have hczz2 : w18.cell? ⟨gb109, 2, none⟩ = some (.int .i64 0) := (blk_cell BK109.out 2).trans rfl
 have hczz3 : w18.cell? ⟨gb109, 3, none⟩ = some (.int .u64 0) := (blk_cell BK109.out 3).trans rfl
 have hczz4 : w18.cell? ⟨gb109, 4, none⟩ = some (.int .u64 0) := (blk_cell BK109.out 4).trans rfl
 have hczz5 : w18.cell? ⟨gb109, 5, none⟩ = some (.int .u64 0) := (blk_cell BK109.out 5).trans rfl
 have hczz6 : w18.cell? ⟨gb109, 6, none⟩ = some (.int .u64 0) := (blk_cell BK109.out 6).trans rfl
 have hfzz7 := blk_frozen BK109.out 0
 have hfzz8 := blk_frozen BK109.out 1
 have hfzz9 := blk_frozen BK109.out 2
 have hfzz10 := blk_frozen BK109.out 3
 have hfzz11 := blk_frozen BK109.out 4
 have hfzz12 := blk_frozen BK109.out 5
 have hfzz13 := blk_frozen BK109.out 6
 go_wp2
 go_meet
 case rel => exact ⟨_, (false), tat09Close_t3, H', ⟨by have := HK1.out; have := HK2.out; first | omega | exact Nat.le_refl _⟩, ⟨by (with_reducible repeat (first | apply Kd.R_alloc | apply Kd.R_drewN | apply Kd.R_drew)); exact Kd.R_mono (Kd.R_far (p := ⟨gb109, 6, none⟩) (Kd.R_far (p := ⟨gb109, 5, none⟩) (Kd.R_far (p := ⟨gb109, 4, none⟩) (Kd.R_far (p := ⟨gb109, 3, none⟩) (Kd.R_far (p := ⟨gb109, 2, none⟩) (Kd.R_far (p := ⟨gb109, 1, none⟩) (Kd.R_far (p := ⟨gb109, 0, none⟩) (Kd.R_types HO_7.out BK109.out (by decide)) (fun _ hk => hk.2) (.int .i64 ((rd_T64 l0_0 x9_2).f0))) (fun _ hk => hk.2) (.int .i64 ((rd_T64 l0_0 x9_2).f1))) (fun _ hk => hk.2) (.int .i64 ((rd_T64 l0_0 x9_2).f2))) (fun _ hk => hk.2) (.int .u64 ((rd_T64 l0_0 x9_2).f3.f0))) (fun _ hk => hk.2) (.int .u64 ((rd_T64 l0_0 x9_2).f3.f1))) (fun _ hk => hk.2) (.int .u64 ((rd_T64 l0_0 x9_2).f3.f2))) (fun _ hk => hk.2) (.int .u64 ((rd_T64 l0_0 x9_2).f3.f3))) (fun _ hk => trivial)⟩, ⟨by (with_reducible repeat (first | refine blk_drewN ?_ _ | refine blk_drew ?_ | refine blk_alloc ?_ _)); refine blk_far ?_ NB101_109.out _; (with_reducible repeat (first | refine blk_drewN ?_ _ | refine blk_drew ?_ | refine blk_alloc ?_ _)); refine blk_far ?_ NB101_109.out _; (with_reducible repeat (first | refine blk_drewN ?_ _ | refine blk_drew ?_ | refine blk_alloc ?_ _)); refine blk_far ?_ NB101_109.out _; (with_reducible repeat (first | refine blk_drewN ?_ _ | refine blk_drew ?_ | refine blk_alloc ?_ _)); refine blk_far ?_ NB101_109.out _; (with_reducible repeat (first | refine blk_drewN ?_ _ | refine blk_drew ?_ | refine blk_alloc ?_ _)); refine blk_far ?_ NB101_109.out _; (with_reducible repeat (first | refine blk_drewN ?_ _ | refine blk_drew ?_ | refine blk_alloc ?_ _)); refine blk_far ?_ NB101_109.out _; (with_reducible repeat (first | refine blk_drewN ?_ _ | refine blk_drew ?_ | refine blk_alloc ?_ _)); refine blk_far ?_ NB101_109.out _; (with_reducible repeat (first | refine blk_drewN ?_ _ | refine blk_drew ?_ | refine blk_alloc ?_ _)); exact BK101.out⟩, ⟨by (with_reducible repeat (first | refine blk_drewN ?_ _ | refine blk_drew ?_ | refine blk_alloc ?_ _)); refine blk_put (cs := #[.int .i64 ((rd_T64 l0_0 x9_2).f0), .int .i64 ((rd_T64 l0_0 x9_2).f1), .int .i64 ((rd_T64 l0_0 x9_2).f2), .int .u64 ((rd_T64 l0_0 x9_2).f3.f0), .int .u64 ((rd_T64 l0_0 x9_2).f3.f1), .int .u64 ((rd_T64 l0_0 x9_2).f3.f2), .int .u64 0]) ?_ 6 _ rfl; (with_reducible repeat (first | refine blk_drewN ?_ _ | refine blk_drew ?_ | refine blk_alloc ?_ _)); refine blk_put (cs := #[.int .i64 ((rd_T64 l0_0 x9_2).f0), .int .i64 ((rd_T64 l0_0 x9_2).f1), .int .i64 ((rd_T64 l0_0 x9_2).f2), .int .u64 ((rd_T64 l0_0 x9_2).f3.f0), .int .u64 ((rd_T64 l0_0 x9_2).f3.f1), .int .u64 0, .int .u64 0]) ?_ 5 _ rfl; (with_reducible repeat (first | refine blk_drewN ?_ _ | refine blk_drew ?_ | refine blk_alloc ?_ _)); refine blk_put (cs := #[.int .i64 ((rd_T64 l0_0 x9_2).f0), .int .i64 ((rd_T64 l0_0 x9_2).f1), .int .i64 ((rd_T64 l0_0 x9_2).f2), .int .u64 ((rd_T64 l0_0 x9_2).f3.f0), .int .u64 0, .int .u64 0, .int .u64 0]) ?_ 4 _ rfl; (with_reducible repeat (first | refine blk_drewN ?_ _ | refine blk_drew ?_ | refine blk_alloc ?_ _)); refine blk_put (cs := #[.int .i64 ((rd_T64 l0_0 x9_2).f0), .int .i64 ((rd_T64 l0_0 x9_2).f1), .int .i64 ((rd_T64 l0_0 x9_2).f2), .int .u64 0, .int .u64 0, .int .u64 0, .int .u64 0]) ?_ 3 _ rfl; (with_reducible repeat (first | refine blk_drewN ?_ _ | refine blk_drew ?_ | refine blk_alloc ?_ _)); refine blk_put (cs := #[.int .i64 ((rd_T64 l0_0 x9_2).f0), .int .i64 ((rd_T64 l0_0 x9_2).f1), .int .i64 0, .int .u64 0, .int .u64 0, .int .u64 0, .int .u64 0]) ?_ 2 _ rfl; (with_reducible repeat (first | refine blk_drewN ?_ _ | refine blk_drew ?_ | refine blk_alloc ?_ _)); refine blk_put (cs := #[.int .i64 ((rd_T64 l0_0 x9_2).f0), .int .i64 0, .int .i64 0, .int .u64 0, .int .u64 0, .int .u64 0, .int .u64 0]) ?_ 1 _ rfl; (with_reducible repeat (first | refine blk_drewN ?_ _ | refine blk_drew ?_ | refine blk_alloc ?_ _)); refine blk_put (cs := #[.int .i64 0, .int .i64 0, .int .i64 0, .int .u64 0, .int .u64 0, .int .u64 0, .int .u64 0]) ?_ 0 _ rfl; (with_reducible repeat (first | refine blk_drewN ?_ _ | refine blk_drew ?_ | refine blk_alloc ?_ _)); exact BK109.out⟩, ⟨by repeat (first | (with_reducible first | exact HB.out | apply below_alloc | apply pw_below_drewN | apply below_drew1 | refine below_set ?_ GE101.out | refine below_set ?_ GE109.out) | exact HB.out)⟩⟩) : P := h
set_option maxHeartbeats 80000000 in
set_option maxRecDepth 100000 in
theorem tattingref09_Close.calls (k : Nat) (A0_0 : Option Addr) (c0_0 : Nat) (l0_0 : List (S64)) (a0_1 : Int) (a0_2 : Int) (A1 : Option Addr) (c1 : Nat) (l1 : List Bool) (a2 : Int) (r : List Bool) (w : World) (hr0_0 : Kd.C k64 w A0_0 l0_0.length l0_0) (hc0_0 : l0_0.length ≤ c0_0) (hr1 : Kd.C Kd.bool w A1 l1.length l1) (hc1 : l1.length ≤ c1) (h : tattingref09_Close.f k l0_0 a0_1 a0_2 l1 a2 = some r) :
  Calls Tryd.prog 25 #[.agg #[.slice A0_0 l0_0.length c0_0, .int .i64 a0_1, .int .i64 a0_2], .slice A1 l1.length c1, .int .i64 a2] w fun e w' => ∃ v0_ : Value, e = .returned (v0_) ∧ Kd.R Kd.bool 4 w' w.heap.size (fun _ => True) v0_ r ∧ Below w.heap.size w w' := by
 have hu24 := Tryd.underlying24
 have hu64 := Tryd.underlying64
 have HR0_0 := Aside0.mk hr0_0
 have HC0_0 := Aside0.mk hc0_0
 clear hr0_0 hc0_0
 have HR1 := Aside0.mk hr1
 have HC1 := Aside0.mk hc1
 clear hr1 hc1
 have HB := Aside0.mk (Below.refl w.heap.size w)
 have H : ((some (([] : List Bool) : List Bool)).bind fun y102 => (if y102.length + l1.length < 140737488355328 then (tattingref09_Close.l0 k a2 (y102 ++ l1) 0 l0_0 a0_1 a0_2) else (none))) = some r := h
 clear h
 obtain ⟨y102, hy102⟩ : ∃ y_ : List Bool, y_ = (([] : List Bool)) := ⟨_, rfl⟩
 replace H : (if y102.length + l1.length < 140737488355328 then (tattingref09_Close.l0 k a2 (y102 ++ l1) 0 l0_0 a0_1 a0_2) else (none)) = some r := by first | (rw [hy102]; with_reducible exact H) | (have H2_ := (Option.bind_some _ _).symm.trans H; rw [hy102]; with_reducible exact H2_) | (have H2_ := (Option.bind_some _ _).symm.trans H; with_reducible exact H2_) | with_reducible exact H | (rw [hy102]; exact H) | exact H
 have Ny102 := Aside0.mk hy102
 clear hy102
 by_cases c4 : y102.length + l1.length < 140737488355328
 ·rw [if_pos c4] at H
  have LMc4 := Aside0.mk c4
  clear c4
  obtain ⟨y105, hy105⟩ : ∃ y_ : List Bool, y_ = (y102 ++ l1) := ⟨_, rfl⟩
  replace H : (tattingref09_Close.l0 k a2 y105 0 l0_0 a0_1 a0_2) = some r := by first | (rw [hy105]; with_reducible exact H) | (have H2_ := (Option.bind_some _ _).symm.trans H; rw [hy105]; with_reducible exact H2_) | (have H2_ := (Option.bind_some _ _).symm.trans H; with_reducible exact H2_) | with_reducible exact H | (rw [hy105]; exact H) | exact H
  have Ny105 := Aside0.mk hy105
  clear hy105
  have H' := Aside0.mk H
  clear H
  go_enter Tryd.func25, Tryd.ntmps25
  go_wp2_with (first | ((with_reducible refine gate_dst (N := 3) rfl ?_); refine box_event ?hg (N := 3) ?hd (cs := #[.slice A0_0 l0_0.length c0_0, .int .i64 a0_1, .int .i64 a0_2]) (t := 24) ?hr ?_; (case hd => rfl); (case hg => rfl); (case hr => first | (go_simp; done) | (go_simp; rfl)); intro gb101 hg w5 hbox hb; have n0_ := Aside0.mk (below_step tat09Close_t5 hb); have n1_ := Aside0.mk (hbox); have n2_ := Aside0.mk ((by rw [hg]; exact (below_size tat09Close_t5) : w.heap.size ≤ gb101)); have n3_ := Aside0.mk ((by rw [hg]; exact (below_size tat09Close_t5) : w.heap.size ≤ gb101)); clear HB; have HB := n0_; have BK101 := n1_; have GW101 := n2_; have GE101 := n3_; clear n0_ n1_ n2_ n3_; clear hb hbox hg) | ((with_reducible refine gate_dst (N := 11) rfl ?_); refine Kd.R_lit Kd.bool _ 4 ?hg (N := 11) ?hd (xs := ([] : List Bool)) (inner := []) (ok := fun _ => True) (okp := fun _ => True) ?hr ?hp (fun _ hk => hk) trivial (Below.refl _ _) (Nat.le_refl _) (by simp) ?_; (case hd => rfl); (case hg => rfl); (case hr => first | (go_simp; done) | (go_simp; rfl)); (case hp => exact (Reps.none _ _)); intro v103 w6 ho7 hb hg_ hnew_; clear hg_ hnew_; (first | rw [← Ny102.out] at ho7 | (simp only [Int.reduceToNat] at ho7; rw [← Ny102.out] at ho7)); have n0_ := Aside0.mk (Kd.R_lower ho7 (below_size tat09Close_t0)); have n1_ := Aside0.mk (blk_below (g := gb101) (o := .cells #[.slice A0_0 l0_0.length c0_0, .int .i64 a0_1, .int .i64 a0_2] 24 (0, 0)) tat09Close_t1 hb); have n2_ := Aside0.mk (below_step tat09Close_t0 hb); clear BK101; clear HB; have HO104 := n0_; have BK101 := n1_; have HB := n2_; clear n0_ n1_ n2_; clear hb ho7) | ((with_reducible refine gate_builtin (b := .append) (xs := #[.tmp 11, .tmp 12]) rfl ?_); at_builtin; refine Kd.R_append_rows Kd.bool (w0 := w) w.heap.size rfl (.tmp 11) (.tmp 12) 28 4 (.bool false) 1 rfl Tryd.underlying28 info4 rfl (by decide) (by omega) v103 y102 l1 _ _ _ (fun _ => True) (fun _ => False) rfl rfl ?aO ?aR (fun _ _ h => h) (fun _ h => h.elim) ?aF ?aB ?aS ?aL ?_; (case aR => repeat (first | exact (Kd.C_below HR1.out HB.out) | (with_reducible refine Kd.C_alloc ?_ _) | (with_reducible refine Kd.C_drewN ?_ _) | (with_reducible refine Kd.C_drew ?_))); (case aB => exact tat09Close_t0); (case aF => exact (fun _ _ => trivial)); (case aO => exact (by (with_reducible repeat (first | apply Kd.R_alloc | apply Kd.R_drewN | apply Kd.R_drew)); exact HO104.out)); (case aS => exact (below_size tat09Close_t0)); (case aL => have := LMc4.out; omega); intro v106 w8 ho hb hg hat; rw [← Ny105.out] at ho; have n0_ := Aside0.mk (blk_grown (g := gb101) (o := .cells #[.slice A0_0 l0_0.length c0_0, .int .i64 a0_1, .int .i64 a0_2] 24 (0, 0)) tat09Close_t1 hg (Kd.R_ne HO104.out BK101.out (by decide))); have n1_ := Aside0.mk (hb); have n2_ := Aside0.mk (ho); clear BK101; clear HB; clear HO104; have BK101 := n0_; have HB := n1_; have HO107 := n2_; clear n0_ n1_ n2_; clear ho hb hg hat))
  go_loopg [8] k (fun kq v8 w' => ∃ (x7_1 : List Bool) (x8_1 : Int), v8 = .int .i64 x8_1 ∧ Aside0 (tattingref09_Close.l0 kq a2 x7_1 x8_1 l0_0 a0_1 a0_2 = some r) ∧ Aside0 (kq ≤ k) ∧ Aside0 (Kd.R Kd.bool 4 w' w.heap.size (fun _ => True) v106 x7_1) ∧ Aside0 (w'.heap[gb101]? = some (.cells #[(.slice A0_0 l0_0.length c0_0), .int .i64 a0_1, .int .i64 a0_2] 24 (0, 0))) ∧ Aside0 (Below w.heap.size w w'))
  case atStart => exact ⟨(y105), (0), tat09Close_t3, H', ⟨Nat.le_refl _⟩, ⟨by (with_reducible repeat (first | apply Kd.R_alloc | apply Kd.R_drewN | apply Kd.R_drew)); exact HO107.out⟩, ⟨by (with_reducible repeat (first | refine blk_drewN ?_ _ | refine blk_drew ?_ | refine blk_alloc ?_ _)); exact BK101.out⟩, ⟨by repeat (first | (with_reducible first | exact HB.out | apply below_alloc | apply pw_below_drewN | apply below_drew1 | refine below_set ?_ GE101.out) | exact HB.out)⟩⟩
  case round =>
   clear H'
   try clear c1
   try clear c2
   try clear p2
   try clear c4
   obtain ⟨x7_1, x8_1, rfl, HA, HK1, HO_7, BK101, HB⟩ := hrel
   cases gk with
   | zero => exact absurd HA.out (by simp [tattingref09_Close.l0])
   | succ k1 =>
    have H := HA.out
    clear HA
    simp only [tattingref09_Close.l0] at H
    by_cases c9 : x8_1 < (l0_0.length : Int)
    ·rw [if_pos c9] at H
     have c9b0 : decide (x8_1 < (l0_0.length : Int)) = true := decide_eq_true c9
     clear c9
     have H' := Aside0.mk H
     clear H
     have hcz10_0 : wr.cell? ⟨gb101, 0, none⟩ = some (.slice A0_0 l0_0.length c0_0) := (blk_cell BK101.out 0).trans rfl
     have hcz10_1 : wr.cell? ⟨gb101, 1, none⟩ = some (.int .i64 a0_1) := (blk_cell BK101.out 1).trans rfl
     have hcz10_2 : wr.cell? ⟨gb101, 2, none⟩ = some (.int .i64 a0_2) := (blk_cell BK101.out 2).trans rfl
     have hfz10_0 := blk_frozen BK101.out 0
     have hfz10_1 := blk_frozen BK101.out 1
     have hfz10_2 := blk_frozen BK101.out 2
     go_wp2
     go_loopg [9] k1 (fun kq v9 w' => ∃ (x7_2 : List Bool) (x9_2 : Int), v9 = .int .i64 x9_2 ∧ Aside0 (tattingref09_Close.l1 kq a2 x7_2 x8_1 x9_2 l0_0 a0_1 a0_2 = some r) ∧ Aside0 (kq ≤ k1) ∧ Aside0 (Kd.R Kd.bool 4 w' w.heap.size (fun _ => True) v106 x7_2) ∧ Aside0 (w'.heap[gb101]? = some (.cells #[(.slice A0_0 l0_0.length c0_0), .int .i64 a0_1, .int .i64 a0_2] 24 (0, 0))) ∧ Aside0 (Below w.heap.size w w'))
     case atStart => exact ⟨(x7_1), (0), tat09Close_t3, H', ⟨Nat.le_refl _⟩, ⟨by (with_reducible repeat (first | apply Kd.R_alloc | apply Kd.R_drewN | apply Kd.R_drew)); exact HO_7.out⟩, ⟨by (with_reducible repeat (first | refine blk_drewN ?_ _ | refine blk_drew ?_ | refine blk_alloc ?_ _)); exact BK101.out⟩, ⟨by repeat (first | (with_reducible first | exact HB.out | apply below_alloc | apply pw_below_drewN | apply below_drew1 | refine below_set ?_ GE101.out) | exact HB.out)⟩⟩
     case round =>
      clear H'
      try clear c1
      try clear c2
      try clear p2
      try clear c4
      try clear c9
      try clear c9b0
      try clear hcz10_0
      try clear hcz10_1
      try clear hcz10_2
      try clear hfz10_0
      try clear hfz10_1
      try clear hfz10_2
      try clear p2
      obtain ⟨x7_2, x9_2, rfl, HA, HK2, HO_7, BK101, HB⟩ := hrel
      cases gk with
      | zero => exact absurd HA.out (by simp [tattingref09_Close.l1])
      | succ k2 =>
       have H := HA.out
       clear HA
       simp only [tattingref09_Close.l1] at H
       by_cases c11 : x9_2 < (l0_0.length : Int)
       ·rw [if_pos c11] at H
        have c11b0 : decide (x9_2 < (l0_0.length : Int)) = true := decide_eq_true c11
        clear c11
        by_cases c12 : 0 ≤ x9_2
        ·rw [if_pos c12] at H
         have c12b0 : decide (0 ≤ x9_2) = true := decide_eq_true c12
         clear c12
         by_cases c13 : x9_2 < (x7_2.length : Int)
         ·rw [if_pos c13] at H
          have c13b0 : decide (x9_2 < (x7_2.length : Int)) = true := decide_eq_true c13
          clear c13
          obtain ⟨bq14, hbq14⟩ : ∃ b_ : Bool, b_ = (rdOf false x7_2 x9_2) := ⟨_, rfl⟩
          replace H : (if bq14 = true then (if ((rd_T64 l0_0 x9_2).f0) = 2 then (tattingref09_Close.j2 k2 a2 x7_2 x8_1 x9_2 true l0_0 a0_1 a0_2 ((rd_T64 l0_0 x9_2).f0) ((rd_T64 l0_0 x9_2).f1) ((rd_T64 l0_0 x9_2).f2) ((rd_T64 l0_0 x9_2).f3.f0) ((rd_T64 l0_0 x9_2).f3.f1) ((rd_T64 l0_0 x9_2).f3.f2) ((rd_T64 l0_0 x9_2).f3.f3)) else (if ((rd_T64 l0_0 x9_2).f0) = 3 then (tattingref09_Close.j2 k2 a2 x7_2 x8_1 x9_2 true l0_0 a0_1 a0_2 ((rd_T64 l0_0 x9_2).f0) ((rd_T64 l0_0 x9_2).f1) ((rd_T64 l0_0 x9_2).f2) ((rd_T64 l0_0 x9_2).f3.f0) ((rd_T64 l0_0 x9_2).f3.f1) ((rd_T64 l0_0 x9_2).f3.f2) ((rd_T64 l0_0 x9_2).f3.f3)) else (if ((rd_T64 l0_0 x9_2).f0) = 4 then (if a2 = 256 then (tattingref09_Close.j2 k2 a2 x7_2 x8_1 x9_2 true l0_0 a0_1 a0_2 ((rd_T64 l0_0 x9_2).f0) ((rd_T64 l0_0 x9_2).f1) ((rd_T64 l0_0 x9_2).f2) ((rd_T64 l0_0 x9_2).f3.f0) ((rd_T64 l0_0 x9_2).f3.f1) ((rd_T64 l0_0 x9_2).f3.f2) ((rd_T64 l0_0 x9_2).f3.f3)) else (if a2 = 258 then (tattingref09_Close.j2 k2 a2 x7_2 x8_1 x9_2 true l0_0 a0_1 a0_2 ((rd_T64 l0_0 x9_2).f0) ((rd_T64 l0_0 x9_2).f1) ((rd_T64 l0_0 x9_2).f2) ((rd_T64 l0_0 x9_2).f3.f0) ((rd_T64 l0_0 x9_2).f3.f1) ((rd_T64 l0_0 x9_2).f3.f2) ((rd_T64 l0_0 x9_2).f3.f3)) else (if ((rd_T64 l0_0 x9_2).f0) = 5 then (if a2 = 257 then (tattingref09_Close.j2 k2 a2 x7_2 x8_1 x9_2 true l0_0 a0_1 a0_2 ((rd_T64 l0_0 x9_2).f0) ((rd_T64 l0_0 x9_2).f1) ((rd_T64 l0_0 x9_2).f2) ((rd_T64 l0_0 x9_2).f3.f0) ((rd_T64 l0_0 x9_2).f3.f1) ((rd_T64 l0_0 x9_2).f3.f2) ((rd_T64 l0_0 x9_2).f3.f3)) else (tattingref09_Close.j2 k2 a2 x7_2 x8_1 x9_2 (a2 == 258) l0_0 a0_1 a0_2 ((rd_T64 l0_0 x9_2).f0) ((rd_T64 l0_0 x9_2).f1) ((rd_T64 l0_0 x9_2).f2) ((rd_T64 l0_0 x9_2).f3.f0) ((rd_T64 l0_0 x9_2).f3.f1) ((rd_T64 l0_0 x9_2).f3.f2) ((rd_T64 l0_0 x9_2).f3.f3))) else (tattingref09_Close.j2 k2 a2 x7_2 x8_1 x9_2 false l0_0 a0_1 a0_2 ((rd_T64 l0_0 x9_2).f0) ((rd_T64 l0_0 x9_2).f1) ((rd_T64 l0_0 x9_2).f2) ((rd_T64 l0_0 x9_2).f3.f0) ((rd_T64 l0_0 x9_2).f3.f1) ((rd_T64 l0_0 x9_2).f3.f2) ((rd_T64 l0_0 x9_2).f3.f3))))) else (if ((rd_T64 l0_0 x9_2).f0) = 5 then (if a2 = 257 then (tattingref09_Close.j2 k2 a2 x7_2 x8_1 x9_2 true l0_0 a0_1 a0_2 ((rd_T64 l0_0 x9_2).f0) ((rd_T64 l0_0 x9_2).f1) ((rd_T64 l0_0 x9_2).f2) ((rd_T64 l0_0 x9_2).f3.f0) ((rd_T64 l0_0 x9_2).f3.f1) ((rd_T64 l0_0 x9_2).f3.f2) ((rd_T64 l0_0 x9_2).f3.f3)) else (tattingref09_Close.j2 k2 a2 x7_2 x8_1 x9_2 (a2 == 258) l0_0 a0_1 a0_2 ((rd_T64 l0_0 x9_2).f0) ((rd_T64 l0_0 x9_2).f1) ((rd_T64 l0_0 x9_2).f2) ((rd_T64 l0_0 x9_2).f3.f0) ((rd_T64 l0_0 x9_2).f3.f1) ((rd_T64 l0_0 x9_2).f3.f2) ((rd_T64 l0_0 x9_2).f3.f3))) else (tattingref09_Close.j2 k2 a2 x7_2 x8_1 x9_2 false l0_0 a0_1 a0_2 ((rd_T64 l0_0 x9_2).f0) ((rd_T64 l0_0 x9_2).f1) ((rd_T64 l0_0 x9_2).f2) ((rd_T64 l0_0 x9_2).f3.f0) ((rd_T64 l0_0 x9_2).f3.f1) ((rd_T64 l0_0 x9_2).f3.f2) ((rd_T64 l0_0 x9_2).f3.f3)))))) else (tattingref09_Close.l1 k2 a2 x7_2 x8_1 (wrap64 (x9_2 + 1)) l0_0 a0_1 a0_2)) = some r := by rw [← hbq14] at H; exact H
          have Nbq14 := Aside0.mk hbq14
          clear hbq14
          by_cases c15 : bq14 = true
          ·subst c15
           have H1 : (if ((rd_T64 l0_0 x9_2).f0) = 2 then (tattingref09_Close.j2 k2 a2 x7_2 x8_1 x9_2 true l0_0 a0_1 a0_2 ((rd_T64 l0_0 x9_2).f0) ((rd_T64 l0_0 x9_2).f1) ((rd_T64 l0_0 x9_2).f2) ((rd_T64 l0_0 x9_2).f3.f0) ((rd_T64 l0_0 x9_2).f3.f1) ((rd_T64 l0_0 x9_2).f3.f2) ((rd_T64 l0_0 x9_2).f3.f3)) else (if ((rd_T64 l0_0 x9_2).f0) = 3 then (tattingref09_Close.j2 k2 a2 x7_2 x8_1 x9_2 true l0_0 a0_1 a0_2 ((rd_T64 l0_0 x9_2).f0) ((rd_T64 l0_0 x9_2).f1) ((rd_T64 l0_0 x9_2).f2) ((rd_T64 l0_0 x9_2).f3.f0) ((rd_T64 l0_0 x9_2).f3.f1) ((rd_T64 l0_0 x9_2).f3.f2) ((rd_T64 l0_0 x9_2).f3.f3)) else (if ((rd_T64 l0_0 x9_2).f0) = 4 then (if a2 = 256 then (tattingref09_Close.j2 k2 a2 x7_2 x8_1 x9_2 true l0_0 a0_1 a0_2 ((rd_T64 l0_0 x9_2).f0) ((rd_T64 l0_0 x9_2).f1) ((rd_T64 l0_0 x9_2).f2) ((rd_T64 l0_0 x9_2).f3.f0) ((rd_T64 l0_0 x9_2).f3.f1) ((rd_T64 l0_0 x9_2).f3.f2) ((rd_T64 l0_0 x9_2).f3.f3)) else (if a2 = 258 then (tattingref09_Close.j2 k2 a2 x7_2 x8_1 x9_2 true l0_0 a0_1 a0_2 ((rd_T64 l0_0 x9_2).f0) ((rd_T64 l0_0 x9_2).f1) ((rd_T64 l0_0 x9_2).f2) ((rd_T64 l0_0 x9_2).f3.f0) ((rd_T64 l0_0 x9_2).f3.f1) ((rd_T64 l0_0 x9_2).f3.f2) ((rd_T64 l0_0 x9_2).f3.f3)) else (if ((rd_T64 l0_0 x9_2).f0) = 5 then (if a2 = 257 then (tattingref09_Close.j2 k2 a2 x7_2 x8_1 x9_2 true l0_0 a0_1 a0_2 ((rd_T64 l0_0 x9_2).f0) ((rd_T64 l0_0 x9_2).f1) ((rd_T64 l0_0 x9_2).f2) ((rd_T64 l0_0 x9_2).f3.f0) ((rd_T64 l0_0 x9_2).f3.f1) ((rd_T64 l0_0 x9_2).f3.f2) ((rd_T64 l0_0 x9_2).f3.f3)) else (tattingref09_Close.j2 k2 a2 x7_2 x8_1 x9_2 (a2 == 258) l0_0 a0_1 a0_2 ((rd_T64 l0_0 x9_2).f0) ((rd_T64 l0_0 x9_2).f1) ((rd_T64 l0_0 x9_2).f2) ((rd_T64 l0_0 x9_2).f3.f0) ((rd_T64 l0_0 x9_2).f3.f1) ((rd_T64 l0_0 x9_2).f3.f2) ((rd_T64 l0_0 x9_2).f3.f3))) else (tattingref09_Close.j2 k2 a2 x7_2 x8_1 x9_2 false l0_0 a0_1 a0_2 ((rd_T64 l0_0 x9_2).f0) ((rd_T64 l0_0 x9_2).f1) ((rd_T64 l0_0 x9_2).f2) ((rd_T64 l0_0 x9_2).f3.f0) ((rd_T64 l0_0 x9_2).f3.f1) ((rd_T64 l0_0 x9_2).f3.f2) ((rd_T64 l0_0 x9_2).f3.f3))))) else (if ((rd_T64 l0_0 x9_2).f0) = 5 then (if a2 = 257 then (tattingref09_Close.j2 k2 a2 x7_2 x8_1 x9_2 true l0_0 a0_1 a0_2 ((rd_T64 l0_0 x9_2).f0) ((rd_T64 l0_0 x9_2).f1) ((rd_T64 l0_0 x9_2).f2) ((rd_T64 l0_0 x9_2).f3.f0) ((rd_T64 l0_0 x9_2).f3.f1) ((rd_T64 l0_0 x9_2).f3.f2) ((rd_T64 l0_0 x9_2).f3.f3)) else (tattingref09_Close.j2 k2 a2 x7_2 x8_1 x9_2 (a2 == 258) l0_0 a0_1 a0_2 ((rd_T64 l0_0 x9_2).f0) ((rd_T64 l0_0 x9_2).f1) ((rd_T64 l0_0 x9_2).f2) ((rd_T64 l0_0 x9_2).f3.f0) ((rd_T64 l0_0 x9_2).f3.f1) ((rd_T64 l0_0 x9_2).f3.f2) ((rd_T64 l0_0 x9_2).f3.f3))) else (tattingref09_Close.j2 k2 a2 x7_2 x8_1 x9_2 false l0_0 a0_1 a0_2 ((rd_T64 l0_0 x9_2).f0) ((rd_T64 l0_0 x9_2).f1) ((rd_T64 l0_0 x9_2).f2) ((rd_T64 l0_0 x9_2).f3.f0) ((rd_T64 l0_0 x9_2).f3.f1) ((rd_T64 l0_0 x9_2).f3.f2) ((rd_T64 l0_0 x9_2).f3.f3)))))) = some r := by rw [if_pos rfl] at H; exact H
           clear H
           have H := H1
           clear H1
           have HC16 := Aside0.mk H
           clear H
           have hcz17_0 : wr.cell? ⟨gb101, 0, none⟩ = some (.slice A0_0 l0_0.length c0_0) := (blk_cell BK101.out 0).trans rfl
           have hcz17_1 : wr.cell? ⟨gb101, 1, none⟩ = some (.int .i64 a0_1) := (blk_cell BK101.out 1).trans rfl
           have hcz17_2 : wr.cell? ⟨gb101, 2, none⟩ = some (.int .i64 a0_2) := (blk_cell BK101.out 2).trans rfl
           have hfz17_0 := blk_frozen BK101.out 0
           have hfz17_1 := blk_frozen BK101.out 1
           have hfz17_2 := blk_frozen BK101.out 2
           have p108 : 0 ≤ (x9_2 : Int) := of_decide_eq_true tat09Close_t2
           have q108 : x9_2 < (l0_0.length : Int) := of_decide_eq_true tat09Close_t2
           obtain ⟨ad108, e108, hx108_0, hx108_1, hx108_2, hx108_3, hx108_4, hx108_5, hx108_6⟩ := at_T64 HR0_0.out x9_2 p108 q108
           cases e108
           replace hx108_0 := (HB.out.cell (World.block_lt_of_cell? w _ hx108_0)).trans hx108_0
           replace hx108_1 := (HB.out.cell (World.block_lt_of_cell? w _ hx108_1)).trans hx108_1
           replace hx108_2 := (HB.out.cell (World.block_lt_of_cell? w _ hx108_2)).trans hx108_2
           replace hx108_3 := (HB.out.cell (World.block_lt_of_cell? w _ hx108_3)).trans hx108_3
           replace hx108_4 := (HB.out.cell (World.block_lt_of_cell? w _ hx108_4)).trans hx108_4
           replace hx108_5 := (HB.out.cell (World.block_lt_of_cell? w _ hx108_5)).trans hx108_5
           replace hx108_6 := (HB.out.cell (World.block_lt_of_cell? w _ hx108_6)).trans hx108_6
           replace p108 := eq_true p108
           replace q108 := eq_true q108
           go_upto_region 10 with (first | ((with_reducible refine gate_dst (N := 10) rfl ?_); refine box_event ?hg (N := 10) ?hd (cs := #[.int .i64 0, .int .i64 0, .int .i64 0, .int .u64 0, .int .u64 0, .int .u64 0, .int .u64 0]) (t := 64) ?hr ?_; (case hd => rfl); (case hg => rfl); (case hr => first | (go_simp; done) | (go_simp; rfl)); intro gb109 hg w18 hbox hb; have n0_ := Aside0.mk (Kd.R_below (by (with_reducible repeat (first | apply Kd.R_alloc | apply Kd.R_drewN | apply Kd.R_drew)); exact HO_7.out) hb); have n1_ := Aside0.mk (blk_below (g := gb101) (o := .cells #[.slice (some ad108) l0_0.length c0_0, .int .i64 a0_1, .int .i64 a0_2] 24 (0, 0)) tat09Close_t1 hb); have n2_ := Aside0.mk (below_step tat09Close_t0 hb); have n3_ := Aside0.mk (hbox); have n4_ := Aside0.mk ((by rw [hg]; exact (below_size tat09Close_t0) : w.heap.size ≤ gb109)); have n5_ := Aside0.mk ((by rw [hg]; exact (below_size tat09Close_t0) : w.heap.size ≤ gb109)); have n6_ := Aside0.mk ((by rw [hg]; exact Nat.ne_of_lt (blk_lt (g := gb101) (o := .cells #[.slice (some ad108) l0_0.length c0_0, .int .i64 a0_1, .int .i64 a0_2] 24 (0, 0)) tat09Close_t1) : gb101 ≠ gb109)); have n7_ := Aside0.mk ((by rw [hg]; exact Nat.ne_of_gt (blk_lt (g := gb101) (o := .cells #[.slice (some ad108) l0_0.length c0_0, .int .i64 a0_1, .int .i64 a0_2] 24 (0, 0)) tat09Close_t1) : gb109 ≠ gb101)); clear HO_7; clear BK101; clear HB; have HO_7 := n0_; have BK101 := n1_; have HB := n2_; have BK109 := n3_; have GW109 := n4_; have GE109 := n5_; have NB101_109 := n6_; have NB109_101 := n7_; clear n0_ n1_ n2_ n3_ n4_ n5_ n6_ n7_; clear hb hbox hg; have hnb19 := NB109_101.out; have hnc19 := NB101_109.out; have hcz20_0 : w18.cell? ⟨gb109, 0, none⟩ = some (.int .i64 0) := (blk_cell BK109.out 0).trans rfl; have hcz20_1 : w18.cell? ⟨gb109, 1, none⟩ = some (.int .i64 0) := (blk_cell BK109.out 1).trans rfl; have hcz20_2 : w18.cell? ⟨gb109, 2, none⟩ = some (.int .i64 0) := (blk_cell BK109.out 2).trans rfl; have hcz20_3 : w18.cell? ⟨gb109, 3, none⟩ = some (.int .u64 0) := (blk_cell BK109.out 3).trans rfl; have hcz20_4 : w18.cell? ⟨gb109, 4, none⟩ = some (.int .u64 0) := (blk_cell BK109.out 4).trans rfl; have hcz20_5 : w18.cell? ⟨gb109, 5, none⟩ = some (.int .u64 0) := (blk_cell BK109.out 5).trans rfl; have hcz20_6 : w18.cell? ⟨gb109, 6, none⟩ = some (.int .u64 0) := (blk_cell BK109.out 6).trans rfl; have hfz20_0 := blk_frozen BK109.out 0; have hfz20_1 := blk_frozen BK109.out 1; have hfz20_2 := blk_frozen BK109.out 2; have hfz20_3 := blk_frozen BK109.out 3; have hfz20_4 := blk_frozen BK109.out 4; have hfz20_5 := blk_frozen BK109.out 5; have hfz20_6 := blk_frozen BK109.out 6; obtain ⟨Ao21, co21, eo21⟩ := Kd.R_slice HO_7.out; subst eo21; have p110 : 0 ≤ (x9_2 : Int) := of_decide_eq_true tat09Close_t2; have q110 : x9_2 < (x7_2.length : Int) := of_decide_eq_true tat09Close_t2; obtain ⟨ad110, e110, hx110_0⟩ := Kd.at_bool (Kd.R_reads' HO_7.out).2.2 x9_2 p110 q110; (try rw [← Nbq14.out] at hx110_0); (try rw [← Nbq14.out] at hw110_0); cases e110; have hn110_0 : ad110.block ≠ gb109 := Kd.own_blk (Kd.R_ne HO_7.out BK109.out (by decide)); have hn110_1 : ad110.block ≠ gb109 := Kd.own_blk (Kd.R_ne HO_7.out BK109.out (by decide)); have hn110_2 : ad110.block ≠ gb109 := Kd.own_blk (Kd.R_ne HO_7.out BK109.out (by decide)); have hn110_3 : ad110.block ≠ gb109 := Kd.own_blk (Kd.R_ne HO_7.out BK109.out (by decide)); have hn110_4 : ad110.block ≠ gb109 := Kd.own_blk (Kd.R_ne HO_7.out BK109.out (by decide)); have hn110_5 : ad110.block ≠ gb109 := Kd.own_blk (Kd.R_ne HO_7.out BK109.out (by decide)); have hn110_6 : ad110.block ≠ gb109 := Kd.own_blk (Kd.R_ne HO_7.out BK109.out (by decide)); replace hx110_0 := (cell_far (p := ⟨gb109, 0, none⟩) (by first | (rw [add_block]; exact hn110_0) | (show (Addr.add _ _).block ≠ _; rw [add_block]; exact hn110_0) | exact hn110_0) (.int .i64 ((rd_T64 l0_0 x9_2).f0))).trans hx110_0; replace hx110_0 := (cell_far (p := ⟨gb109, 1, none⟩) (by first | (rw [add_block]; exact hn110_1) | (show (Addr.add _ _).block ≠ _; rw [add_block]; exact hn110_1) | exact hn110_1) (.int .i64 ((rd_T64 l0_0 x9_2).f1))).trans hx110_0; replace hx110_0 := (cell_far (p := ⟨gb109, 2, none⟩) (by first | (rw [add_block]; exact hn110_2) | (show (Addr.add _ _).block ≠ _; rw [add_block]; exact hn110_2) | exact hn110_2) (.int .i64 ((rd_T64 l0_0 x9_2).f2))).trans hx110_0; replace hx110_0 := (cell_far (p := ⟨gb109, 3, none⟩) (by first | (rw [add_block]; exact hn110_3) | (show (Addr.add _ _).block ≠ _; rw [add_block]; exact hn110_3) | exact hn110_3) (.int .u64 ((rd_T64 l0_0 x9_2).f3.f0))).trans hx110_0; replace hx110_0 := (cell_far (p := ⟨gb109, 4, none⟩) (by first | (rw [add_block]; exact hn110_4) | (show (Addr.add _ _).block ≠ _; rw [add_block]; exact hn110_4) | exact hn110_4) (.int .u64 ((rd_T64 l0_0 x9_2).f3.f1))).trans hx110_0; replace hx110_0 := (cell_far (p := ⟨gb109, 5, none⟩) (by first | (rw [add_block]; exact hn110_5) | (show (Addr.add _ _).block ≠ _; rw [add_block]; exact hn110_5) | exact hn110_5) (.int .u64 ((rd_T64 l0_0 x9_2).f3.f2))).trans hx110_0; replace hx110_0 := (cell_far (p := ⟨gb109, 6, none⟩) (by first | (rw [add_block]; exact hn110_6) | (show (Addr.add _ _).block ≠ _; rw [add_block]; exact hn110_6) | exact hn110_6) (.int .u64 ((rd_T64 l0_0 x9_2).f3.f3))).trans hx110_0; clear hn110_0; clear hn110_1; clear hn110_2; clear hn110_3; clear hn110_4; clear hn110_5; clear hn110_6; replace p110 := eq_true p110; replace q110 := eq_true q110))
           (try simp only [Act.put, List.setIfInBounds_toArray, List.set_cons_zero, List.set_cons_succ])
           go_cut [71] (fun v71 wc => ∃ (kq : Nat) (x71_15 : Bool), v71 = .bool x71_15 ∧ Aside0 (tattingref09_Close.j2 kq a2 x7_2 x8_1 x9_2 x71_15 l0_0 a0_1 a0_2 ((rd_T64 l0_0 x9_2).f0) ((rd_T64 l0_0 x9_2).f1) ((rd_T64 l0_0 x9_2).f2) ((rd_T64 l0_0 x9_2).f3.f0) ((rd_T64 l0_0 x9_2).f3.f1) ((rd_T64 l0_0 x9_2).f3.f2) ((rd_T64 l0_0 x9_2).f3.f3) = some r) ∧ Aside0 (kq ≤ k2) ∧ Aside0 (Kd.R Kd.bool 4 wc w.heap.size (fun _ => True) (.slice (some ad110) x7_2.length co21) x7_2) ∧ Aside0 (wc.heap[gb101]? = some (.cells #[(.slice (some ad108) l0_0.length c0_0), .int .i64 a0_1, .int .i64 a0_2] 24 (0, 0))) ∧ Aside0 (wc.heap[gb109]? = some (.cells #[.int .i64 ((rd_T64 l0_0 x9_2).f0), .int .i64 ((rd_T64 l0_0 x9_2).f1), .int .i64 ((rd_T64 l0_0 x9_2).f2), .int .u64 ((rd_T64 l0_0 x9_2).f3.f0), .int .u64 ((rd_T64 l0_0 x9_2).f3.f1), .int .u64 ((rd_T64 l0_0 x9_2).f3.f2), .int .u64 ((rd_T64 l0_0 x9_2).f3.f3)] 64 (0, 0))) ∧ Aside0 (Below w.heap.size w wc))
           case first =>
            have H := HC16.out
            clear HC16
            by_cases c22 : ((rd_T64 l0_0 x9_2).f0) = 2
            ·rw [if_pos c22] at H
             have c22b0 : (((rd_T64 l0_0 x9_2).f0) == 2) = true := beq_iff_eq.mpr c22
             have c22b1 : (((rd_T64 l0_0 x9_2).f0) != 2) = false := bne_eq_false_iff_eq.mpr c22
             clear c22
             (first | rw [c22b0] | (simp only [i64_w, i32_w]; rw [c22b0]) | skip)
             have H' := Aside0.mk H
             clear H
             have hnb23 := NB109_101.out
             have hnc23 := NB101_109.out
             exact tattingref09_Close_w0
            ·rw [if_neg c22] at H
             have c22b0 : (((rd_T64 l0_0 x9_2).f0) == 2) = false := beq_eq_false_iff_ne.mpr c22
             have c22b1 : (((rd_T64 l0_0 x9_2).f0) != 2) = true := bne_iff_ne.mpr c22
             (first | rw [c22b0] | (simp only [i64_w, i32_w]; rw [c22b0]) | skip)
             by_cases c25 : ((rd_T64 l0_0 x9_2).f0) = 3
             ·rw [if_pos c25] at H
              have c25b0 : (((rd_T64 l0_0 x9_2).f0) == 3) = true := beq_iff_eq.mpr c25
              have c25b1 : (((rd_T64 l0_0 x9_2).f0) != 3) = false := bne_eq_false_iff_eq.mpr c25
              clear c25
              have H' := Aside0.mk H
              clear H
              have hnb26 := NB109_101.out
              have hnc26 := NB101_109.out
              exact tattingref09_Close_w0
             ·rw [if_neg c25] at H
              have c25b0 : (((rd_T64 l0_0 x9_2).f0) == 3) = false := beq_eq_false_iff_ne.mpr c25
              have c25b1 : (((rd_T64 l0_0 x9_2).f0) != 3) = true := bne_iff_ne.mpr c25
              by_cases c28 : ((rd_T64 l0_0 x9_2).f0) = 4
              ·rw [if_pos c28] at H
               have c28b0 : (((rd_T64 l0_0 x9_2).f0) == 4) = true := beq_iff_eq.mpr c28
               have c28b1 : (((rd_T64 l0_0 x9_2).f0) != 4) = false := bne_eq_false_iff_eq.mpr c28
               clear c28
               by_cases c29 : a2 = 256
               ·rw [if_pos c29] at H
                have c29b0 : (a2 == 256) = true := beq_iff_eq.mpr c29
                have c29b1 : (a2 != 256) = false := bne_eq_false_iff_eq.mpr c29
                clear c29
                have H' := Aside0.mk H
                clear H
                have hnb30 := NB109_101.out
                have hnc30 := NB101_109.out
                exact tattingref09_Close_w0
               ·rw [if_neg c29] at H
                have c29b0 : (a2 == 256) = false := beq_eq_false_iff_ne.mpr c29
                have c29b1 : (a2 != 256) = true := bne_iff_ne.mpr c29
                by_cases c32 : a2 = 258
                ·rw [if_pos c32] at H
                 have c32b0 : (a2 == 258) = true := beq_iff_eq.mpr c32
                 have c32b1 : (a2 != 258) = false := bne_eq_false_iff_eq.mpr c32
                 clear c32
                 have H' := Aside0.mk H
                 clear H
                 have hnb33 := NB109_101.out
                 have hnc33 := NB101_109.out
                 exact tattingref09_Close_w0
                ·rw [if_neg c32] at H
                 have c32b0 : (a2 == 258) = false := beq_eq_false_iff_ne.mpr c32
                 have c32b1 : (a2 != 258) = true := bne_iff_ne.mpr c32
                 by_cases c35 : ((rd_T64 l0_0 x9_2).f0) = 5
                 ·rw [if_pos c35] at H
                  have c35b0 : (((rd_T64 l0_0 x9_2).f0) == 5) = true := beq_iff_eq.mpr c35
                  have c35b1 : (((rd_T64 l0_0 x9_2).f0) != 5) = false := bne_eq_false_iff_eq.mpr c35
                  clear c35
                  by_cases c36 : a2 = 257
                  ·rw [if_pos c36] at H
                   have c36b0 : (a2 == 257) = true := beq_iff_eq.mpr c36
                   have c36b1 : (a2 != 257) = false := bne_eq_false_iff_eq.mpr c36
                   clear c36
                   have H' := Aside0.mk H
                   clear H
                   have hnb37 := NB109_101.out
                   have hnc37 := NB101_109.out
                   exact tattingref09_Close_w0
                  ·rw [if_neg c36] at H
                   have c36b0 : (a2 == 257) = false := beq_eq_false_iff_ne.mpr c36
                   have c36b1 : (a2 != 257) = true := bne_iff_ne.mpr c36
                   have H' := Aside0.mk H
                   clear H
                   have hnb39 := NB109_101.out
                   have hnc39 := NB101_109.out
                   exact tattingref09_Close_w1
                 ·rw [if_neg c35] at H
                  have c35b0 : (((rd_T64 l0_0 x9_2).f0) == 5) = false := beq_eq_false_iff_ne.mpr c35
                  have c35b1 : (((rd_T64 l0_0 x9_2).f0) != 5) = true := bne_iff_ne.mpr c35
                  have H' := Aside0.mk H
                  clear H
                  have hnb41 := NB109_101.out
                  have hnc41 := NB101_109.out
                  exact tattingref09_Close_w2
              ·rw [if_neg c28] at H
               have c28b0 : (((rd_T64 l0_0 x9_2).f0) == 4) = false := beq_eq_false_iff_ne.mpr c28
               have c28b1 : (((rd_T64 l0_0 x9_2).f0) != 4) = true := bne_iff_ne.mpr c28
               by_cases c43 : ((rd_T64 l0_0 x9_2).f0) = 5
               ·rw [if_pos c43] at H
                have c43b0 : (((rd_T64 l0_0 x9_2).f0) == 5) = true := beq_iff_eq.mpr c43
                have c43b1 : (((rd_T64 l0_0 x9_2).f0) != 5) = false := bne_eq_false_iff_eq.mpr c43
                clear c43
                by_cases c44 : a2 = 257
                ·rw [if_pos c44] at H
                 have c44b0 : (a2 == 257) = true := beq_iff_eq.mpr c44
                 have c44b1 : (a2 != 257) = false := bne_eq_false_iff_eq.mpr c44
                 clear c44
                 have H' := Aside0.mk H
                 clear H
                 have hnb45 := NB109_101.out
                 have hnc45 := NB101_109.out
                 exact tattingref09_Close_w0
                ·rw [if_neg c44] at H
                 have c44b0 : (a2 == 257) = false := beq_eq_false_iff_ne.mpr c44
                 have c44b1 : (a2 != 257) = true := bne_iff_ne.mpr c44
                 have H' := Aside0.mk H
                 clear H
                 have hnb47 := NB109_101.out
                 have hnc47 := NB101_109.out
                 exact tattingref09_Close_w1
               ·rw [if_neg c43] at H
                have c43b0 : (((rd_T64 l0_0 x9_2).f0) == 5) = false := beq_eq_false_iff_ne.mpr c43
                have c43b1 : (((rd_T64 l0_0 x9_2).f0) != 5) = true := bne_iff_ne.mpr c43
                have H' := Aside0.mk H
                clear H
                have hnb49 := NB109_101.out
                have hnc49 := NB101_109.out
                exact tattingref09_Close_w2
           case rest =>
            clear HC16
            try clear c1
            try clear p1
            try clear q1
            try clear hx1
            try clear c2
            try clear p2
            try clear c3
            try clear c4
            try clear p6
            try clear c9
            try clear c9b0
            try clear p10
            try clear q10
            try clear hx10
            try clear c11
            try clear c11b0
            try clear p11
            try clear q11
            try clear hx11
            try clear c12
            try clear c12b0
            try clear c13
            try clear c13b0
            try clear q14
            try clear c15
            try clear c19
            try clear c22
            try clear c22b0
            try clear c22b1
            try clear c23
            try clear c25
            try clear c25b0
            try clear c25b1
            try clear c26
            try clear c28
            try clear c28b0
            try clear c28b1
            try clear c29
            try clear c29b0
            try clear c29b1
            try clear c30
            try clear c32
            try clear c32b0
            try clear c32b1
            try clear c33
            try clear c35
            try clear c35b0
            try clear c35b1
            try clear c36
            try clear c36b0
            try clear c36b1
            try clear c37
            try clear c39
            try clear c41
            try clear c43
            try clear c43b0
            try clear c43b1
            try clear c44
            try clear c44b0
            try clear c44b1
            try clear c45
            try clear c47
            try clear c49
            try clear hcz10_0
            try clear hcz10_1
            try clear hcz10_2
            try clear hcz17_0
            try clear hcz17_1
            try clear hcz17_2
            try clear hcz20_0
            try clear hcz20_1
            try clear hcz20_2
            try clear hcz20_3
            try clear hcz20_4
            try clear hcz20_5
            try clear hcz20_6
            try clear hcz24_0
            try clear hcz24_1
            try clear hcz24_2
            try clear hcz24_3
            try clear hcz24_4
            try clear hcz24_5
            try clear hcz24_6
            try clear hcz27_0
            try clear hcz27_1
            try clear hcz27_2
            try clear hcz27_3
            try clear hcz27_4
            try clear hcz27_5
            try clear hcz27_6
            try clear hcz31_0
            try clear hcz31_1
            try clear hcz31_2
            try clear hcz31_3
            try clear hcz31_4
            try clear hcz31_5
            try clear hcz31_6
            try clear hcz34_0
            try clear hcz34_1
            try clear hcz34_2
            try clear hcz34_3
            try clear hcz34_4
            try clear hcz34_5
            try clear hcz34_6
            try clear hcz38_0
            try clear hcz38_1
            try clear hcz38_2
            try clear hcz38_3
            try clear hcz38_4
            try clear hcz38_5
            try clear hcz38_6
            try clear hcz40_0
            try clear hcz40_1
            try clear hcz40_2
            try clear hcz40_3
            try clear hcz40_4
            try clear hcz40_5
            try clear hcz40_6
            try clear hcz42_0
            try clear hcz42_1
            try clear hcz42_2
            try clear hcz42_3
            try clear hcz42_4
            try clear hcz42_5
            try clear hcz42_6
            try clear hcz46_0
            try clear hcz46_1
            try clear hcz46_2
            try clear hcz46_3
            try clear hcz46_4
            try clear hcz46_5
            try clear hcz46_6
            try clear hcz48_0
            try clear hcz48_1
            try clear hcz48_2
            try clear hcz48_3
            try clear hcz48_4
            try clear hcz48_5
            try clear hcz48_6
            try clear hcz50_0
            try clear hcz50_1
            try clear hcz50_2
            try clear hcz50_3
            try clear hcz50_4
            try clear hcz50_5
            try clear hcz50_6
            try clear hfz10_0
            try clear hfz10_1
            try clear hfz10_2
            try clear hfz17_0
            try clear hfz17_1
            try clear hfz17_2
            try clear hfz20_0
            try clear hfz20_1
            try clear hfz20_2
            try clear hfz20_3
            try clear hfz20_4
            try clear hfz20_5
            try clear hfz20_6
            try clear hfz24_0
            try clear hfz24_1
            try clear hfz24_2
            try clear hfz24_3
            try clear hfz24_4
            try clear hfz24_5
            try clear hfz24_6
            try clear hfz27_0
            try clear hfz27_1
            try clear hfz27_2
            try clear hfz27_3
            try clear hfz27_4
            try clear hfz27_5
            try clear hfz27_6
            try clear hfz31_0
            try clear hfz31_1
            try clear hfz31_2
            try clear hfz31_3
            try clear hfz31_4
            try clear hfz31_5
            try clear hfz31_6
            try clear hfz34_0
            try clear hfz34_1
            try clear hfz34_2
            try clear hfz34_3
            try clear hfz34_4
            try clear hfz34_5
            try clear hfz34_6
            try clear hfz38_0
            try clear hfz38_1
            try clear hfz38_2
            try clear hfz38_3
            try clear hfz38_4
            try clear hfz38_5
            try clear hfz38_6
            try clear hfz40_0
            try clear hfz40_1
            try clear hfz40_2
            try clear hfz40_3
            try clear hfz40_4
            try clear hfz40_5
            try clear hfz40_6
            try clear hfz42_0
            try clear hfz42_1
            try clear hfz42_2
            try clear hfz42_3
            try clear hfz42_4
            try clear hfz42_5
            try clear hfz42_6
            try clear hfz46_0
            try clear hfz46_1
            try clear hfz46_2
            try clear hfz46_3
            try clear hfz46_4
            try clear hfz46_5
            try clear hfz46_6
            try clear hfz48_0
            try clear hfz48_1
            try clear hfz48_2
            try clear hfz48_3
            try clear hfz48_4
            try clear hfz48_5
            try clear hfz48_6
            try clear hfz50_0
            try clear hfz50_1
            try clear hfz50_2
            try clear hfz50_3
            try clear hfz50_4
            try clear hfz50_5
            try clear hfz50_6
            try clear hx108_0
            try clear hx108_1
            try clear hx108_2
            try clear hx108_3
            try clear hx108_4
            try clear hx108_5
            try clear hx108_6
            try clear hx110_0
            try clear p108
            try clear p110
            try clear p2
            try clear q108
            try clear q110
            obtain ⟨kq, x71_15, rfl, HA, HJ15, HO_7, BK101, BK109, HB⟩ := hcut
            cases kq with
            | zero => exact absurd HA.out (by simp [tattingref09_Close.j2])
            | succ kj15 =>
             have H := HA.out
             clear HA
             simp only [tattingref09_Close.j2] at H
             by_cases c51 : x71_15 = true
             ·subst c51
              have H1 : (if 0 ≤ ((rd_T64 l0_0 x9_2).f1) then (if ((rd_T64 l0_0 x9_2).f1) < (x7_2.length : Int) then ((some (x7_2.set (((rd_T64 l0_0 x9_2).f1) : Int).toNat true : List Bool)).bind fun y111 => (if ((rd_T64 l0_0 x9_2).f0) = 3 then (if 0 ≤ ((rd_T64 l0_0 x9_2).f2) then (if ((rd_T64 l0_0 x9_2).f2) < (x7_2.length : Int) then (tattingref09_Close.l1 kj15 a2 (y111.set (((rd_T64 l0_0 x9_2).f2) : Int).toNat true) x8_1 (wrap64 (x9_2 + 1)) l0_0 a0_1 a0_2) else (none)) else (none)) else (tattingref09_Close.l1 kj15 a2 y111 x8_1 (wrap64 (x9_2 + 1)) l0_0 a0_1 a0_2))) else (none)) else (none)) = some r := by rw [if_pos rfl] at H; exact H
              clear H
              have H := H1
              clear H1
              by_cases c52 : 0 ≤ ((rd_T64 l0_0 x9_2).f1)
              ·rw [if_pos c52] at H
               have c52b0 : decide (0 ≤ ((rd_T64 l0_0 x9_2).f1)) = true := decide_eq_true c52
               clear c52
               by_cases c53 : ((rd_T64 l0_0 x9_2).f1) < (x7_2.length : Int)
               ·rw [if_pos c53] at H
                have c53b0 : decide (((rd_T64 l0_0 x9_2).f1) < (x7_2.length : Int)) = true := decide_eq_true c53
                clear c53
                obtain ⟨y111, hy111⟩ : ∃ y_ : List Bool, y_ = (x7_2.set (((rd_T64 l0_0 x9_2).f1) : Int).toNat true) := ⟨_, rfl⟩
                replace H : (if ((rd_T64 l0_0 x9_2).f0) = 3 then (if 0 ≤ ((rd_T64 l0_0 x9_2).f2) then (if ((rd_T64 l0_0 x9_2).f2) < (x7_2.length : Int) then (tattingref09_Close.l1 kj15 a2 (y111.set (((rd_T64 l0_0 x9_2).f2) : Int).toNat true) x8_1 (wrap64 (x9_2 + 1)) l0_0 a0_1 a0_2) else (none)) else (none)) else (tattingref09_Close.l1 kj15 a2 y111 x8_1 (wrap64 (x9_2 + 1)) l0_0 a0_1 a0_2)) = some r := by first | (rw [hy111]; with_reducible exact H) | (have H2_ := (Option.bind_some _ _).symm.trans H; rw [hy111]; with_reducible exact H2_) | (have H2_ := (Option.bind_some _ _).symm.trans H; with_reducible exact H2_) | with_reducible exact H | (rw [hy111]; exact H) | exact H
                have Ny111 := Aside0.mk hy111
                clear hy111
                by_cases c55 : ((rd_T64 l0_0 x9_2).f0) = 3
                ·rw [if_pos c55] at H
                 have c55b0 : (((rd_T64 l0_0 x9_2).f0) == 3) = true := beq_iff_eq.mpr c55
                 have c55b1 : (((rd_T64 l0_0 x9_2).f0) != 3) = false := bne_eq_false_iff_eq.mpr c55
                 clear c55
                 by_cases c56 : 0 ≤ ((rd_T64 l0_0 x9_2).f2)
                 ·rw [if_pos c56] at H
                  have c56b0 : decide (0 ≤ ((rd_T64 l0_0 x9_2).f2)) = true := decide_eq_true c56
                  clear c56
                  by_cases c57 : ((rd_T64 l0_0 x9_2).f2) < (x7_2.length : Int)
                  ·rw [if_pos c57] at H
                   have c57b0 : decide (((rd_T64 l0_0 x9_2).f2) < (x7_2.length : Int)) = true := decide_eq_true c57
                   clear c57
                   obtain ⟨y112, hy112⟩ : ∃ y_ : List Bool, y_ = (y111.set (((rd_T64 l0_0 x9_2).f2) : Int).toNat true) := ⟨_, rfl⟩
                   replace H : (tattingref09_Close.l1 kj15 a2 y112 x8_1 (wrap64 (x9_2 + 1)) l0_0 a0_1 a0_2) = some r := by first | (rw [hy112]; with_reducible exact H) | (have H2_ := (Option.bind_some _ _).symm.trans H; rw [hy112]; with_reducible exact H2_) | (have H2_ := (Option.bind_some _ _).symm.trans H; with_reducible exact H2_) | with_reducible exact H | (rw [hy112]; exact H) | exact H
                   have Ny112 := Aside0.mk hy112
                   clear hy112
                   have H' := Aside0.mk H
                   clear H
                   have hnb59 := NB109_101.out
                   have hnc59 := NB101_109.out
                   have hcz60_0 : wc.cell? ⟨gb109, 0, none⟩ = some (.int .i64 ((rd_T64 l0_0 x9_2).f0)) := (blk_cell BK109.out 0).trans rfl
                   have hcz60_1 : wc.cell? ⟨gb109, 1, none⟩ = some (.int .i64 ((rd_T64 l0_0 x9_2).f1)) := (blk_cell BK109.out 1).trans rfl
                   have hcz60_2 : wc.cell? ⟨gb109, 2, none⟩ = some (.int .i64 ((rd_T64 l0_0 x9_2).f2)) := (blk_cell BK109.out 2).trans rfl
                   have hcz60_3 : wc.cell? ⟨gb109, 3, none⟩ = some (.int .u64 ((rd_T64 l0_0 x9_2).f3.f0)) := (blk_cell BK109.out 3).trans rfl
                   have hcz60_4 : wc.cell? ⟨gb109, 4, none⟩ = some (.int .u64 ((rd_T64 l0_0 x9_2).f3.f1)) := (blk_cell BK109.out 4).trans rfl
                   have hcz60_5 : wc.cell? ⟨gb109, 5, none⟩ = some (.int .u64 ((rd_T64 l0_0 x9_2).f3.f2)) := (blk_cell BK109.out 5).trans rfl
                   have hcz60_6 : wc.cell? ⟨gb109, 6, none⟩ = some (.int .u64 ((rd_T64 l0_0 x9_2).f3.f3)) := (blk_cell BK109.out 6).trans rfl
                   have hfz60_0 := blk_frozen BK109.out 0
                   have hfz60_1 := blk_frozen BK109.out 1
                   have hfz60_2 := blk_frozen BK109.out 2
                   have hfz60_3 := blk_frozen BK109.out 3
                   have hfz60_4 := blk_frozen BK109.out 4
                   have hfz60_5 := blk_frozen BK109.out 5
                   have hfz60_6 := blk_frozen BK109.out 6
                   have p54 : 0 ≤ (((rd_T64 l0_0 x9_2).f1) : Int) := of_decide_eq_true tat09Close_t2
                   have q54 : (((rd_T64 l0_0 x9_2).f1) : Int) < ((x7_2.length : Int) : Int) := of_decide_eq_true tat09Close_t2
                   obtain ⟨go54, co54, eo54, gb54, gl54, cl54, HG54⟩ := Kd.R_form HO_7.out (by omega)
                   (first | cases eo54 | (injection eo54 with ea_ en_ ec_; (first | subst ea_ | (injection ea_ with ea_; subst ea_)); subst ec_; clear en_))
                   have GB54 := Aside0.mk gb54
                   have GG54 := Aside0.mk HG54
                   clear gb54 gl54 HG54
                   (first | simp only [add_plain] at hx110_0 | skip)
                   obtain ⟨hx54_0, hf54_0⟩ := Kd.R_celln false HO_7.out (((rd_T64 l0_0 x9_2).f1) : Int) p54 q54
                   replace p54 := eq_true p54
                   replace q54 := eq_true q54
                   have HP61 := Kd.R_putg HO_7.out (((rd_T64 l0_0 x9_2).f1) : Int) true
                   go_wp2_with (first | ((with_reducible refine gate_store (t := 4) (p := 75) rfl ?_); refine store_event (t := 4) (p := 75) (v := ?vo_w62) (w1 := (wc.setCell ⟨go54, (((rd_T64 l0_0 x9_2).f1) : Int).toNat, none⟩ (.bool true))) ?hg ?ho ?hn ?hr ?_; (case ho => rfl); (case hg => rfl); (case hn => rfl); (case hr => first | (go_simp; done) | (go_simp; rfl)); intro w62 hw; have hg : wc.grownBy w62 (some go54) := (by rw [hw]; exact HP61.2); have hp_ : Kd.R Kd.bool 4 w62 w.heap.size (fun _ => True) (.slice (some ⟨go54, 0, none⟩) x7_2.length co21) y111 := (by rw [hw, Ny111.out]; exact HP61.1); clear HP61; have n0_ := Aside0.mk (hp_); have n1_ := Aside0.mk (blk_grown (g := gb101) (o := .cells #[.slice (some ad108) l0_0.length c0_0, .int .i64 a0_1, .int .i64 a0_2] 24 (0, 0)) tat09Close_t1 hg (Kd.R_ne HO_7.out BK101.out (by decide))); have n2_ := Aside0.mk (blk_grown (g := gb109) (o := .cells #[.int .i64 ((rd_T64 l0_0 x9_2).f0), .int .i64 ((rd_T64 l0_0 x9_2).f1), .int .i64 ((rd_T64 l0_0 x9_2).f2), .int .u64 ((rd_T64 l0_0 x9_2).f3.f0), .int .u64 ((rd_T64 l0_0 x9_2).f3.f1), .int .u64 ((rd_T64 l0_0 x9_2).f3.f2), .int .u64 ((rd_T64 l0_0 x9_2).f3.f3)] 64 (0, 0)) tat09Close_t4 hg (Kd.R_ne HO_7.out BK109.out (by decide))); have n3_ := Aside0.mk ((by rw [hw]; exact below_set (HB.out) GB54.out : Below w.heap.size w w62)); clear HO_7; clear BK101; clear BK109; clear HB; have HO_7 := n0_; have BK101 := n1_; have BK109 := n2_; have HB := n3_; clear n0_ n1_ n2_ n3_; clear hg hw hp_; have hcz63_0 : w62.cell? ⟨gb109, 0, none⟩ = some (.int .i64 ((rd_T64 l0_0 x9_2).f0)) := (blk_cell BK109.out 0).trans rfl; have hcz63_1 : w62.cell? ⟨gb109, 1, none⟩ = some (.int .i64 ((rd_T64 l0_0 x9_2).f1)) := (blk_cell BK109.out 1).trans rfl; have hcz63_2 : w62.cell? ⟨gb109, 2, none⟩ = some (.int .i64 ((rd_T64 l0_0 x9_2).f2)) := (blk_cell BK109.out 2).trans rfl; have hcz63_3 : w62.cell? ⟨gb109, 3, none⟩ = some (.int .u64 ((rd_T64 l0_0 x9_2).f3.f0)) := (blk_cell BK109.out 3).trans rfl; have hcz63_4 : w62.cell? ⟨gb109, 4, none⟩ = some (.int .u64 ((rd_T64 l0_0 x9_2).f3.f1)) := (blk_cell BK109.out 4).trans rfl; have hcz63_5 : w62.cell? ⟨gb109, 5, none⟩ = some (.int .u64 ((rd_T64 l0_0 x9_2).f3.f2)) := (blk_cell BK109.out 5).trans rfl; have hcz63_6 : w62.cell? ⟨gb109, 6, none⟩ = some (.int .u64 ((rd_T64 l0_0 x9_2).f3.f3)) := (blk_cell BK109.out 6).trans rfl; have hfz63_0 := blk_frozen BK109.out 0; have hfz63_1 := blk_frozen BK109.out 1; have hfz63_2 := blk_frozen BK109.out 2; have hfz63_3 := blk_frozen BK109.out 3; have hfz63_4 := blk_frozen BK109.out 4; have hfz63_5 := blk_frozen BK109.out 5; have hfz63_6 := blk_frozen BK109.out 6; have p58 : 0 ≤ (((rd_T64 l0_0 x9_2).f2) : Int) := of_decide_eq_true tat09Close_t2; have q58 : (((rd_T64 l0_0 x9_2).f2) : Int) < ((x7_2.length : Int) : Int) := of_decide_eq_true tat09Close_t2; obtain ⟨hx58_0, hf58_0⟩ := Kd.R_celln false HO_7.out (((rd_T64 l0_0 x9_2).f2) : Int) p58 q58; replace p58 := eq_true p58; replace q58 := eq_true q58; obtain ⟨hy64_, hz64_⟩ := Kd.R_celln false HO_7.out (((rd_T64 l0_0 x9_2).f2) : Int) (of_decide_eq_true tat09Close_t2) (of_decide_eq_true tat09Close_t2); have HP64 := Kd.R_putg HO_7.out (((rd_T64 l0_0 x9_2).f2) : Int) true) | ((with_reducible refine gate_store (t := 4) (p := 82) rfl ?_); refine store_event (t := 4) (p := 82) (v := ?vo_w65) (w1 := (w62.setCell ⟨go54, (((rd_T64 l0_0 x9_2).f2) : Int).toNat, none⟩ (.bool true))) ?hg ?ho ?hn ?hr ?_; (case ho => rfl); (case hg => rfl); (case hn => rfl); (case hr => first | (go_simp; done) | (go_simp; rfl)); intro w65 hw; have hg : w62.grownBy w65 (some go54) := (by rw [hw]; exact HP64.2); have hp_ : Kd.R Kd.bool 4 w65 w.heap.size (fun _ => True) (.slice (some ⟨go54, 0, none⟩) x7_2.length co21) y112 := (by rw [hw, Ny112.out]; exact HP64.1); clear HP64; have n0_ := Aside0.mk (hp_); have n1_ := Aside0.mk (blk_grown (g := gb101) (o := .cells #[.slice (some ad108) l0_0.length c0_0, .int .i64 a0_1, .int .i64 a0_2] 24 (0, 0)) tat09Close_t1 hg (Kd.R_ne HO_7.out BK101.out (by decide))); have n2_ := Aside0.mk (blk_grown (g := gb109) (o := .cells #[.int .i64 ((rd_T64 l0_0 x9_2).f0), .int .i64 ((rd_T64 l0_0 x9_2).f1), .int .i64 ((rd_T64 l0_0 x9_2).f2), .int .u64 ((rd_T64 l0_0 x9_2).f3.f0), .int .u64 ((rd_T64 l0_0 x9_2).f3.f1), .int .u64 ((rd_T64 l0_0 x9_2).f3.f2), .int .u64 ((rd_T64 l0_0 x9_2).f3.f3)] 64 (0, 0)) tat09Close_t4 hg (Kd.R_ne HO_7.out BK109.out (by decide))); have n3_ := Aside0.mk ((by rw [hw]; exact below_set (HB.out) GB54.out : Below w.heap.size w w65)); clear HO_7; clear BK101; clear BK109; clear HB; have HO_7 := n0_; have BK101 := n1_; have BK109 := n2_; have HB := n3_; clear n0_ n1_ n2_ n3_; clear hg hw hp_))
                   go_roundg kj15
                   case measure => have := HK1.out; have := HK2.out; have := HJ15.out; omega
                   case rel => exact ⟨(y112), (wrap64 (x9_2 + 1)), tat09Close_t3, H', ⟨by have := HK1.out; have := HK2.out; have := HJ15.out; omega⟩, ⟨by (with_reducible repeat (first | apply Kd.R_alloc | apply Kd.R_drewN | apply Kd.R_drew)); exact HO_7.out⟩, ⟨by (with_reducible repeat (first | refine blk_drewN ?_ _ | refine blk_drew ?_ | refine blk_alloc ?_ _)); exact BK101.out⟩, ⟨by repeat (first | (with_reducible first | exact HB.out | apply below_alloc | apply pw_below_drewN | apply below_drew1 | refine below_set ?_ GE101.out | refine below_set ?_ GE109.out) | exact HB.out)⟩⟩
                  ·rw [if_neg c57] at H
                   exact absurd H (by simp)
                 ·rw [if_neg c56] at H
                  exact absurd H (by simp)
                ·rw [if_neg c55] at H
                 have c55b0 : (((rd_T64 l0_0 x9_2).f0) == 3) = false := beq_eq_false_iff_ne.mpr c55
                 have c55b1 : (((rd_T64 l0_0 x9_2).f0) != 3) = true := bne_iff_ne.mpr c55
                 have H' := Aside0.mk H
                 clear H
                 have hnb66 := NB109_101.out
                 have hnc66 := NB101_109.out
                 have hcz67_0 : wc.cell? ⟨gb109, 0, none⟩ = some (.int .i64 ((rd_T64 l0_0 x9_2).f0)) := (blk_cell BK109.out 0).trans rfl
                 have hcz67_1 : wc.cell? ⟨gb109, 1, none⟩ = some (.int .i64 ((rd_T64 l0_0 x9_2).f1)) := (blk_cell BK109.out 1).trans rfl
                 have hcz67_2 : wc.cell? ⟨gb109, 2, none⟩ = some (.int .i64 ((rd_T64 l0_0 x9_2).f2)) := (blk_cell BK109.out 2).trans rfl
                 have hcz67_3 : wc.cell? ⟨gb109, 3, none⟩ = some (.int .u64 ((rd_T64 l0_0 x9_2).f3.f0)) := (blk_cell BK109.out 3).trans rfl
                 have hcz67_4 : wc.cell? ⟨gb109, 4, none⟩ = some (.int .u64 ((rd_T64 l0_0 x9_2).f3.f1)) := (blk_cell BK109.out 4).trans rfl
                 have hcz67_5 : wc.cell? ⟨gb109, 5, none⟩ = some (.int .u64 ((rd_T64 l0_0 x9_2).f3.f2)) := (blk_cell BK109.out 5).trans rfl
                 have hcz67_6 : wc.cell? ⟨gb109, 6, none⟩ = some (.int .u64 ((rd_T64 l0_0 x9_2).f3.f3)) := (blk_cell BK109.out 6).trans rfl
                 have hfz67_0 := blk_frozen BK109.out 0
                 have hfz67_1 := blk_frozen BK109.out 1
                 have hfz67_2 := blk_frozen BK109.out 2
                 have hfz67_3 := blk_frozen BK109.out 3
                 have hfz67_4 := blk_frozen BK109.out 4
                 have hfz67_5 := blk_frozen BK109.out 5
                 have hfz67_6 := blk_frozen BK109.out 6
                 have p54 : 0 ≤ (((rd_T64 l0_0 x9_2).f1) : Int) := of_decide_eq_true tat09Close_t2
                 have q54 : (((rd_T64 l0_0 x9_2).f1) : Int) < ((x7_2.length : Int) : Int) := of_decide_eq_true tat09Close_t2
                 obtain ⟨go54, co54, eo54, gb54, gl54, cl54, HG54⟩ := Kd.R_form HO_7.out (by omega)
                 (first | cases eo54 | (injection eo54 with ea_ en_ ec_; (first | subst ea_ | (injection ea_ with ea_; subst ea_)); subst ec_; clear en_))
                 have GB54 := Aside0.mk gb54
                 have GG54 := Aside0.mk HG54
                 clear gb54 gl54 HG54
                 obtain ⟨hx54_0, hf54_0⟩ := Kd.R_celln false HO_7.out (((rd_T64 l0_0 x9_2).f1) : Int) p54 q54
                 replace p54 := eq_true p54
                 replace q54 := eq_true q54
                 have HP68 := Kd.R_putg HO_7.out (((rd_T64 l0_0 x9_2).f1) : Int) true
                 go_wp2_with (first | ((with_reducible refine gate_store (t := 4) (p := 75) rfl ?_); refine store_event (t := 4) (p := 75) (v := ?vo_w69) (w1 := (wc.setCell ⟨go54, (((rd_T64 l0_0 x9_2).f1) : Int).toNat, none⟩ (.bool true))) ?hg ?ho ?hn ?hr ?_; (case ho => rfl); (case hg => rfl); (case hn => rfl); (case hr => first | (go_simp; done) | (go_simp; rfl)); intro w69 hw; have hg : wc.grownBy w69 (some go54) := (by rw [hw]; exact HP68.2); have hp_ : Kd.R Kd.bool 4 w69 w.heap.size (fun _ => True) (.slice (some ⟨go54, 0, none⟩) x7_2.length co21) y111 := (by rw [hw, Ny111.out]; exact HP68.1); clear HP68; have n0_ := Aside0.mk (hp_); have n1_ := Aside0.mk (blk_grown (g := gb101) (o := .cells #[.slice (some ad108) l0_0.length c0_0, .int .i64 a0_1, .int .i64 a0_2] 24 (0, 0)) tat09Close_t1 hg (Kd.R_ne HO_7.out BK101.out (by decide))); have n2_ := Aside0.mk (blk_grown (g := gb109) (o := .cells #[.int .i64 ((rd_T64 l0_0 x9_2).f0), .int .i64 ((rd_T64 l0_0 x9_2).f1), .int .i64 ((rd_T64 l0_0 x9_2).f2), .int .u64 ((rd_T64 l0_0 x9_2).f3.f0), .int .u64 ((rd_T64 l0_0 x9_2).f3.f1), .int .u64 ((rd_T64 l0_0 x9_2).f3.f2), .int .u64 ((rd_T64 l0_0 x9_2).f3.f3)] 64 (0, 0)) tat09Close_t4 hg (Kd.R_ne HO_7.out BK109.out (by decide))); have n3_ := Aside0.mk ((by rw [hw]; exact below_set (HB.out) GB54.out : Below w.heap.size w w69)); clear HO_7; clear BK101; clear BK109; clear HB; have HO_7 := n0_; have BK101 := n1_; have BK109 := n2_; have HB := n3_; clear n0_ n1_ n2_ n3_; clear hg hw hp_; have hcz70_0 : w69.cell? ⟨gb109, 0, none⟩ = some (.int .i64 ((rd_T64 l0_0 x9_2).f0)) := (blk_cell BK109.out 0).trans rfl; have hcz70_1 : w69.cell? ⟨gb109, 1, none⟩ = some (.int .i64 ((rd_T64 l0_0 x9_2).f1)) := (blk_cell BK109.out 1).trans rfl; have hcz70_2 : w69.cell? ⟨gb109, 2, none⟩ = some (.int .i64 ((rd_T64 l0_0 x9_2).f2)) := (blk_cell BK109.out 2).trans rfl; have hcz70_3 : w69.cell? ⟨gb109, 3, none⟩ = some (.int .u64 ((rd_T64 l0_0 x9_2).f3.f0)) := (blk_cell BK109.out 3).trans rfl; have hcz70_4 : w69.cell? ⟨gb109, 4, none⟩ = some (.int .u64 ((rd_T64 l0_0 x9_2).f3.f1)) := (blk_cell BK109.out 4).trans rfl; have hcz70_5 : w69.cell? ⟨gb109, 5, none⟩ = some (.int .u64 ((rd_T64 l0_0 x9_2).f3.f2)) := (blk_cell BK109.out 5).trans rfl; have hcz70_6 : w69.cell? ⟨gb109, 6, none⟩ = some (.int .u64 ((rd_T64 l0_0 x9_2).f3.f3)) := (blk_cell BK109.out 6).trans rfl; have hfz70_0 := blk_frozen BK109.out 0; have hfz70_1 := blk_frozen BK109.out 1; have hfz70_2 := blk_frozen BK109.out 2; have hfz70_3 := blk_frozen BK109.out 3; have hfz70_4 := blk_frozen BK109.out 4; have hfz70_5 := blk_frozen BK109.out 5; have hfz70_6 := blk_frozen BK109.out 6))
                 go_roundg kj15
                 case measure => have := HK1.out; have := HK2.out; have := HJ15.out; omega
                 case rel => exact ⟨(y111), (wrap64 (x9_2 + 1)), tat09Close_t3, H', ⟨by have := HK1.out; have := HK2.out; have := HJ15.out; omega⟩, ⟨by (with_reducible repeat (first | apply Kd.R_alloc | apply Kd.R_drewN | apply Kd.R_drew)); exact HO_7.out⟩, ⟨by (with_reducible repeat (first | refine blk_drewN ?_ _ | refine blk_drew ?_ | refine blk_alloc ?_ _)); exact BK101.out⟩, ⟨by repeat (first | (with_reducible first | exact HB.out | apply below_alloc | apply pw_below_drewN | apply below_drew1 | refine below_set ?_ GE101.out | refine below_set ?_ GE109.out) | exact HB.out)⟩⟩
               ·rw [if_neg c53] at H
                exact absurd H (by simp)
              ·rw [if_neg c52] at H
               exact absurd H (by simp)
             ·replace c51 := Bool.eq_false_iff.mpr c51
              subst c51
              have H1 : (if ((rd_T64 l0_0 x9_2).f0) = 3 then (if 0 ≤ ((rd_T64 l0_0 x9_2).f2) then (if ((rd_T64 l0_0 x9_2).f2) < (x7_2.length : Int) then (tattingref09_Close.l1 kj15 a2 (x7_2.set (((rd_T64 l0_0 x9_2).f2) : Int).toNat true) x8_1 (wrap64 (x9_2 + 1)) l0_0 a0_1 a0_2) else (none)) else (none)) else (tattingref09_Close.l1 kj15 a2 x7_2 x8_1 (wrap64 (x9_2 + 1)) l0_0 a0_1 a0_2)) = some r := by rw [if_neg (show ¬ (false = true) by decide)] at H; exact H
              clear H
              have H := H1
              clear H1
              by_cases c71 : ((rd_T64 l0_0 x9_2).f0) = 3
              ·rw [if_pos c71] at H
               have c71b0 : (((rd_T64 l0_0 x9_2).f0) == 3) = true := beq_iff_eq.mpr c71
               have c71b1 : (((rd_T64 l0_0 x9_2).f0) != 3) = false := bne_eq_false_iff_eq.mpr c71
               clear c71
               by_cases c72 : 0 ≤ ((rd_T64 l0_0 x9_2).f2)
               ·rw [if_pos c72] at H
                have c72b0 : decide (0 ≤ ((rd_T64 l0_0 x9_2).f2)) = true := decide_eq_true c72
                clear c72
                by_cases c73 : ((rd_T64 l0_0 x9_2).f2) < (x7_2.length : Int)
                ·rw [if_pos c73] at H
                 have c73b0 : decide (((rd_T64 l0_0 x9_2).f2) < (x7_2.length : Int)) = true := decide_eq_true c73
                 clear c73
                 obtain ⟨y113, hy113⟩ : ∃ y_ : List Bool, y_ = (x7_2.set (((rd_T64 l0_0 x9_2).f2) : Int).toNat true) := ⟨_, rfl⟩
                 replace H : (tattingref09_Close.l1 kj15 a2 y113 x8_1 (wrap64 (x9_2 + 1)) l0_0 a0_1 a0_2) = some r := by first | (rw [hy113]; with_reducible exact H) | (have H2_ := (Option.bind_some _ _).symm.trans H; rw [hy113]; with_reducible exact H2_) | (have H2_ := (Option.bind_some _ _).symm.trans H; with_reducible exact H2_) | with_reducible exact H | (rw [hy113]; exact H) | exact H
                 have Ny113 := Aside0.mk hy113
                 clear hy113
                 have H' := Aside0.mk H
                 clear H
                 have hnb75 := NB109_101.out
                 have hnc75 := NB101_109.out
                 have hcz76_0 : wc.cell? ⟨gb109, 0, none⟩ = some (.int .i64 ((rd_T64 l0_0 x9_2).f0)) := (blk_cell BK109.out 0).trans rfl
                 have hcz76_1 : wc.cell? ⟨gb109, 1, none⟩ = some (.int .i64 ((rd_T64 l0_0 x9_2).f1)) := (blk_cell BK109.out 1).trans rfl
                 have hcz76_2 : wc.cell? ⟨gb109, 2, none⟩ = some (.int .i64 ((rd_T64 l0_0 x9_2).f2)) := (blk_cell BK109.out 2).trans rfl
                 have hcz76_3 : wc.cell? ⟨gb109, 3, none⟩ = some (.int .u64 ((rd_T64 l0_0 x9_2).f3.f0)) := (blk_cell BK109.out 3).trans rfl
                 have hcz76_4 : wc.cell? ⟨gb109, 4, none⟩ = some (.int .u64 ((rd_T64 l0_0 x9_2).f3.f1)) := (blk_cell BK109.out 4).trans rfl
                 have hcz76_5 : wc.cell? ⟨gb109, 5, none⟩ = some (.int .u64 ((rd_T64 l0_0 x9_2).f3.f2)) := (blk_cell BK109.out 5).trans rfl
                 have hcz76_6 : wc.cell? ⟨gb109, 6, none⟩ = some (.int .u64 ((rd_T64 l0_0 x9_2).f3.f3)) := (blk_cell BK109.out 6).trans rfl
                 have hfz76_0 := blk_frozen BK109.out 0
                 have hfz76_1 := blk_frozen BK109.out 1
                 have hfz76_2 := blk_frozen BK109.out 2
                 have hfz76_3 := blk_frozen BK109.out 3
                 have hfz76_4 := blk_frozen BK109.out 4
                 have hfz76_5 := blk_frozen BK109.out 5
                 have hfz76_6 := blk_frozen BK109.out 6
                 have p74 : 0 ≤ (((rd_T64 l0_0 x9_2).f2) : Int) := of_decide_eq_true tat09Close_t2
                 have q74 : (((rd_T64 l0_0 x9_2).f2) : Int) < ((x7_2.length : Int) : Int) := of_decide_eq_true tat09Close_t2
                 obtain ⟨go74, co74, eo74, gb74, gl74, cl74, HG74⟩ := Kd.R_form HO_7.out (by omega)
                 (first | cases eo74 | (injection eo74 with ea_ en_ ec_; (first | subst ea_ | (injection ea_ with ea_; subst ea_)); subst ec_; clear en_))
                 have GB74 := Aside0.mk gb74
                 have GG74 := Aside0.mk HG74
                 clear gb74 gl74 HG74
                 obtain ⟨hx74_0, hf74_0⟩ := Kd.R_celln false HO_7.out (((rd_T64 l0_0 x9_2).f2) : Int) p74 q74
                 replace p74 := eq_true p74
                 replace q74 := eq_true q74
                 have HP77 := Kd.R_putg HO_7.out (((rd_T64 l0_0 x9_2).f2) : Int) true
                 go_wp2_with (first | ((with_reducible refine gate_store (t := 4) (p := 82) rfl ?_); refine store_event (t := 4) (p := 82) (v := ?vo_w78) (w1 := (wc.setCell ⟨go74, (((rd_T64 l0_0 x9_2).f2) : Int).toNat, none⟩ (.bool true))) ?hg ?ho ?hn ?hr ?_; (case ho => rfl); (case hg => rfl); (case hn => rfl); (case hr => first | (go_simp; done) | (go_simp; rfl)); intro w78 hw; have hg : wc.grownBy w78 (some go74) := (by rw [hw]; exact HP77.2); have hp_ : Kd.R Kd.bool 4 w78 w.heap.size (fun _ => True) (.slice (some ⟨go74, 0, none⟩) x7_2.length co21) y113 := (by rw [hw, Ny113.out]; exact HP77.1); clear HP77; have n0_ := Aside0.mk (hp_); have n1_ := Aside0.mk (blk_grown (g := gb101) (o := .cells #[.slice (some ad108) l0_0.length c0_0, .int .i64 a0_1, .int .i64 a0_2] 24 (0, 0)) tat09Close_t1 hg (Kd.R_ne HO_7.out BK101.out (by decide))); have n2_ := Aside0.mk (blk_grown (g := gb109) (o := .cells #[.int .i64 ((rd_T64 l0_0 x9_2).f0), .int .i64 ((rd_T64 l0_0 x9_2).f1), .int .i64 ((rd_T64 l0_0 x9_2).f2), .int .u64 ((rd_T64 l0_0 x9_2).f3.f0), .int .u64 ((rd_T64 l0_0 x9_2).f3.f1), .int .u64 ((rd_T64 l0_0 x9_2).f3.f2), .int .u64 ((rd_T64 l0_0 x9_2).f3.f3)] 64 (0, 0)) tat09Close_t4 hg (Kd.R_ne HO_7.out BK109.out (by decide))); have n3_ := Aside0.mk ((by rw [hw]; exact below_set (HB.out) GB74.out : Below w.heap.size w w78)); clear HO_7; clear BK101; clear BK109; clear HB; have HO_7 := n0_; have BK101 := n1_; have BK109 := n2_; have HB := n3_; clear n0_ n1_ n2_ n3_; clear hg hw hp_))
                 go_roundg kj15
                 case measure => have := HK1.out; have := HK2.out; have := HJ15.out; omega
                 case rel => exact ⟨(y113), (wrap64 (x9_2 + 1)), tat09Close_t3, H', ⟨by have := HK1.out; have := HK2.out; have := HJ15.out; omega⟩, ⟨by (with_reducible repeat (first | apply Kd.R_alloc | apply Kd.R_drewN | apply Kd.R_drew)); exact HO_7.out⟩, ⟨by (with_reducible repeat (first | refine blk_drewN ?_ _ | refine blk_drew ?_ | refine blk_alloc ?_ _)); exact BK101.out⟩, ⟨by repeat (first | (with_reducible first | exact HB.out | apply below_alloc | apply pw_below_drewN | apply below_drew1 | refine below_set ?_ GE101.out | refine below_set ?_ GE109.out) | exact HB.out)⟩⟩
                ·rw [if_neg c73] at H
                 exact absurd H (by simp)
               ·rw [if_neg c72] at H
                exact absurd H (by simp)
              ·rw [if_neg c71] at H
               have c71b0 : (((rd_T64 l0_0 x9_2).f0) == 3) = false := beq_eq_false_iff_ne.mpr c71
               have c71b1 : (((rd_T64 l0_0 x9_2).f0) != 3) = true := bne_iff_ne.mpr c71
               have H' := Aside0.mk H
               clear H
               have hnb79 := NB109_101.out
               have hnc79 := NB101_109.out
               have hcz80_0 : wc.cell? ⟨gb109, 0, none⟩ = some (.int .i64 ((rd_T64 l0_0 x9_2).f0)) := (blk_cell BK109.out 0).trans rfl
               have hcz80_1 : wc.cell? ⟨gb109, 1, none⟩ = some (.int .i64 ((rd_T64 l0_0 x9_2).f1)) := (blk_cell BK109.out 1).trans rfl
               have hcz80_2 : wc.cell? ⟨gb109, 2, none⟩ = some (.int .i64 ((rd_T64 l0_0 x9_2).f2)) := (blk_cell BK109.out 2).trans rfl
               have hcz80_3 : wc.cell? ⟨gb109, 3, none⟩ = some (.int .u64 ((rd_T64 l0_0 x9_2).f3.f0)) := (blk_cell BK109.out 3).trans rfl
               have hcz80_4 : wc.cell? ⟨gb109, 4, none⟩ = some (.int .u64 ((rd_T64 l0_0 x9_2).f3.f1)) := (blk_cell BK109.out 4).trans rfl
               have hcz80_5 : wc.cell? ⟨gb109, 5, none⟩ = some (.int .u64 ((rd_T64 l0_0 x9_2).f3.f2)) := (blk_cell BK109.out 5).trans rfl
               have hcz80_6 : wc.cell? ⟨gb109, 6, none⟩ = some (.int .u64 ((rd_T64 l0_0 x9_2).f3.f3)) := (blk_cell BK109.out 6).trans rfl
               have hfz80_0 := blk_frozen BK109.out 0
               have hfz80_1 := blk_frozen BK109.out 1
               have hfz80_2 := blk_frozen BK109.out 2
               have hfz80_3 := blk_frozen BK109.out 3
               have hfz80_4 := blk_frozen BK109.out 4
               have hfz80_5 := blk_frozen BK109.out 5
               have hfz80_6 := blk_frozen BK109.out 6
               go_wp2
               go_roundg kj15
               case measure => have := HK1.out; have := HK2.out; have := HJ15.out; omega
               case rel => exact ⟨(x7_2), (wrap64 (x9_2 + 1)), tat09Close_t3, H', ⟨by have := HK1.out; have := HK2.out; have := HJ15.out; omega⟩, ⟨by (with_reducible repeat (first | apply Kd.R_alloc | apply Kd.R_drewN | apply Kd.R_drew)); exact HO_7.out⟩, ⟨by (with_reducible repeat (first | refine blk_drewN ?_ _ | refine blk_drew ?_ | refine blk_alloc ?_ _)); exact BK101.out⟩, ⟨by repeat (first | (with_reducible first | exact HB.out | apply below_alloc | apply pw_below_drewN | apply below_drew1 | refine below_set ?_ GE101.out | refine below_set ?_ GE109.out) | exact HB.out)⟩⟩
          ·replace c15 := Bool.eq_false_iff.mpr c15
           subst c15
           have H1 : (tattingref09_Close.l1 k2 a2 x7_2 x8_1 (wrap64 (x9_2 + 1)) l0_0 a0_1 a0_2) = some r := by rw [if_neg (show ¬ (false = true) by decide)] at H; exact H
           clear H
           have H := H1
           clear H1
           have H' := Aside0.mk H
           clear H
           have hcz81_0 : wr.cell? ⟨gb101, 0, none⟩ = some (.slice A0_0 l0_0.length c0_0) := (blk_cell BK101.out 0).trans rfl
           have hcz81_1 : wr.cell? ⟨gb101, 1, none⟩ = some (.int .i64 a0_1) := (blk_cell BK101.out 1).trans rfl
           have hcz81_2 : wr.cell? ⟨gb101, 2, none⟩ = some (.int .i64 a0_2) := (blk_cell BK101.out 2).trans rfl
           have hfz81_0 := blk_frozen BK101.out 0
           have hfz81_1 := blk_frozen BK101.out 1
           have hfz81_2 := blk_frozen BK101.out 2
           have p108 : 0 ≤ (x9_2 : Int) := of_decide_eq_true tat09Close_t2
           have q108 : x9_2 < (l0_0.length : Int) := of_decide_eq_true tat09Close_t2
           obtain ⟨ad108, e108, hx108_0, hx108_1, hx108_2, hx108_3, hx108_4, hx108_5, hx108_6⟩ := at_T64 HR0_0.out x9_2 p108 q108
           cases e108
           replace hx108_0 := (HB.out.cell (World.block_lt_of_cell? w _ hx108_0)).trans hx108_0
           replace hx108_1 := (HB.out.cell (World.block_lt_of_cell? w _ hx108_1)).trans hx108_1
           replace hx108_2 := (HB.out.cell (World.block_lt_of_cell? w _ hx108_2)).trans hx108_2
           replace hx108_3 := (HB.out.cell (World.block_lt_of_cell? w _ hx108_3)).trans hx108_3
           replace hx108_4 := (HB.out.cell (World.block_lt_of_cell? w _ hx108_4)).trans hx108_4
           replace hx108_5 := (HB.out.cell (World.block_lt_of_cell? w _ hx108_5)).trans hx108_5
           replace hx108_6 := (HB.out.cell (World.block_lt_of_cell? w _ hx108_6)).trans hx108_6
           replace p108 := eq_true p108
           replace q108 := eq_true q108
           go_wp2_with (first | ((with_reducible refine gate_dst (N := 10) rfl ?_); refine box_event ?hg (N := 10) ?hd (cs := #[.int .i64 0, .int .i64 0, .int .i64 0, .int .u64 0, .int .u64 0, .int .u64 0, .int .u64 0]) (t := 64) ?hr ?_; (case hd => rfl); (case hg => rfl); (case hr => first | (go_simp; done) | (go_simp; rfl)); intro gb109 hg w82 hbox hb; have n0_ := Aside0.mk (Kd.R_below (by (with_reducible repeat (first | apply Kd.R_alloc | apply Kd.R_drewN | apply Kd.R_drew)); exact HO_7.out) hb); have n1_ := Aside0.mk (blk_below (g := gb101) (o := .cells #[.slice (some ad108) l0_0.length c0_0, .int .i64 a0_1, .int .i64 a0_2] 24 (0, 0)) tat09Close_t1 hb); have n2_ := Aside0.mk (below_step tat09Close_t0 hb); have n3_ := Aside0.mk (hbox); have n4_ := Aside0.mk ((by rw [hg]; exact (below_size tat09Close_t0) : w.heap.size ≤ gb109)); have n5_ := Aside0.mk ((by rw [hg]; exact (below_size tat09Close_t0) : w.heap.size ≤ gb109)); have n6_ := Aside0.mk ((by rw [hg]; exact Nat.ne_of_lt (blk_lt (g := gb101) (o := .cells #[.slice (some ad108) l0_0.length c0_0, .int .i64 a0_1, .int .i64 a0_2] 24 (0, 0)) tat09Close_t1) : gb101 ≠ gb109)); have n7_ := Aside0.mk ((by rw [hg]; exact Nat.ne_of_gt (blk_lt (g := gb101) (o := .cells #[.slice (some ad108) l0_0.length c0_0, .int .i64 a0_1, .int .i64 a0_2] 24 (0, 0)) tat09Close_t1) : gb109 ≠ gb101)); clear HO_7; clear BK101; clear HB; have HO_7 := n0_; have BK101 := n1_; have HB := n2_; have BK109 := n3_; have GW109 := n4_; have GE109 := n5_; have NB101_109 := n6_; have NB109_101 := n7_; clear n0_ n1_ n2_ n3_ n4_ n5_ n6_ n7_; clear hb hbox hg; have hnb83 := NB109_101.out; have hnc83 := NB101_109.out; have hcz84_0 : w82.cell? ⟨gb109, 0, none⟩ = some (.int .i64 0) := (blk_cell BK109.out 0).trans rfl; have hcz84_1 : w82.cell? ⟨gb109, 1, none⟩ = some (.int .i64 0) := (blk_cell BK109.out 1).trans rfl; have hcz84_2 : w82.cell? ⟨gb109, 2, none⟩ = some (.int .i64 0) := (blk_cell BK109.out 2).trans rfl; have hcz84_3 : w82.cell? ⟨gb109, 3, none⟩ = some (.int .u64 0) := (blk_cell BK109.out 3).trans rfl; have hcz84_4 : w82.cell? ⟨gb109, 4, none⟩ = some (.int .u64 0) := (blk_cell BK109.out 4).trans rfl; have hcz84_5 : w82.cell? ⟨gb109, 5, none⟩ = some (.int .u64 0) := (blk_cell BK109.out 5).trans rfl; have hcz84_6 : w82.cell? ⟨gb109, 6, none⟩ = some (.int .u64 0) := (blk_cell BK109.out 6).trans rfl; have hfz84_0 := blk_frozen BK109.out 0; have hfz84_1 := blk_frozen BK109.out 1; have hfz84_2 := blk_frozen BK109.out 2; have hfz84_3 := blk_frozen BK109.out 3; have hfz84_4 := blk_frozen BK109.out 4; have hfz84_5 := blk_frozen BK109.out 5; have hfz84_6 := blk_frozen BK109.out 6; obtain ⟨Ao85, co85, eo85⟩ := Kd.R_slice HO_7.out; subst eo85; have p110 : 0 ≤ (x9_2 : Int) := of_decide_eq_true tat09Close_t2; have q110 : x9_2 < (x7_2.length : Int) := of_decide_eq_true tat09Close_t2; obtain ⟨ad110, e110, hx110_0⟩ := Kd.at_bool (Kd.R_reads' HO_7.out).2.2 x9_2 p110 q110; (try rw [← Nbq14.out] at hx110_0); (try rw [← Nbq14.out] at hw110_0); cases e110; have hn110_0 : ad110.block ≠ gb109 := Kd.own_blk (Kd.R_ne HO_7.out BK109.out (by decide)); have hn110_1 : ad110.block ≠ gb109 := Kd.own_blk (Kd.R_ne HO_7.out BK109.out (by decide)); have hn110_2 : ad110.block ≠ gb109 := Kd.own_blk (Kd.R_ne HO_7.out BK109.out (by decide)); have hn110_3 : ad110.block ≠ gb109 := Kd.own_blk (Kd.R_ne HO_7.out BK109.out (by decide)); have hn110_4 : ad110.block ≠ gb109 := Kd.own_blk (Kd.R_ne HO_7.out BK109.out (by decide)); have hn110_5 : ad110.block ≠ gb109 := Kd.own_blk (Kd.R_ne HO_7.out BK109.out (by decide)); have hn110_6 : ad110.block ≠ gb109 := Kd.own_blk (Kd.R_ne HO_7.out BK109.out (by decide)); replace hx110_0 := (cell_far (p := ⟨gb109, 0, none⟩) (by first | (rw [add_block]; exact hn110_0) | (show (Addr.add _ _).block ≠ _; rw [add_block]; exact hn110_0) | exact hn110_0) (.int .i64 ((rd_T64 l0_0 x9_2).f0))).trans hx110_0; replace hx110_0 := (cell_far (p := ⟨gb109, 1, none⟩) (by first | (rw [add_block]; exact hn110_1) | (show (Addr.add _ _).block ≠ _; rw [add_block]; exact hn110_1) | exact hn110_1) (.int .i64 ((rd_T64 l0_0 x9_2).f1))).trans hx110_0; replace hx110_0 := (cell_far (p := ⟨gb109, 2, none⟩) (by first | (rw [add_block]; exact hn110_2) | (show (Addr.add _ _).block ≠ _; rw [add_block]; exact hn110_2) | exact hn110_2) (.int .i64 ((rd_T64 l0_0 x9_2).f2))).trans hx110_0; replace hx110_0 := (cell_far (p := ⟨gb109, 3, none⟩) (by first | (rw [add_block]; exact hn110_3) | (show (Addr.add _ _).block ≠ _; rw [add_block]; exact hn110_3) | exact hn110_3) (.int .u64 ((rd_T64 l0_0 x9_2).f3.f0))).trans hx110_0; replace hx110_0 := (cell_far (p := ⟨gb109, 4, none⟩) (by first | (rw [add_block]; exact hn110_4) | (show (Addr.add _ _).block ≠ _; rw [add_block]; exact hn110_4) | exact hn110_4) (.int .u64 ((rd_T64 l0_0 x9_2).f3.f1))).trans hx110_0; replace hx110_0 := (cell_far (p := ⟨gb109, 5, none⟩) (by first | (rw [add_block]; exact hn110_5) | (show (Addr.add _ _).block ≠ _; rw [add_block]; exact hn110_5) | exact hn110_5) (.int .u64 ((rd_T64 l0_0 x9_2).f3.f2))).trans hx110_0; replace hx110_0 := (cell_far (p := ⟨gb109, 6, none⟩) (by first | (rw [add_block]; exact hn110_6) | (show (Addr.add _ _).block ≠ _; rw [add_block]; exact hn110_6) | exact hn110_6) (.int .u64 ((rd_T64 l0_0 x9_2).f3.f3))).trans hx110_0; clear hn110_0; clear hn110_1; clear hn110_2; clear hn110_3; clear hn110_4; clear hn110_5; clear hn110_6; replace p110 := eq_true p110; replace q110 := eq_true q110))
           go_roundg k2
           case measure => have := HK1.out; have := HK2.out; omega
           case rel => exact ⟨(x7_2), (wrap64 (x9_2 + 1)), tat09Close_t3, H', ⟨by have := HK1.out; have := HK2.out; omega⟩, ⟨by (with_reducible repeat (first | apply Kd.R_alloc | apply Kd.R_drewN | apply Kd.R_drew)); exact Kd.R_mono (Kd.R_far (p := ⟨gb109, 6, none⟩) (Kd.R_far (p := ⟨gb109, 5, none⟩) (Kd.R_far (p := ⟨gb109, 4, none⟩) (Kd.R_far (p := ⟨gb109, 3, none⟩) (Kd.R_far (p := ⟨gb109, 2, none⟩) (Kd.R_far (p := ⟨gb109, 1, none⟩) (Kd.R_far (p := ⟨gb109, 0, none⟩) (Kd.R_types HO_7.out BK109.out (by decide)) (fun _ hk => hk.2) (.int .i64 ((rd_T64 l0_0 x9_2).f0))) (fun _ hk => hk.2) (.int .i64 ((rd_T64 l0_0 x9_2).f1))) (fun _ hk => hk.2) (.int .i64 ((rd_T64 l0_0 x9_2).f2))) (fun _ hk => hk.2) (.int .u64 ((rd_T64 l0_0 x9_2).f3.f0))) (fun _ hk => hk.2) (.int .u64 ((rd_T64 l0_0 x9_2).f3.f1))) (fun _ hk => hk.2) (.int .u64 ((rd_T64 l0_0 x9_2).f3.f2))) (fun _ hk => hk.2) (.int .u64 ((rd_T64 l0_0 x9_2).f3.f3))) (fun _ hk => trivial)⟩, ⟨by (with_reducible repeat (first | refine blk_drewN ?_ _ | refine blk_drew ?_ | refine blk_alloc ?_ _)); refine blk_far ?_ NB101_109.out _; (with_reducible repeat (first | refine blk_drewN ?_ _ | refine blk_drew ?_ | refine blk_alloc ?_ _)); refine blk_far ?_ NB101_109.out _; (with_reducible repeat (first | refine blk_drewN ?_ _ | refine blk_drew ?_ | refine blk_alloc ?_ _)); refine blk_far ?_ NB101_109.out _; (with_reducible repeat (first | refine blk_drewN ?_ _ | refine blk_drew ?_ | refine blk_alloc ?_ _)); refine blk_far ?_ NB101_109.out _; (with_reducible repeat (first | refine blk_drewN ?_ _ | refine blk_drew ?_ | refine blk_alloc ?_ _)); refine blk_far ?_ NB101_109.out _; (with_reducible repeat (first | refine blk_drewN ?_ _ | refine blk_drew ?_ | refine blk_alloc ?_ _)); refine blk_far ?_ NB101_109.out _; (with_reducible repeat (first | refine blk_drewN ?_ _ | refine blk_drew ?_ | refine blk_alloc ?_ _)); refine blk_far ?_ NB101_109.out _; (with_reducible repeat (first | refine blk_drewN ?_ _ | refine blk_drew ?_ | refine blk_alloc ?_ _)); exact BK101.out⟩, ⟨by repeat (first | (with_reducible first | exact HB.out | apply below_alloc | apply pw_below_drewN | apply below_drew1 | refine below_set ?_ GE101.out | refine below_set ?_ GE109.out) | exact HB.out)⟩⟩
         ·rw [if_neg c13] at H
          exact absurd H (by simp)
        ·rw [if_neg c12] at H
         exact absurd H (by simp)
       ·rw [if_neg c11] at H
        have c11b0 : decide (x9_2 < (l0_0.length : Int)) = false := decide_eq_false c11
        clear c11
        have H' := Aside0.mk H
        clear H
        have hcz86_0 : wr.cell? ⟨gb101, 0, none⟩ = some (.slice A0_0 l0_0.length c0_0) := (blk_cell BK101.out 0).trans rfl
        have hcz86_1 : wr.cell? ⟨gb101, 1, none⟩ = some (.int .i64 a0_1) := (blk_cell BK101.out 1).trans rfl
        have hcz86_2 : wr.cell? ⟨gb101, 2, none⟩ = some (.int .i64 a0_2) := (blk_cell BK101.out 2).trans rfl
        have hfz86_0 := blk_frozen BK101.out 0
        have hfz86_1 := blk_frozen BK101.out 1
        have hfz86_2 := blk_frozen BK101.out 2
        go_wp2
        go_roundg k2
        case measure => have := HK1.out; have := HK2.out; omega
        case rel => exact ⟨(x7_2), (wrap64 (x8_1 + 1)), tat09Close_t3, H', ⟨by have := HK1.out; have := HK2.out; omega⟩, ⟨by (with_reducible repeat (first | apply Kd.R_alloc | apply Kd.R_drewN | apply Kd.R_drew)); exact HO_7.out⟩, ⟨by (with_reducible repeat (first | refine blk_drewN ?_ _ | refine blk_drew ?_ | refine blk_alloc ?_ _)); exact BK101.out⟩, ⟨by repeat (first | (with_reducible first | exact HB.out | apply below_alloc | apply pw_below_drewN | apply below_drew1 | refine below_set ?_ GE101.out) | exact HB.out)⟩⟩
    ·rw [if_neg c9] at H
     have c9b0 : decide (x8_1 < (l0_0.length : Int)) = false := decide_eq_false c9
     clear c9
     obtain rfl := Option.some.inj H
     have hcz87_0 : wr.cell? ⟨gb101, 0, none⟩ = some (.slice A0_0 l0_0.length c0_0) := (blk_cell BK101.out 0).trans rfl
     have hcz87_1 : wr.cell? ⟨gb101, 1, none⟩ = some (.int .i64 a0_1) := (blk_cell BK101.out 1).trans rfl
     have hcz87_2 : wr.cell? ⟨gb101, 2, none⟩ = some (.int .i64 a0_2) := (blk_cell BK101.out 2).trans rfl
     have hfz87_0 := blk_frozen BK101.out 0
     have hfz87_1 := blk_frozen BK101.out 1
     have hfz87_2 := blk_frozen BK101.out 2
     go_wp2
     go_ret
     exact ⟨_, by first | rfl | (simp [errW_none, errW_some] <;> rfl) | (simp [*, errW_none, errW_some] <;> rfl), by (with_reducible repeat (first | apply Kd.R_alloc | apply Kd.R_drewN | apply Kd.R_drew)); exact HO_7.out, by repeat (first | (with_reducible first | exact HB.out | apply below_alloc | apply pw_below_drewN | apply below_drew1 | refine below_set ?_ GE101.out) | exact HB.out)⟩
 ·rw [if_neg c4] at H
  exact absurd H (by simp)
end Go.Proofs.YtfjemaeidmikmaaDoorQ
