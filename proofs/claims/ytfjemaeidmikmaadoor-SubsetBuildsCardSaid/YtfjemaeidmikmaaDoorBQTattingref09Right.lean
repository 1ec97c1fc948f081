import Derived.Test.YtfjemaeidmikmaaDoorBQ0
import Derived.Test.YtfjemaeidmikmaaDoorBM3
namespace Go.Proofs.YtfjemaeidmikmaaDoorQ
open Go.RowKit Go.Proofs.YtfjemaeidmikmaaDoorW.PrintWords Go.Proofs.YtfjemaeidmikmaaDoorW.PrintLast Go.Proofs.YtfjemaeidmikmaaDoorW.PrintMore
attribute [local go_sem] max2_int min2_int max_two min_two max_three min_three max_four min_four
set_option linter.unusedVariables false
set_option linter.unusedSimpArgs false
attribute [local go_sem high] eqA62
mutual
def tattingref09_Right.j0 : Nat → Int → Bool → List (S64) → Int → Int → Option (Bool)
 | 0, _, _, _, _, _ => none
 | k + 1, x3, x37, x102000, x102001, x102002 => if x37 = true then (some false) else (tattingref09_Right.l0 k x3 0 0 x102000 x102001 x102002)
def tattingref09_Right.l0 : Nat → Int → Int → Int → List (S64) → Int → Int → Option (Bool)
 | 0, _, _, _, _, _, _ => none
 | k + 1, x3, x4, x5, x102000, x102001, x102002 => if x5 < x3 then (if 0 ≤ x5 then (if x5 < (x102000.length : Int) then (if ((rd_T64 x102000 x5).f0) < 1 then (tattingref09_Right.j2 k x3 x4 x5 true x102000 x102001 x102002 ((rd_T64 x102000 x5).f0) ((rd_T64 x102000 x5).f1) ((rd_T64 x102000 x5).f2) ((rd_T64 x102000 x5).f3.f0) ((rd_T64 x102000 x5).f3.f1) ((rd_T64 x102000 x5).f3.f2) ((rd_T64 x102000 x5).f3.f3)) else (if ((rd_T64 x102000 x5).f0) > 6 then (tattingref09_Right.j2 k x3 x4 x5 true x102000 x102001 x102002 ((rd_T64 x102000 x5).f0) ((rd_T64 x102000 x5).f1) ((rd_T64 x102000 x5).f2) ((rd_T64 x102000 x5).f3.f0) ((rd_T64 x102000 x5).f3.f1) ((rd_T64 x102000 x5).f3.f2) ((rd_T64 x102000 x5).f3.f3)) else (if ((rd_T64 x102000 x5).f1) < 0 then (tattingref09_Right.j2 k x3 x4 x5 true x102000 x102001 x102002 ((rd_T64 x102000 x5).f0) ((rd_T64 x102000 x5).f1) ((rd_T64 x102000 x5).f2) ((rd_T64 x102000 x5).f3.f0) ((rd_T64 x102000 x5).f3.f1) ((rd_T64 x102000 x5).f3.f2) ((rd_T64 x102000 x5).f3.f3)) else (if ((rd_T64 x102000 x5).f1) ≥ x3 then (tattingref09_Right.j2 k x3 x4 x5 true x102000 x102001 x102002 ((rd_T64 x102000 x5).f0) ((rd_T64 x102000 x5).f1) ((rd_T64 x102000 x5).f2) ((rd_T64 x102000 x5).f3.f0) ((rd_T64 x102000 x5).f3.f1) ((rd_T64 x102000 x5).f3.f2) ((rd_T64 x102000 x5).f3.f3)) else (if ((rd_T64 x102000 x5).f2) < 0 then (tattingref09_Right.j2 k x3 x4 x5 true x102000 x102001 x102002 ((rd_T64 x102000 x5).f0) ((rd_T64 x102000 x5).f1) ((rd_T64 x102000 x5).f2) ((rd_T64 x102000 x5).f3.f0) ((rd_T64 x102000 x5).f3.f1) ((rd_T64 x102000 x5).f3.f2) ((rd_T64 x102000 x5).f3.f3)) else (tattingref09_Right.j2 k x3 x4 x5 (decide (((rd_T64 x102000 x5).f2) ≥ x3)) x102000 x102001 x102002 ((rd_T64 x102000 x5).f0) ((rd_T64 x102000 x5).f1) ((rd_T64 x102000 x5).f2) ((rd_T64 x102000 x5).f3.f0) ((rd_T64 x102000 x5).f3.f1) ((rd_T64 x102000 x5).f3.f2) ((rd_T64 x102000 x5).f3.f3))))))) else (none)) else (none)) else (if x4 = 1 then (if 0 ≤ x102002 then (if x102002 < (x102000.length : Int) then (some (((rd_T64 x102000 x102002).f0) == 6)) else (none)) else (none)) else (some false))
def tattingref09_Right.j2 : Nat → Int → Int → Int → Bool → List (S64) → Int → Int → Int → Int → Int → Int → Int → Int → Int → Option (Bool)
 | 0, _, _, _, _, _, _, _, _, _, _, _, _, _, _ => none
 | k + 1, x3, x4, x5, x77, x102000, x102001, x102002, x105000, x105001, x105002, x105003, x105004, x105005, x105006 => if x77 = true then (some false) else (if x105000 = 6 then (if x105000 = 1 then (if x105000 = 3 then (if x105001 = 0 then (tattingref09_Right.l0 k x3 (wrap64 (x4 + 1)) (wrap64 (x5 + 1)) x102000 x102001 x102002) else (some false)) else (if x105002 = 0 then (if x105001 = 0 then (tattingref09_Right.l0 k x3 (wrap64 (x4 + 1)) (wrap64 (x5 + 1)) x102000 x102001 x102002) else (some false)) else (some false))) else (if (!(x105003 == 0) || (!(x105004 == 0) || (!(x105005 == 0) || (!(x105006 == 0))))) = true then (some false) else (if x105000 = 3 then (if x105001 = 0 then (tattingref09_Right.l0 k x3 (wrap64 (x4 + 1)) (wrap64 (x5 + 1)) x102000 x102001 x102002) else (some false)) else (if x105002 = 0 then (if x105001 = 0 then (tattingref09_Right.l0 k x3 (wrap64 (x4 + 1)) (wrap64 (x5 + 1)) x102000 x102001 x102002) else (some false)) else (some false))))) else (if x105000 = 1 then (if x105000 = 3 then (tattingref09_Right.l0 k x3 x4 (wrap64 (x5 + 1)) x102000 x102001 x102002) else (if x105002 = 0 then (tattingref09_Right.l0 k x3 x4 (wrap64 (x5 + 1)) x102000 x102001 x102002) else (some false))) else (if (!(x105003 == 0) || (!(x105004 == 0) || (!(x105005 == 0) || (!(x105006 == 0))))) = true then (some false) else (if x105000 = 3 then (tattingref09_Right.l0 k x3 x4 (wrap64 (x5 + 1)) x102000 x102001 x102002) else (if x105002 = 0 then (tattingref09_Right.l0 k x3 x4 (wrap64 (x5 + 1)) x102000 x102001 x102002) else (some false))))))
end
def tattingref09_Right.f (k : Nat) (l0_0 : List (S64)) (a0_1 : Int) (a0_2 : Int) : Option (Bool) := if (l0_0.length : Int) = 0 then (tattingref09_Right.j0 k (l0_0.length : Int) true l0_0 a0_1 a0_2) else (if (l0_0.length : Int) > 600 then (tattingref09_Right.j0 k (l0_0.length : Int) true l0_0 a0_1 a0_2) else (if a0_1 < 0 then (tattingref09_Right.j0 k (l0_0.length : Int) true l0_0 a0_1 a0_2) else (if a0_1 ≥ (l0_0.length : Int) then (tattingref09_Right.j0 k (l0_0.length : Int) true l0_0 a0_1 a0_2) else (if a0_2 < 0 then (tattingref09_Right.j0 k (l0_0.length : Int) true l0_0 a0_1 a0_2) else (tattingref09_Right.j0 k (l0_0.length : Int) (decide (a0_2 ≥ (l0_0.length : Int))) l0_0 a0_1 a0_2)))))
theorem tat09Right_t3 {P : Prop} (h : P := by (with_reducible repeat (first | refine blk_drewN ?_ _ | refine blk_drew ?_ | refine blk_alloc ?_ _)); exact BK101.out) : P := h
theorem tat09Right_t2 {P : Prop} (h : P := by repeat (first | (with_reducible first | exact HB.out | apply below_alloc | apply pw_below_drewN | apply below_drew1) | exact HB.out)) : P := h
theorem tat09Right_t1 {P : Prop} (h : P := by repeat (first | (with_reducible first | exact HB.out | apply below_alloc | apply pw_below_drewN | apply below_drew1 | refine below_set ?_ GE101.out) | exact HB.out)) : P := h
theorem tat09Right_t0 {P : Prop} (h : P := by first | rfl | (simp; done) | (simp [*]; done)) : P := h
theorem tattingref09_Right_w0 {P : Prop} (h : P := by
 have hczz0 : w20.cell? ⟨gb104, 0, none⟩ = some (.int .i64 0) := (blk_cell BK104.out 0).trans rfl
 have hczz1 : w20.cell? ⟨gb104, 1, none⟩ = some (.int .i64 0) := (blk_cell BK104.out 1).trans rfl
 have hczz2 : w20.cell? ⟨gb104, 2, none⟩ = some (.int .i64 0) := (blk_cell BK104.out 2).trans rfl
 have hczz3 : w20.cell? ⟨gb104, 3, none⟩ = some (.int .u64 0) := (blk_cell BK104.out 3).trans rfl
 have hczz4 : w20.cell? ⟨gb104, 4, none⟩ = some (.int .u64 0) := (blk_cell BK104.out 4).trans rfl
 have hczz5 : w20.cell? ⟨gb104, 5, none⟩ = some (.int .u64 0) := (blk_cell BK104.out 5).trans rfl
 have hczz6 : w20.cell? ⟨gb104, 6, none⟩ = some (.int .u64 0) := (blk_cell BK104.out 6).trans rfl
 have hfzz7 := blk_frozen BK104.out 0
 have hfzz8 := blk_frozen BK104.out 1
 have hfzz9 := blk_frozen BK104.out 2
 have hfzz10 := blk_frozen BK104.out 3
 have hfzz11 := blk_frozen BK104.out 4
 have hfzz12 := blk_frozen BK104.out 5
 have hfzz13 := blk_frozen BK104.out 6
 go_wp2
 go_meet
 case rel => exact ⟨_, (true), tat09Right_t0, H', ⟨by have := HJ1.out; have := HK2.out; first | omega | exact Nat.le_refl _⟩, ⟨by (with_reducible repeat (first | refine blk_drewN ?_ _ | refine blk_drew ?_ | refine blk_alloc ?_ _)); refine blk_far ?_ NB101_104.out _; (with_reducible repeat (first | refine blk_drewN ?_ _ | refine blk_drew ?_ | refine blk_alloc ?_ _)); refine blk_far ?_ NB101_104.out _; (with_reducible repeat (first | refine blk_drewN ?_ _ | refine blk_drew ?_ | refine blk_alloc ?_ _)); refine blk_far ?_ NB101_104.out _; (with_reducible repeat (first | refine blk_drewN ?_ _ | refine blk_drew ?_ | refine blk_alloc ?_ _)); refine blk_far ?_ NB101_104.out _; (with_reducible repeat (first | refine blk_drewN ?_ _ | refine blk_drew ?_ | refine blk_alloc ?_ _)); refine blk_far ?_ NB101_104.out _; (with_reducible repeat (first | refine blk_drewN ?_ _ | refine blk_drew ?_ | refine blk_alloc ?_ _)); refine blk_far ?_ NB101_104.out _; (with_reducible repeat (first | refine blk_drewN ?_ _ | refine blk_drew ?_ | refine blk_alloc ?_ _)); refine blk_far ?_ NB101_104.out _; (with_reducible repeat (first | refine blk_drewN ?_ _ | refine blk_drew ?_ | refine blk_alloc ?_ _)); exact BK101.out⟩, ⟨by (with_reducible repeat (first | refine blk_drewN ?_ _ | refine blk_drew ?_ | refine blk_alloc ?_ _)); refine blk_put (cs := #[.int .i64 ((rd_T64 l0_0 x5_2).f0), .int .i64 ((rd_T64 l0_0 x5_2).f1), .int .i64 ((rd_T64 l0_0 x5_2).f2), .int .u64 ((rd_T64 l0_0 x5_2).f3.f0), .int .u64 ((rd_T64 l0_0 x5_2).f3.f1), .int .u64 ((rd_T64 l0_0 x5_2).f3.f2), .int .u64 0]) ?_ 6 _ rfl; (with_reducible repeat (first | refine blk_drewN ?_ _ | refine blk_drew ?_ | refine blk_alloc ?_ _)); refine blk_put (cs := #[.int .i64 ((rd_T64 l0_0 x5_2).f0), .int .i64 ((rd_T64 l0_0 x5_2).f1), .int .i64 ((rd_T64 l0_0 x5_2).f2), .int .u64 ((rd_T64 l0_0 x5_2).f3.f0), .int .u64 ((rd_T64 l0_0 x5_2).f3.f1), .int .u64 0, .int .u64 0]) ?_ 5 _ rfl; (with_reducible repeat (first | refine blk_drewN ?_ _ | refine blk_drew ?_ | refine blk_alloc ?_ _)); refine blk_put (cs := #[.int .i64 ((rd_T64 l0_0 x5_2).f0), .int .i64 ((rd_T64 l0_0 x5_2).f1), .int .i64 ((rd_T64 l0_0 x5_2).f2), .int .u64 ((rd_T64 l0_0 x5_2).f3.f0), .int .u64 0, .int .u64 0, .int .u64 0]) ?_ 4 _ rfl; (with_reducible repeat (first | refine blk_drewN ?_ _ | refine blk_drew ?_ | refine blk_alloc ?_ _)); refine blk_put (cs := #[.int .i64 ((rd_T64 l0_0 x5_2).f0), .int .i64 ((rd_T64 l0_0 x5_2).f1), .int .i64 ((rd_T64 l0_0 x5_2).f2), .int .u64 0, .int .u64 0, .int .u64 0, .int .u64 0]) ?_ 3 _ rfl; (with_reducible repeat (first | refine blk_drewN ?_ _ | refine blk_drew ?_ | refine blk_alloc ?_ _)); refine blk_put (cs := #[.int .i64 ((rd_T64 l0_0 x5_2).f0), .int .i64 ((rd_T64 l0_0 x5_2).f1), .int .i64 0, .int .u64 0, .int .u64 0, .int .u64 0, .int .u64 0]) ?_ 2 _ rfl; (with_reducible repeat (first | refine blk_drewN ?_ _ | refine blk_drew ?_ | refine blk_alloc ?_ _)); refine blk_put (cs := #[.int .i64 ((rd_T64 l0_0 x5_2).f0), .int .i64 0, .int .i64 0, .int .u64 0, .int .u64 0, .int .u64 0, .int .u64 0]) ?_ 1 _ rfl; (with_reducible repeat (first | refine blk_drewN ?_ _ | refine blk_drew ?_ | refine blk_alloc ?_ _)); refine blk_put (cs := #[.int .i64 0, .int .i64 0, .int .i64 0, .int .u64 0, .int .u64 0, .int .u64 0, .int .u64 0]) ?_ 0 _ rfl; (with_reducible repeat (first | refine blk_drewN ?_ _ | refine blk_drew ?_ | refine blk_alloc ?_ _)); exact BK104.out⟩, ⟨by repeat (first | (with_reducible first | exact HB.out | apply below_alloc | apply pw_below_drewN | apply below_drew1 | refine below_set ?_ GE101.out | refine below_set ?_ GE104.out) | exact HB.out)⟩⟩) : P := h
theorem tattingref09_Right_w1 {P : Prop} (h : P := by
 have hczz0 : wc.cell? ⟨gb104, 0, none⟩ = some (.int .i64 ((rd_T64 l0_0 x5_2).f0)) := (blk_cell BK104.out 0).trans rfl
 have hczz1 : wc.cell? ⟨gb104, 1, none⟩ = some (.int .i64 ((rd_T64 l0_0 x5_2).f1)) := (blk_cell BK104.out 1).trans rfl
 have hczz2 : wc.cell? ⟨gb104, 2, none⟩ = some (.int .i64 ((rd_T64 l0_0 x5_2).f2)) := (blk_cell BK104.out 2).trans rfl
 have hczz3 : wc.cell? ⟨gb104, 3, none⟩ = some (.int .u64 ((rd_T64 l0_0 x5_2).f3.f0)) := (blk_cell BK104.out 3).trans rfl
 have hczz4 : wc.cell? ⟨gb104, 4, none⟩ = some (.int .u64 ((rd_T64 l0_0 x5_2).f3.f1)) := (blk_cell BK104.out 4).trans rfl
 have hczz5 : wc.cell? ⟨gb104, 5, none⟩ = some (.int .u64 ((rd_T64 l0_0 x5_2).f3.f2)) := (blk_cell BK104.out 5).trans rfl
 have hczz6 : wc.cell? ⟨gb104, 6, none⟩ = some (.int .u64 ((rd_T64 l0_0 x5_2).f3.f3)) := (blk_cell BK104.out 6).trans rfl
 have hfzz7 := blk_frozen BK104.out 0
 have hfzz8 := blk_frozen BK104.out 1
 have hfzz9 := blk_frozen BK104.out 2
 have hfzz10 := blk_frozen BK104.out 3
 have hfzz11 := blk_frozen BK104.out 4
 have hfzz12 := blk_frozen BK104.out 5
 have hfzz13 := blk_frozen BK104.out 6
 go_wp2
 go_ret
 exact ⟨by first | rfl | (simp [errW_none, errW_some] <;> rfl) | (simp [*, errW_none, errW_some] <;> rfl), by repeat (first | (with_reducible first | exact HB.out | apply below_alloc | apply pw_below_drewN | apply below_drew1 | refine below_set ?_ GE101.out | refine below_set ?_ GE104.out) | exact HB.out)⟩) : P := h
theorem tattingref09_Right_w2 {P : Prop} (h : P := by
 have hczz0 : wc.cell? ⟨gb104, 0, none⟩ = some (.int .i64 ((rd_T64 l0_0 x5_2).f0)) := (blk_cell BK104.out 0).trans rfl
 have hczz1 : wc.cell? ⟨gb104, 1, none⟩ = some (.int .i64 ((rd_T64 l0_0 x5_2).f1)) := (blk_cell BK104.out 1).trans rfl
 have hczz2 : wc.cell? ⟨gb104, 2, none⟩ = some (.int .i64 ((rd_T64 l0_0 x5_2).f2)) := (blk_cell BK104.out 2).trans rfl
 have hczz3 : wc.cell? ⟨gb104, 3, none⟩ = some (.int .u64 ((rd_T64 l0_0 x5_2).f3.f0)) := (blk_cell BK104.out 3).trans rfl
 have hczz4 : wc.cell? ⟨gb104, 4, none⟩ = some (.int .u64 ((rd_T64 l0_0 x5_2).f3.f1)) := (blk_cell BK104.out 4).trans rfl
 have hczz5 : wc.cell? ⟨gb104, 5, none⟩ = some (.int .u64 ((rd_T64 l0_0 x5_2).f3.f2)) := (blk_cell BK104.out 5).trans rfl
 have hczz6 : wc.cell? ⟨gb104, 6, none⟩ = some (.int .u64 ((rd_T64 l0_0 x5_2).f3.f3)) := (blk_cell BK104.out 6).trans rfl
 have hfzz7 := blk_frozen BK104.out 0
 have hfzz8 := blk_frozen BK104.out 1
 have hfzz9 := blk_frozen BK104.out 2
 have hfzz10 := blk_frozen BK104.out 3
 have hfzz11 := blk_frozen BK104.out 4
 have hfzz12 := blk_frozen BK104.out 5
 have hfzz13 := blk_frozen BK104.out 6
 go_wp2
 go_roundg kj17
 case measure => have := HJ1.out; have := HK2.out; have := HJ17.out; omega
 case rel => exact ⟨(wrap64 (x4_2 + 1)), (wrap64 (x5_2 + 1)), tat09Right_t0, tat09Right_t0, H', ⟨by have := HJ1.out; have := HK2.out; have := HJ17.out; omega⟩, ⟨by (with_reducible repeat (first | refine blk_drewN ?_ _ | refine blk_drew ?_ | refine blk_alloc ?_ _)); exact BK101.out⟩, ⟨by repeat (first | (with_reducible first | exact HB.out | apply below_alloc | apply pw_below_drewN | apply below_drew1 | refine below_set ?_ GE101.out | refine below_set ?_ GE104.out) | exact HB.out)⟩⟩) : P := h
theorem tattingref09_Right_w3 {P : Prop} (h : P := by
 have hczz0 : wc.cell? ⟨gb104, 0, none⟩ = some (.int .i64 ((rd_T64 l0_0 x5_2).f0)) := (blk_cell BK104.out 0).trans rfl
 have hczz1 : wc.cell? ⟨gb104, 1, none⟩ = some (.int .i64 ((rd_T64 l0_0 x5_2).f1)) := (blk_cell BK104.out 1).trans rfl
 have hczz2 : wc.cell? ⟨gb104, 2, none⟩ = some (.int .i64 ((rd_T64 l0_0 x5_2).f2)) := (blk_cell BK104.out 2).trans rfl
 have hczz3 : wc.cell? ⟨gb104, 3, none⟩ = some (.int .u64 ((rd_T64 l0_0 x5_2).f3.f0)) := (blk_cell BK104.out 3).trans rfl
 have hczz4 : wc.cell? ⟨gb104, 4, none⟩ = some (.int .u64 ((rd_T64 l0_0 x5_2).f3.f1)) := (blk_cell BK104.out 4).trans rfl
 have hczz5 : wc.cell? ⟨gb104, 5, none⟩ = some (.int .u64 ((rd_T64 l0_0 x5_2).f3.f2)) := (blk_cell BK104.out 5).trans rfl
 have hczz6 : wc.cell? ⟨gb104, 6, none⟩ = some (.int .u64 ((rd_T64 l0_0 x5_2).f3.f3)) := (blk_cell BK104.out 6).trans rfl
 have hfzz7 := blk_frozen BK104.out 0
 have hfzz8 := blk_frozen BK104.out 1
 have hfzz9 := blk_frozen BK104.out 2
 have hfzz10 := blk_frozen BK104.out 3
 have hfzz11 := blk_frozen BK104.out 4
 have hfzz12 := blk_frozen BK104.out 5
 have hfzz13 := blk_frozen BK104.out 6
 go_wp2
 go_roundg kj17
 case measure => have := HJ1.out; have := HK2.out; have := HJ17.out; omega
 case rel => exact ⟨(x4_2), (wrap64 (x5_2 + 1)), tat09Right_t0, tat09Right_t0, H', ⟨by have := HJ1.out; have := HK2.out; have := HJ17.out; omega⟩, ⟨by (with_reducible repeat (first | refine blk_drewN ?_ _ | refine blk_drew ?_ | refine blk_alloc ?_ _)); exact BK101.out⟩, ⟨by repeat (first | (with_reducible first | exact HB.out | apply below_alloc | apply pw_below_drewN | apply below_drew1 | refine below_set ?_ GE101.out | refine below_set ?_ GE104.out) | exact HB.out)⟩⟩) : P := h
theorem tattingref09_Right_w4 {P : Prop} (h : P := by
 have H' := Aside0.mk H
 clear H
 have hczz0 : w3.cell? ⟨gb101, 0, none⟩ = some (.slice A0_0 l0_0.length c0_0) := (blk_cell BK101.out 0).trans rfl
 have hczz1 : w3.cell? ⟨gb101, 1, none⟩ = some (.int .i64 a0_1) := (blk_cell BK101.out 1).trans rfl
 have hczz2 : w3.cell? ⟨gb101, 2, none⟩ = some (.int .i64 a0_2) := (blk_cell BK101.out 2).trans rfl
 have hfzz3 := blk_frozen BK101.out 0
 have hfzz4 := blk_frozen BK101.out 1
 have hfzz5 := blk_frozen BK101.out 2
 go_wp2
 go_meet
 case rel => exact ⟨_, (true), tat09Right_t0, H', ⟨by first | omega | exact Nat.le_refl _⟩, ⟨by (with_reducible repeat (first | refine blk_drewN ?_ _ | refine blk_drew ?_ | refine blk_alloc ?_ _)); exact BK101.out⟩, ⟨by repeat (first | (with_reducible first | exact HB.out | apply below_alloc | apply pw_below_drewN | apply below_drew1 | refine below_set ?_ GE101.out) | exact HB.out)⟩⟩) : P := h
set_option maxHeartbeats 80000000 in
set_option maxRecDepth 100000 in
theorem tattingref09_Right.calls (k : Nat) (A0_0 : Option Addr) (c0_0 : Nat) (l0_0 : List (S64)) (a0_1 : Int) (a0_2 : Int) (r : Bool) (w : World) (hr0_0 : Kd.C k64 w A0_0 l0_0.length l0_0) (hc0_0 : l0_0.length ≤ c0_0) (h : tattingref09_Right.f k l0_0 a0_1 a0_2 = some r) :
  Calls Tryd.prog 9 #[.agg #[.slice A0_0 l0_0.length c0_0, .int .i64 a0_1, .int .i64 a0_2]] w fun e w' => e = .returned (.bool r) ∧ Below w.heap.size w w' := by
 have hu24 := Tryd.underlying24
 have hu64 := Tryd.underlying64
 have hu62 := Tryd.underlying62
 have HR0_0 := Aside0.mk hr0_0
 have HC0_0 := Aside0.mk hc0_0
 clear hr0_0 hc0_0
 have HB := Aside0.mk (Below.refl w.heap.size w)
 have H : (if (l0_0.length : Int) = 0 then (tattingref09_Right.j0 k (l0_0.length : Int) true l0_0 a0_1 a0_2) else (if (l0_0.length : Int) > 600 then (tattingref09_Right.j0 k (l0_0.length : Int) true l0_0 a0_1 a0_2) else (if a0_1 < 0 then (tattingref09_Right.j0 k (l0_0.length : Int) true l0_0 a0_1 a0_2) else (if a0_1 ≥ (l0_0.length : Int) then (tattingref09_Right.j0 k (l0_0.length : Int) true l0_0 a0_1 a0_2) else (if a0_2 < 0 then (tattingref09_Right.j0 k (l0_0.length : Int) true l0_0 a0_1 a0_2) else (tattingref09_Right.j0 k (l0_0.length : Int) (decide (a0_2 ≥ (l0_0.length : Int))) l0_0 a0_1 a0_2)))))) = some r := h
 clear h
 have HC2 := Aside0.mk H
 clear H
 go_enter Tryd.func9, Tryd.ntmps9
 go_upto_region 2 with (first | ((with_reducible refine gate_dst (N := 1) rfl ?_); refine box_event ?hg (N := 1) ?hd (cs := #[.slice A0_0 l0_0.length c0_0, .int .i64 a0_1, .int .i64 a0_2]) (t := 24) ?hr ?_; (case hd => rfl); (case hg => rfl); (case hr => first | (go_simp; done) | (go_simp; rfl)); intro gb101 hg w3 hbox hb; have n0_ := Aside0.mk (below_step tat09Right_t2 hb); have n1_ := Aside0.mk (hbox); have n2_ := Aside0.mk ((by rw [hg]; exact (below_size tat09Right_t2) : w.heap.size ≤ gb101)); have n3_ := Aside0.mk ((by rw [hg]; exact (below_size tat09Right_t2) : w.heap.size ≤ gb101)); clear HB; have HB := n0_; have BK101 := n1_; have GW101 := n2_; have GE101 := n3_; clear n0_ n1_ n2_ n3_; clear hb hbox hg; have hcz4_0 : w3.cell? ⟨gb101, 0, none⟩ = some (.slice A0_0 l0_0.length c0_0) := (blk_cell BK101.out 0).trans rfl; have hcz4_1 : w3.cell? ⟨gb101, 1, none⟩ = some (.int .i64 a0_1) := (blk_cell BK101.out 1).trans rfl; have hcz4_2 : w3.cell? ⟨gb101, 2, none⟩ = some (.int .i64 a0_2) := (blk_cell BK101.out 2).trans rfl; have hfz4_0 := blk_frozen BK101.out 0; have hfz4_1 := blk_frozen BK101.out 1; have hfz4_2 := blk_frozen BK101.out 2))
 (try simp only [Act.put, List.setIfInBounds_toArray, List.set_cons_zero, List.set_cons_succ])
 go_cut [37] (fun v37 wc => ∃ (kq : Nat) (x37_1 : Bool), v37 = .bool x37_1 ∧ Aside0 (tattingref09_Right.j0 kq (l0_0.length : Int) x37_1 l0_0 a0_1 a0_2 = some r) ∧ Aside0 (kq ≤ k) ∧ Aside0 (wc.heap[gb101]? = some (.cells #[(.slice A0_0 l0_0.length c0_0), .int .i64 a0_1, .int .i64 a0_2] 24 (0, 0))) ∧ Aside0 (Below w.heap.size w wc))
 case first =>
  have H := HC2.out
  clear HC2
  by_cases c5 : (l0_0.length : Int) = 0
  ·rw [if_pos c5] at H
   have c5b0 : ((l0_0.length : Int) == 0) = true := beq_iff_eq.mpr c5
   have c5b1 : ((l0_0.length : Int) != 0) = false := bne_eq_false_iff_eq.mpr c5
   clear c5
   (first | rw [c5b0] | (simp only [i64_w, i32_w]; rw [c5b0]) | skip)
   have H' := Aside0.mk H
   clear H
   go_wp2
   go_meet
   case rel => exact ⟨_, (true), tat09Right_t0, H', ⟨by first | omega | exact Nat.le_refl _⟩, ⟨by (with_reducible repeat (first | refine blk_drewN ?_ _ | refine blk_drew ?_ | refine blk_alloc ?_ _)); exact BK101.out⟩, ⟨by repeat (first | (with_reducible first | exact HB.out | apply below_alloc | apply pw_below_drewN | apply below_drew1 | refine below_set ?_ GE101.out) | exact HB.out)⟩⟩
  ·rw [if_neg c5] at H
   have c5b0 : ((l0_0.length : Int) == 0) = false := beq_eq_false_iff_ne.mpr c5
   have c5b1 : ((l0_0.length : Int) != 0) = true := bne_iff_ne.mpr c5
   have c5b2 : ¬ (l0_0 = []) := fun h_ => c5 (by rw [h_]; rfl)
   (first | rw [c5b0] | (simp only [i64_w, i32_w]; rw [c5b0]) | skip)
   by_cases c6 : (l0_0.length : Int) > 600
   ·rw [if_pos c6] at H
    have c6b0 : decide (600 < (l0_0.length : Int)) = true := decide_eq_true c6
    have c6b1 : decide (600 < l0_0.length) = true := decide_eq_true (by omega)
    clear c6
    have H' := Aside0.mk H
    clear H
    go_wp2
    go_meet
    case rel => exact ⟨_, (true), tat09Right_t0, H', ⟨by first | omega | exact Nat.le_refl _⟩, ⟨by (with_reducible repeat (first | refine blk_drewN ?_ _ | refine blk_drew ?_ | refine blk_alloc ?_ _)); exact BK101.out⟩, ⟨by repeat (first | (with_reducible first | exact HB.out | apply below_alloc | apply pw_below_drewN | apply below_drew1 | refine below_set ?_ GE101.out) | exact HB.out)⟩⟩
   ·rw [if_neg c6] at H
    have c6b0 : decide (600 < (l0_0.length : Int)) = false := decide_eq_false c6
    have c6b1 : decide (600 < l0_0.length) = false := decide_eq_false (by omega)
    clear c6
    by_cases c7 : a0_1 < 0
    ·rw [if_pos c7] at H
     have c7b0 : decide (a0_1 < 0) = true := decide_eq_true c7
     clear c7
     exact tattingref09_Right_w4
    ·rw [if_neg c7] at H
     have c7b0 : decide (a0_1 < 0) = false := decide_eq_false c7
     clear c7
     by_cases c9 : a0_1 ≥ (l0_0.length : Int)
     ·rw [if_pos c9] at H
      have c9b0 : decide ((l0_0.length : Int) ≤ a0_1) = true := decide_eq_true c9
      clear c9
      exact tattingref09_Right_w4
     ·rw [if_neg c9] at H
      have c9b0 : decide ((l0_0.length : Int) ≤ a0_1) = false := decide_eq_false c9
      clear c9
      by_cases c11 : a0_2 < 0
      ·rw [if_pos c11] at H
       have c11b0 : decide (a0_2 < 0) = true := decide_eq_true c11
       clear c11
       exact tattingref09_Right_w4
      ·rw [if_neg c11] at H
       have c11b0 : decide (a0_2 < 0) = false := decide_eq_false c11
       clear c11
       have H' := Aside0.mk H
       clear H
       have hcz13_0 : w3.cell? ⟨gb101, 0, none⟩ = some (.slice A0_0 l0_0.length c0_0) := (blk_cell BK101.out 0).trans rfl
       have hcz13_1 : w3.cell? ⟨gb101, 1, none⟩ = some (.int .i64 a0_1) := (blk_cell BK101.out 1).trans rfl
       have hcz13_2 : w3.cell? ⟨gb101, 2, none⟩ = some (.int .i64 a0_2) := (blk_cell BK101.out 2).trans rfl
       have hfz13_0 := blk_frozen BK101.out 0
       have hfz13_1 := blk_frozen BK101.out 1
       have hfz13_2 := blk_frozen BK101.out 2
       go_wp2
       go_meet
       case rel => exact ⟨_, (decide (a0_2 ≥ (l0_0.length : Int))), tat09Right_t0, H', ⟨by first | omega | exact Nat.le_refl _⟩, ⟨by (with_reducible repeat (first | refine blk_drewN ?_ _ | refine blk_drew ?_ | refine blk_alloc ?_ _)); exact BK101.out⟩, ⟨by repeat (first | (with_reducible first | exact HB.out | apply below_alloc | apply pw_below_drewN | apply below_drew1 | refine below_set ?_ GE101.out) | exact HB.out)⟩⟩
 case rest =>
  clear HC2
  try clear c1
  try clear p2
  try clear c5
  try clear c5b0
  try clear c5b1
  try clear c5b2
  try clear c6
  try clear c6b0
  try clear c6b1
  try clear c7
  try clear c7b0
  try clear c9
  try clear c9b0
  try clear c11
  try clear c11b0
  try clear hcz10_0
  try clear hcz10_1
  try clear hcz10_2
  try clear hcz12_0
  try clear hcz12_1
  try clear hcz12_2
  try clear hcz13_0
  try clear hcz13_1
  try clear hcz13_2
  try clear hcz4_0
  try clear hcz4_1
  try clear hcz4_2
  try clear hcz8_0
  try clear hcz8_1
  try clear hcz8_2
  try clear hfz10_0
  try clear hfz10_1
  try clear hfz10_2
  try clear hfz12_0
  try clear hfz12_1
  try clear hfz12_2
  try clear hfz13_0
  try clear hfz13_1
  try clear hfz13_2
  try clear hfz4_0
  try clear hfz4_1
  try clear hfz4_2
  try clear hfz8_0
  try clear hfz8_1
  try clear hfz8_2
  obtain ⟨kq, x37_1, rfl, HA, HJ1, BK101, HB⟩ := hcut
  cases kq with
  | zero => exact absurd HA.out (by simp [tattingref09_Right.j0])
  | succ kj1 =>
   have H := HA.out
   clear HA
   simp only [tattingref09_Right.j0] at H
   by_cases c14 : x37_1 = true
   ·subst c14
    have H1 : (some false) = some r := by rw [if_pos rfl] at H; exact H
    clear H
    have H := H1
    clear H1
    obtain rfl := Option.some.inj H
    go_wp2
    go_ret
    exact ⟨by first | rfl | (simp [errW_none, errW_some] <;> rfl) | (simp [*, errW_none, errW_some] <;> rfl), by repeat (first | (with_reducible first | exact HB.out | apply below_alloc | apply pw_below_drewN | apply below_drew1 | refine below_set ?_ GE101.out) | exact HB.out)⟩
   ·replace c14 := Bool.eq_false_iff.mpr c14
    subst c14
    have H1 : (tattingref09_Right.l0 kj1 (l0_0.length : Int) 0 0 l0_0 a0_1 a0_2) = some r := by rw [if_neg (show ¬ (false = true) by decide)] at H; exact H
    clear H
    have H := H1
    clear H1
    have H' := Aside0.mk H
    clear H
    go_wp2
    go_loopg [4, 5] kj1 (fun kq v4 v5 w' => ∃ (x4_2 : Int) (x5_2 : Int), v4 = .int .i64 x4_2 ∧ v5 = .int .i64 x5_2 ∧ Aside0 (tattingref09_Right.l0 kq (l0_0.length : Int) x4_2 x5_2 l0_0 a0_1 a0_2 = some r) ∧ Aside0 (kq ≤ kj1) ∧ Aside0 (w'.heap[gb101]? = some (.cells #[(.slice A0_0 l0_0.length c0_0), .int .i64 a0_1, .int .i64 a0_2] 24 (0, 0))) ∧ Aside0 (Below w.heap.size w w'))
    case atStart => exact ⟨(0), (0), tat09Right_t0, tat09Right_t0, H', ⟨Nat.le_refl _⟩, ⟨by (with_reducible repeat (first | refine blk_drewN ?_ _ | refine blk_drew ?_ | refine blk_alloc ?_ _)); exact BK101.out⟩, ⟨by repeat (first | (with_reducible first | exact HB.out | apply below_alloc | apply pw_below_drewN | apply below_drew1 | refine below_set ?_ GE101.out) | exact HB.out)⟩⟩
    case round =>
     clear H'
     try clear c1
     try clear p2
     try clear c5
     try clear c5b0
     try clear c5b1
     try clear c5b2
     try clear c6
     try clear c6b0
     try clear c6b1
     try clear c7
     try clear c7b0
     try clear c9
     try clear c9b0
     try clear c11
     try clear c11b0
     try clear c14
     try clear hcz10_0
     try clear hcz10_1
     try clear hcz10_2
     try clear hcz12_0
     try clear hcz12_1
     try clear hcz12_2
     try clear hcz13_0
     try clear hcz13_1
     try clear hcz13_2
     try clear hcz4_0
     try clear hcz4_1
     try clear hcz4_2
     try clear hcz8_0
     try clear hcz8_1
     try clear hcz8_2
     try clear hfz10_0
     try clear hfz10_1
     try clear hfz10_2
     try clear hfz12_0
     try clear hfz12_1
     try clear hfz12_2
     try clear hfz13_0
     try clear hfz13_1
     try clear hfz13_2
     try clear hfz4_0
     try clear hfz4_1
     try clear hfz4_2
     try clear hfz8_0
     try clear hfz8_1
     try clear hfz8_2
     try clear p2
     obtain ⟨x4_2, x5_2, rfl, rfl, HA, HK2, BK101, HB⟩ := hrel
     cases gk with
     | zero => exact absurd HA.out (by simp [tattingref09_Right.l0])
     | succ k2 =>
      have H := HA.out
      clear HA
      simp only [tattingref09_Right.l0] at H
      by_cases c15 : x5_2 < (l0_0.length : Int)
      ·rw [if_pos c15] at H
       have c15b0 : decide (x5_2 < (l0_0.length : Int)) = true := decide_eq_true c15
       clear c15
       by_cases c16 : 0 ≤ x5_2
       ·rw [if_pos c16] at H
        have c16b0 : decide (0 ≤ x5_2) = true := decide_eq_true c16
        clear c16
        by_cases c17 : x5_2 < (l0_0.length : Int)
        ·rw [if_pos c17] at H
         have c17b0 : decide (x5_2 < (l0_0.length : Int)) = true := decide_eq_true c17
         clear c17
         have HC18 := Aside0.mk H
         clear H
         have hcz19_0 : wr.cell? ⟨gb101, 0, none⟩ = some (.slice A0_0 l0_0.length c0_0) := (blk_cell BK101.out 0).trans rfl
         have hcz19_1 : wr.cell? ⟨gb101, 1, none⟩ = some (.int .i64 a0_1) := (blk_cell BK101.out 1).trans rfl
         have hcz19_2 : wr.cell? ⟨gb101, 2, none⟩ = some (.int .i64 a0_2) := (blk_cell BK101.out 2).trans rfl
         have hfz19_0 := blk_frozen BK101.out 0
         have hfz19_1 := blk_frozen BK101.out 1
         have hfz19_2 := blk_frozen BK101.out 2
         have p103 : 0 ≤ (x5_2 : Int) := of_decide_eq_true (by first | (with_reducible assumption) | assumption)
         have q103 : x5_2 < (l0_0.length : Int) := of_decide_eq_true (by first | (with_reducible assumption) | assumption)
         obtain ⟨ad103, e103, hx103_0, hx103_1, hx103_2, hx103_3, hx103_4, hx103_5, hx103_6⟩ := at_T64 HR0_0.out x5_2 p103 q103
         cases e103
         replace hx103_0 := (HB.out.cell (World.block_lt_of_cell? w _ hx103_0)).trans hx103_0
         replace hx103_1 := (HB.out.cell (World.block_lt_of_cell? w _ hx103_1)).trans hx103_1
         replace hx103_2 := (HB.out.cell (World.block_lt_of_cell? w _ hx103_2)).trans hx103_2
         replace hx103_3 := (HB.out.cell (World.block_lt_of_cell? w _ hx103_3)).trans hx103_3
         replace hx103_4 := (HB.out.cell (World.block_lt_of_cell? w _ hx103_4)).trans hx103_4
         replace hx103_5 := (HB.out.cell (World.block_lt_of_cell? w _ hx103_5)).trans hx103_5
         replace hx103_6 := (HB.out.cell (World.block_lt_of_cell? w _ hx103_6)).trans hx103_6
         replace p103 := eq_true p103
         replace q103 := eq_true q103
         go_upto_region 9 with (first | ((with_reducible refine gate_dst (N := 6) rfl ?_); refine box_event ?hg (N := 6) ?hd (cs := #[.int .i64 0, .int .i64 0, .int .i64 0, .int .u64 0, .int .u64 0, .int .u64 0, .int .u64 0]) (t := 64) ?hr ?_; (case hd => rfl); (case hg => rfl); (case hr => first | (go_simp; done) | (go_simp; rfl)); intro gb104 hg w20 hbox hb; have n0_ := Aside0.mk (blk_below (g := gb101) (o := .cells #[.slice (some ad103) l0_0.length c0_0, .int .i64 a0_1, .int .i64 a0_2] 24 (0, 0)) tat09Right_t3 hb); have n1_ := Aside0.mk (below_step tat09Right_t1 hb); have n2_ := Aside0.mk (hbox); have n3_ := Aside0.mk ((by rw [hg]; exact (below_size tat09Right_t1) : w.heap.size ≤ gb104)); have n4_ := Aside0.mk ((by rw [hg]; exact (below_size tat09Right_t1) : w.heap.size ≤ gb104)); have n5_ := Aside0.mk ((by rw [hg]; exact Nat.ne_of_lt (blk_lt (g := gb101) (o := .cells #[.slice (some ad103) l0_0.length c0_0, .int .i64 a0_1, .int .i64 a0_2] 24 (0, 0)) tat09Right_t3) : gb101 ≠ gb104)); have n6_ := Aside0.mk ((by rw [hg]; exact Nat.ne_of_gt (blk_lt (g := gb101) (o := .cells #[.slice (some ad103) l0_0.length c0_0, .int .i64 a0_1, .int .i64 a0_2] 24 (0, 0)) tat09Right_t3) : gb104 ≠ gb101)); clear BK101; clear HB; have BK101 := n0_; have HB := n1_; have BK104 := n2_; have GW104 := n3_; have GE104 := n4_; have NB101_104 := n5_; have NB104_101 := n6_; clear n0_ n1_ n2_ n3_ n4_ n5_ n6_; clear hb hbox hg; have hnb21 := NB104_101.out; have hnc21 := NB101_104.out; have hcz22_0 : w20.cell? ⟨gb104, 0, none⟩ = some (.int .i64 0) := (blk_cell BK104.out 0).trans rfl; have hcz22_1 : w20.cell? ⟨gb104, 1, none⟩ = some (.int .i64 0) := (blk_cell BK104.out 1).trans rfl; have hcz22_2 : w20.cell? ⟨gb104, 2, none⟩ = some (.int .i64 0) := (blk_cell BK104.out 2).trans rfl; have hcz22_3 : w20.cell? ⟨gb104, 3, none⟩ = some (.int .u64 0) := (blk_cell BK104.out 3).trans rfl; have hcz22_4 : w20.cell? ⟨gb104, 4, none⟩ = some (.int .u64 0) := (blk_cell BK104.out 4).trans rfl; have hcz22_5 : w20.cell? ⟨gb104, 5, none⟩ = some (.int .u64 0) := (blk_cell BK104.out 5).trans rfl; have hcz22_6 : w20.cell? ⟨gb104, 6, none⟩ = some (.int .u64 0) := (blk_cell BK104.out 6).trans rfl; have hfz22_0 := blk_frozen BK104.out 0; have hfz22_1 := blk_frozen BK104.out 1; have hfz22_2 := blk_frozen BK104.out 2; have hfz22_3 := blk_frozen BK104.out 3; have hfz22_4 := blk_frozen BK104.out 4; have hfz22_5 := blk_frozen BK104.out 5; have hfz22_6 := blk_frozen BK104.out 6))
         (try simp only [Act.put, List.setIfInBounds_toArray, List.set_cons_zero, List.set_cons_succ])
         go_cut [77] (fun v77 wc => ∃ (kq : Nat) (x77_17 : Bool), v77 = .bool x77_17 ∧ Aside0 (tattingref09_Right.j2 kq (l0_0.length : Int) x4_2 x5_2 x77_17 l0_0 a0_1 a0_2 ((rd_T64 l0_0 x5_2).f0) ((rd_T64 l0_0 x5_2).f1) ((rd_T64 l0_0 x5_2).f2) ((rd_T64 l0_0 x5_2).f3.f0) ((rd_T64 l0_0 x5_2).f3.f1) ((rd_T64 l0_0 x5_2).f3.f2) ((rd_T64 l0_0 x5_2).f3.f3) = some r) ∧ Aside0 (kq ≤ k2) ∧ Aside0 (wc.heap[gb101]? = some (.cells #[(.slice (some ad103) l0_0.length c0_0), .int .i64 a0_1, .int .i64 a0_2] 24 (0, 0))) ∧ Aside0 (wc.heap[gb104]? = some (.cells #[.int .i64 ((rd_T64 l0_0 x5_2).f0), .int .i64 ((rd_T64 l0_0 x5_2).f1), .int .i64 ((rd_T64 l0_0 x5_2).f2), .int .u64 ((rd_T64 l0_0 x5_2).f3.f0), .int .u64 ((rd_T64 l0_0 x5_2).f3.f1), .int .u64 ((rd_T64 l0_0 x5_2).f3.f2), .int .u64 ((rd_T64 l0_0 x5_2).f3.f3)] 64 (0, 0))) ∧ Aside0 (Below w.heap.size w wc))
         case first =>
          have H := HC18.out
          clear HC18
          by_cases c23 : ((rd_T64 l0_0 x5_2).f0) < 1
          ·rw [if_pos c23] at H
           have c23b0 : decide (((rd_T64 l0_0 x5_2).f0) < 1) = true := decide_eq_true c23
           clear c23
           (first | rw [c23b0] | (simp only [i64_w, i32_w]; rw [c23b0]) | skip)
           have H' := Aside0.mk H
           clear H
           have hnb24 := NB104_101.out
           have hnc24 := NB101_104.out
           exact tattingref09_Right_w0
          ·rw [if_neg c23] at H
           have c23b0 : decide (((rd_T64 l0_0 x5_2).f0) < 1) = false := decide_eq_false c23
           clear c23
           (first | rw [c23b0] | (simp only [i64_w, i32_w]; rw [c23b0]) | skip)
           by_cases c26 : ((rd_T64 l0_0 x5_2).f0) > 6
           ·rw [if_pos c26] at H
            have c26b0 : decide (6 < ((rd_T64 l0_0 x5_2).f0)) = true := decide_eq_true c26
            clear c26
            have H' := Aside0.mk H
            clear H
            have hnb27 := NB104_101.out
            have hnc27 := NB101_104.out
            exact tattingref09_Right_w0
           ·rw [if_neg c26] at H
            have c26b0 : decide (6 < ((rd_T64 l0_0 x5_2).f0)) = false := decide_eq_false c26
            clear c26
            by_cases c29 : ((rd_T64 l0_0 x5_2).f1) < 0
            ·rw [if_pos c29] at H
             have c29b0 : decide (((rd_T64 l0_0 x5_2).f1) < 0) = true := decide_eq_true c29
             clear c29
             have H' := Aside0.mk H
             clear H
             have hnb30 := NB104_101.out
             have hnc30 := NB101_104.out
             exact tattingref09_Right_w0
            ·rw [if_neg c29] at H
             have c29b0 : decide (((rd_T64 l0_0 x5_2).f1) < 0) = false := decide_eq_false c29
             clear c29
             by_cases c32 : ((rd_T64 l0_0 x5_2).f1) ≥ (l0_0.length : Int)
             ·rw [if_pos c32] at H
              have c32b0 : decide ((l0_0.length : Int) ≤ ((rd_T64 l0_0 x5_2).f1)) = true := decide_eq_true c32
              clear c32
              have H' := Aside0.mk H
              clear H
              have hnb33 := NB104_101.out
              have hnc33 := NB101_104.out
              exact tattingref09_Right_w0
             ·rw [if_neg c32] at H
              have c32b0 : decide ((l0_0.length : Int) ≤ ((rd_T64 l0_0 x5_2).f1)) = false := decide_eq_false c32
              clear c32
              by_cases c35 : ((rd_T64 l0_0 x5_2).f2) < 0
              ·rw [if_pos c35] at H
               have c35b0 : decide (((rd_T64 l0_0 x5_2).f2) < 0) = true := decide_eq_true c35
               clear c35
               have H' := Aside0.mk H
               clear H
               have hnb36 := NB104_101.out
               have hnc36 := NB101_104.out
               exact tattingref09_Right_w0
              ·rw [if_neg c35] at H
               have c35b0 : decide (((rd_T64 l0_0 x5_2).f2) < 0) = false := decide_eq_false c35
               clear c35
               have H' := Aside0.mk H
               clear H
               have hnb38 := NB104_101.out
               have hnc38 := NB101_104.out
               have hcz39_0 : w20.cell? ⟨gb104, 0, none⟩ = some (.int .i64 0) := (blk_cell BK104.out 0).trans rfl
               have hcz39_1 : w20.cell? ⟨gb104, 1, none⟩ = some (.int .i64 0) := (blk_cell BK104.out 1).trans rfl
               have hcz39_2 : w20.cell? ⟨gb104, 2, none⟩ = some (.int .i64 0) := (blk_cell BK104.out 2).trans rfl
               have hcz39_3 : w20.cell? ⟨gb104, 3, none⟩ = some (.int .u64 0) := (blk_cell BK104.out 3).trans rfl
               have hcz39_4 : w20.cell? ⟨gb104, 4, none⟩ = some (.int .u64 0) := (blk_cell BK104.out 4).trans rfl
               have hcz39_5 : w20.cell? ⟨gb104, 5, none⟩ = some (.int .u64 0) := (blk_cell BK104.out 5).trans rfl
               have hcz39_6 : w20.cell? ⟨gb104, 6, none⟩ = some (.int .u64 0) := (blk_cell BK104.out 6).trans rfl
               have hfz39_0 := blk_frozen BK104.out 0
               have hfz39_1 := blk_frozen BK104.out 1
               have hfz39_2 := blk_frozen BK104.out 2
               have hfz39_3 := blk_frozen BK104.out 3
               have hfz39_4 := blk_frozen BK104.out 4
               have hfz39_5 := blk_frozen BK104.out 5
               have hfz39_6 := blk_frozen BK104.out 6
               go_wp2
               go_meet
               case rel => exact ⟨_, (decide (((rd_T64 l0_0 x5_2).f2) ≥ (l0_0.length : Int))), tat09Right_t0, H', ⟨by have := HJ1.out; have := HK2.out; first | omega | exact Nat.le_refl _⟩, ⟨by (with_reducible repeat (first | refine blk_drewN ?_ _ | refine blk_drew ?_ | refine blk_alloc ?_ _)); refine blk_far ?_ NB101_104.out _; (with_reducible repeat (first | refine blk_drewN ?_ _ | refine blk_drew ?_ | refine blk_alloc ?_ _)); refine blk_far ?_ NB101_104.out _; (with_reducible repeat (first | refine blk_drewN ?_ _ | refine blk_drew ?_ | refine blk_alloc ?_ _)); refine blk_far ?_ NB101_104.out _; (with_reducible repeat (first | refine blk_drewN ?_ _ | refine blk_drew ?_ | refine blk_alloc ?_ _)); refine blk_far ?_ NB101_104.out _; (with_reducible repeat (first | refine blk_drewN ?_ _ | refine blk_drew ?_ | refine blk_alloc ?_ _)); refine blk_far ?_ NB101_104.out _; (with_reducible repeat (first | refine blk_drewN ?_ _ | refine blk_drew ?_ | refine blk_alloc ?_ _)); refine blk_far ?_ NB101_104.out _; (with_reducible repeat (first | refine blk_drewN ?_ _ | refine blk_drew ?_ | refine blk_alloc ?_ _)); refine blk_far ?_ NB101_104.out _; (with_reducible repeat (first | refine blk_drewN ?_ _ | refine blk_drew ?_ | refine blk_alloc ?_ _)); exact BK101.out⟩, ⟨by (with_reducible repeat (first | refine blk_drewN ?_ _ | refine blk_drew ?_ | refine blk_alloc ?_ _)); refine blk_put (cs := #[.int .i64 ((rd_T64 l0_0 x5_2).f0), .int .i64 ((rd_T64 l0_0 x5_2).f1), .int .i64 ((rd_T64 l0_0 x5_2).f2), .int .u64 ((rd_T64 l0_0 x5_2).f3.f0), .int .u64 ((rd_T64 l0_0 x5_2).f3.f1), .int .u64 ((rd_T64 l0_0 x5_2).f3.f2), .int .u64 0]) ?_ 6 _ rfl; (with_reducible repeat (first | refine blk_drewN ?_ _ | refine blk_drew ?_ | refine blk_alloc ?_ _)); refine blk_put (cs := #[.int .i64 ((rd_T64 l0_0 x5_2).f0), .int .i64 ((rd_T64 l0_0 x5_2).f1), .int .i64 ((rd_T64 l0_0 x5_2).f2), .int .u64 ((rd_T64 l0_0 x5_2).f3.f0), .int .u64 ((rd_T64 l0_0 x5_2).f3.f1), .int .u64 0, .int .u64 0]) ?_ 5 _ rfl; (with_reducible repeat (first | refine blk_drewN ?_ _ | refine blk_drew ?_ | refine blk_alloc ?_ _)); refine blk_put (cs := #[.int .i64 ((rd_T64 l0_0 x5_2).f0), .int .i64 ((rd_T64 l0_0 x5_2).f1), .int .i64 ((rd_T64 l0_0 x5_2).f2), .int .u64 ((rd_T64 l0_0 x5_2).f3.f0), .int .u64 0, .int .u64 0, .int .u64 0]) ?_ 4 _ rfl; (with_reducible repeat (first | refine blk_drewN ?_ _ | refine blk_drew ?_ | refine blk_alloc ?_ _)); refine blk_put (cs := #[.int .i64 ((rd_T64 l0_0 x5_2).f0), .int .i64 ((rd_T64 l0_0 x5_2).f1), .int .i64 ((rd_T64 l0_0 x5_2).f2), .int .u64 0, .int .u64 0, .int .u64 0, .int .u64 0]) ?_ 3 _ rfl; (with_reducible repeat (first | refine blk_drewN ?_ _ | refine blk_drew ?_ | refine blk_alloc ?_ _)); refine blk_put (cs := #[.int .i64 ((rd_T64 l0_0 x5_2).f0), .int .i64 ((rd_T64 l0_0 x5_2).f1), .int .i64 0, .int .u64 0, .int .u64 0, .int .u64 0, .int .u64 0]) ?_ 2 _ rfl; (with_reducible repeat (first | refine blk_drewN ?_ _ | refine blk_drew ?_ | refine blk_alloc ?_ _)); refine blk_put (cs := #[.int .i64 ((rd_T64 l0_0 x5_2).f0), .int .i64 0, .int .i64 0, .int .u64 0, .int .u64 0, .int .u64 0, .int .u64 0]) ?_ 1 _ rfl; (with_reducible repeat (first | refine blk_drewN ?_ _ | refine blk_drew ?_ | refine blk_alloc ?_ _)); refine blk_put (cs := #[.int .i64 0, .int .i64 0, .int .i64 0, .int .u64 0, .int .u64 0, .int .u64 0, .int .u64 0]) ?_ 0 _ rfl; (with_reducible repeat (first | refine blk_drewN ?_ _ | refine blk_drew ?_ | refine blk_alloc ?_ _)); exact BK104.out⟩, ⟨by repeat (first | (with_reducible first | exact HB.out | apply below_alloc | apply pw_below_drewN | apply below_drew1 | refine below_set ?_ GE101.out | refine below_set ?_ GE104.out) | exact HB.out)⟩⟩
         case rest =>
          clear HC18
          try clear c1
          try clear p1
          try clear q1
          try clear hx1
          try clear c2
          try clear p2
          try clear c3
          try clear c5
          try clear c5b0
          try clear c5b1
          try clear c5b2
          try clear c6
          try clear c6b0
          try clear c6b1
          try clear c7
          try clear c7b0
          try clear c9
          try clear c9b0
          try clear p10
          try clear q10
          try clear hx10
          try clear c11
          try clear c11b0
          try clear c14
          try clear c15
          try clear c15b0
          try clear c16
          try clear c16b0
          try clear c17
          try clear c17b0
          try clear c21
          try clear c23
          try clear c23b0
          try clear c24
          try clear c26
          try clear c26b0
          try clear c27
          try clear c29
          try clear c29b0
          try clear c30
          try clear c32
          try clear c32b0
          try clear c33
          try clear c35
          try clear c35b0
          try clear c36
          try clear c38
          try clear hcz10_0
          try clear hcz10_1
          try clear hcz10_2
          try clear hcz12_0
          try clear hcz12_1
          try clear hcz12_2
          try clear hcz13_0
          try clear hcz13_1
          try clear hcz13_2
          try clear hcz19_0
          try clear hcz19_1
          try clear hcz19_2
          try clear hcz22_0
          try clear hcz22_1
          try clear hcz22_2
          try clear hcz22_3
          try clear hcz22_4
          try clear hcz22_5
          try clear hcz22_6
          try clear hcz25_0
          try clear hcz25_1
          try clear hcz25_2
          try clear hcz25_3
          try clear hcz25_4
          try clear hcz25_5
          try clear hcz25_6
          try clear hcz28_0
          try clear hcz28_1
          try clear hcz28_2
          try clear hcz28_3
          try clear hcz28_4
          try clear hcz28_5
          try clear hcz28_6
          try clear hcz31_0
          try clear hcz31_1
          try clear hcz31_2
          try clear hcz31_3
          try clear hcz31_4
          try clear hcz31_5
          try clear hcz31_6
          try clear hcz34_0
          try clear hcz34_1
          try clear hcz34_2
          try clear hcz34_3
          try clear hcz34_4
          try clear hcz34_5
          try clear hcz34_6
          try clear hcz37_0
          try clear hcz37_1
          try clear hcz37_2
          try clear hcz37_3
          try clear hcz37_4
          try clear hcz37_5
          try clear hcz37_6
          try clear hcz39_0
          try clear hcz39_1
          try clear hcz39_2
          try clear hcz39_3
          try clear hcz39_4
          try clear hcz39_5
          try clear hcz39_6
          try clear hcz4_0
          try clear hcz4_1
          try clear hcz4_2
          try clear hcz8_0
          try clear hcz8_1
          try clear hcz8_2
          try clear hfz10_0
          try clear hfz10_1
          try clear hfz10_2
          try clear hfz12_0
          try clear hfz12_1
          try clear hfz12_2
          try clear hfz13_0
          try clear hfz13_1
          try clear hfz13_2
          try clear hfz19_0
          try clear hfz19_1
          try clear hfz19_2
          try clear hfz22_0
          try clear hfz22_1
          try clear hfz22_2
          try clear hfz22_3
          try clear hfz22_4
          try clear hfz22_5
          try clear hfz22_6
          try clear hfz25_0
          try clear hfz25_1
          try clear hfz25_2
          try clear hfz25_3
          try clear hfz25_4
          try clear hfz25_5
          try clear hfz25_6
          try clear hfz28_0
          try clear hfz28_1
          try clear hfz28_2
          try clear hfz28_3
          try clear hfz28_4
          try clear hfz28_5
          try clear hfz28_6
          try clear hfz31_0
          try clear hfz31_1
          try clear hfz31_2
          try clear hfz31_3
          try clear hfz31_4
          try clear hfz31_5
          try clear hfz31_6
          try clear hfz34_0
          try clear hfz34_1
          try clear hfz34_2
          try clear hfz34_3
          try clear hfz34_4
          try clear hfz34_5
          try clear hfz34_6
          try clear hfz37_0
          try clear hfz37_1
          try clear hfz37_2
          try clear hfz37_3
          try clear hfz37_4
          try clear hfz37_5
          try clear hfz37_6
          try clear hfz39_0
          try clear hfz39_1
          try clear hfz39_2
          try clear hfz39_3
          try clear hfz39_4
          try clear hfz39_5
          try clear hfz39_6
          try clear hfz4_0
          try clear hfz4_1
          try clear hfz4_2
          try clear hfz8_0
          try clear hfz8_1
          try clear hfz8_2
          try clear hx103_0
          try clear hx103_1
          try clear hx103_2
          try clear hx103_3
          try clear hx103_4
          try clear hx103_5
          try clear hx103_6
          try clear p103
          try clear p2
          try clear q103
          obtain ⟨kq, x77_17, rfl, HA, HJ17, BK101, BK104, HB⟩ := hcut
          cases kq with
          | zero => exact absurd HA.out (by simp [tattingref09_Right.j2])
          | succ kj17 =>
           have H := HA.out
           clear HA
           simp only [tattingref09_Right.j2] at H
           by_cases c40 : x77_17 = true
           ·subst c40
            have H1 : (some false) = some r := by rw [if_pos rfl] at H; exact H
            clear H
            have H := H1
            clear H1
            obtain rfl := Option.some.inj H
            go_wp2
            go_ret
            exact ⟨by first | rfl | (simp [errW_none, errW_some] <;> rfl) | (simp [*, errW_none, errW_some] <;> rfl), by repeat (first | (with_reducible first | exact HB.out | apply below_alloc | apply pw_below_drewN | apply below_drew1 | refine below_set ?_ GE101.out | refine below_set ?_ GE104.out) | exact HB.out)⟩
           ·replace c40 := Bool.eq_false_iff.mpr c40
            subst c40
            have H1 : (if ((rd_T64 l0_0 x5_2).f0) = 6 then (if ((rd_T64 l0_0 x5_2).f0) = 1 then (if ((rd_T64 l0_0 x5_2).f0) = 3 then (if ((rd_T64 l0_0 x5_2).f1) = 0 then (tattingref09_Right.l0 kj17 (l0_0.length : Int) (wrap64 (x4_2 + 1)) (wrap64 (x5_2 + 1)) l0_0 a0_1 a0_2) else (some false)) else (if ((rd_T64 l0_0 x5_2).f2) = 0 then (if ((rd_T64 l0_0 x5_2).f1) = 0 then (tattingref09_Right.l0 kj17 (l0_0.length : Int) (wrap64 (x4_2 + 1)) (wrap64 (x5_2 + 1)) l0_0 a0_1 a0_2) else (some false)) else (some false))) else (if (!(((rd_T64 l0_0 x5_2).f3.f0) == 0) || (!(((rd_T64 l0_0 x5_2).f3.f1) == 0) || (!(((rd_T64 l0_0 x5_2).f3.f2) == 0) || (!(((rd_T64 l0_0 x5_2).f3.f3) == 0))))) = true then (some false) else (if ((rd_T64 l0_0 x5_2).f0) = 3 then (if ((rd_T64 l0_0 x5_2).f1) = 0 then (tattingref09_Right.l0 kj17 (l0_0.length : Int) (wrap64 (x4_2 + 1)) (wrap64 (x5_2 + 1)) l0_0 a0_1 a0_2) else (some false)) else (if ((rd_T64 l0_0 x5_2).f2) = 0 then (if ((rd_T64 l0_0 x5_2).f1) = 0 then (tattingref09_Right.l0 kj17 (l0_0.length : Int) (wrap64 (x4_2 + 1)) (wrap64 (x5_2 + 1)) l0_0 a0_1 a0_2) else (some false)) else (some false))))) else (if ((rd_T64 l0_0 x5_2).f0) = 1 then (if ((rd_T64 l0_0 x5_2).f0) = 3 then (tattingref09_Right.l0 kj17 (l0_0.length : Int) x4_2 (wrap64 (x5_2 + 1)) l0_0 a0_1 a0_2) else (if ((rd_T64 l0_0 x5_2).f2) = 0 then (tattingref09_Right.l0 kj17 (l0_0.length : Int) x4_2 (wrap64 (x5_2 + 1)) l0_0 a0_1 a0_2) else (some false))) else (if (!(((rd_T64 l0_0 x5_2).f3.f0) == 0) || (!(((rd_T64 l0_0 x5_2).f3.f1) == 0) || (!(((rd_T64 l0_0 x5_2).f3.f2) == 0) || (!(((rd_T64 l0_0 x5_2).f3.f3) == 0))))) = true then (some false) else (if ((rd_T64 l0_0 x5_2).f0) = 3 then (tattingref09_Right.l0 kj17 (l0_0.length : Int) x4_2 (wrap64 (x5_2 + 1)) l0_0 a0_1 a0_2) else (if ((rd_T64 l0_0 x5_2).f2) = 0 then (tattingref09_Right.l0 kj17 (l0_0.length : Int) x4_2 (wrap64 (x5_2 + 1)) l0_0 a0_1 a0_2) else (some false)))))) = some r := by rw [if_neg (show ¬ (false = true) by decide)] at H; exact H
            clear H
            have H := H1
            clear H1
            by_cases c41 : ((rd_T64 l0_0 x5_2).f0) = 6
            ·rw [if_pos c41] at H
             have c41b0 : (((rd_T64 l0_0 x5_2).f0) == 6) = true := beq_iff_eq.mpr c41
             have c41b1 : (((rd_T64 l0_0 x5_2).f0) != 6) = false := bne_eq_false_iff_eq.mpr c41
             clear c41
             by_cases c42 : ((rd_T64 l0_0 x5_2).f0) = 1
             ·rw [if_pos c42] at H
              have c42b0 : (((rd_T64 l0_0 x5_2).f0) == 1) = true := beq_iff_eq.mpr c42
              have c42b1 : (((rd_T64 l0_0 x5_2).f0) != 1) = false := bne_eq_false_iff_eq.mpr c42
              clear c42
              by_cases c43 : ((rd_T64 l0_0 x5_2).f0) = 3
              ·rw [if_pos c43] at H
               have c43b0 : (((rd_T64 l0_0 x5_2).f0) == 3) = true := beq_iff_eq.mpr c43
               have c43b1 : (((rd_T64 l0_0 x5_2).f0) != 3) = false := bne_eq_false_iff_eq.mpr c43
               clear c43
               by_cases c44 : ((rd_T64 l0_0 x5_2).f1) = 0
               ·rw [if_pos c44] at H
                have c44b0 : (((rd_T64 l0_0 x5_2).f1) == 0) = true := beq_iff_eq.mpr c44
                have c44b1 : (((rd_T64 l0_0 x5_2).f1) != 0) = false := bne_eq_false_iff_eq.mpr c44
                clear c44
                have H' := Aside0.mk H
                clear H
                have hnb45 := NB104_101.out
                have hnc45 := NB101_104.out
                exact tattingref09_Right_w2
               ·rw [if_neg c44] at H
                have c44b0 : (((rd_T64 l0_0 x5_2).f1) == 0) = false := beq_eq_false_iff_ne.mpr c44
                have c44b1 : (((rd_T64 l0_0 x5_2).f1) != 0) = true := bne_iff_ne.mpr c44
                obtain rfl := Option.some.inj H
                have hnb47 := NB104_101.out
                have hnc47 := NB101_104.out
                exact tattingref09_Right_w1
              ·rw [if_neg c43] at H
               have c43b0 : (((rd_T64 l0_0 x5_2).f0) == 3) = false := beq_eq_false_iff_ne.mpr c43
               have c43b1 : (((rd_T64 l0_0 x5_2).f0) != 3) = true := bne_iff_ne.mpr c43
               by_cases c49 : ((rd_T64 l0_0 x5_2).f2) = 0
               ·rw [if_pos c49] at H
                have c49b0 : (((rd_T64 l0_0 x5_2).f2) == 0) = true := beq_iff_eq.mpr c49
                have c49b1 : (((rd_T64 l0_0 x5_2).f2) != 0) = false := bne_eq_false_iff_eq.mpr c49
                clear c49
                by_cases c50 : ((rd_T64 l0_0 x5_2).f1) = 0
                ·rw [if_pos c50] at H
                 have c50b0 : (((rd_T64 l0_0 x5_2).f1) == 0) = true := beq_iff_eq.mpr c50
                 have c50b1 : (((rd_T64 l0_0 x5_2).f1) != 0) = false := bne_eq_false_iff_eq.mpr c50
                 clear c50
                 have H' := Aside0.mk H
                 clear H
                 have hnb51 := NB104_101.out
                 have hnc51 := NB101_104.out
                 exact tattingref09_Right_w2
                ·rw [if_neg c50] at H
                 have c50b0 : (((rd_T64 l0_0 x5_2).f1) == 0) = false := beq_eq_false_iff_ne.mpr c50
                 have c50b1 : (((rd_T64 l0_0 x5_2).f1) != 0) = true := bne_iff_ne.mpr c50
                 obtain rfl := Option.some.inj H
                 have hnb53 := NB104_101.out
                 have hnc53 := NB101_104.out
                 exact tattingref09_Right_w1
               ·rw [if_neg c49] at H
                have c49b0 : (((rd_T64 l0_0 x5_2).f2) == 0) = false := beq_eq_false_iff_ne.mpr c49
                have c49b1 : (((rd_T64 l0_0 x5_2).f2) != 0) = true := bne_iff_ne.mpr c49
                obtain rfl := Option.some.inj H
                have hnb55 := NB104_101.out
                have hnc55 := NB101_104.out
                exact tattingref09_Right_w1
             ·rw [if_neg c42] at H
              have c42b0 : (((rd_T64 l0_0 x5_2).f0) == 1) = false := beq_eq_false_iff_ne.mpr c42
              have c42b1 : (((rd_T64 l0_0 x5_2).f0) != 1) = true := bne_iff_ne.mpr c42
              by_cases c57 : (!(((rd_T64 l0_0 x5_2).f3.f0) == 0) || (!(((rd_T64 l0_0 x5_2).f3.f1) == 0) || (!(((rd_T64 l0_0 x5_2).f3.f2) == 0) || (!(((rd_T64 l0_0 x5_2).f3.f3) == 0))))) = true
              ·rw [if_pos c57] at H
               have c57b0 : (!(((rd_T64 l0_0 x5_2).f3.f0) == 0) || (!(((rd_T64 l0_0 x5_2).f3.f1) == 0) || (!(((rd_T64 l0_0 x5_2).f3.f2) == 0) || (!(((rd_T64 l0_0 x5_2).f3.f3) == 0))))) = true := c57
               clear c57
               obtain rfl := Option.some.inj H
               have hnb58 := NB104_101.out
               have hnc58 := NB101_104.out
               exact tattingref09_Right_w1
              ·rw [if_neg c57] at H
               have c57b0 : (!(((rd_T64 l0_0 x5_2).f3.f0) == 0) || (!(((rd_T64 l0_0 x5_2).f3.f1) == 0) || (!(((rd_T64 l0_0 x5_2).f3.f2) == 0) || (!(((rd_T64 l0_0 x5_2).f3.f3) == 0))))) = false := by simpa using c57
               clear c57
               by_cases c60 : ((rd_T64 l0_0 x5_2).f0) = 3
               ·rw [if_pos c60] at H
                have c60b0 : (((rd_T64 l0_0 x5_2).f0) == 3) = true := beq_iff_eq.mpr c60
                have c60b1 : (((rd_T64 l0_0 x5_2).f0) != 3) = false := bne_eq_false_iff_eq.mpr c60
                clear c60
                by_cases c61 : ((rd_T64 l0_0 x5_2).f1) = 0
                ·rw [if_pos c61] at H
                 have c61b0 : (((rd_T64 l0_0 x5_2).f1) == 0) = true := beq_iff_eq.mpr c61
                 have c61b1 : (((rd_T64 l0_0 x5_2).f1) != 0) = false := bne_eq_false_iff_eq.mpr c61
                 clear c61
                 have H' := Aside0.mk H
                 clear H
                 have hnb62 := NB104_101.out
                 have hnc62 := NB101_104.out
                 exact tattingref09_Right_w2
                ·rw [if_neg c61] at H
                 have c61b0 : (((rd_T64 l0_0 x5_2).f1) == 0) = false := beq_eq_false_iff_ne.mpr c61
                 have c61b1 : (((rd_T64 l0_0 x5_2).f1) != 0) = true := bne_iff_ne.mpr c61
                 obtain rfl := Option.some.inj H
                 have hnb64 := NB104_101.out
                 have hnc64 := NB101_104.out
                 exact tattingref09_Right_w1
               ·rw [if_neg c60] at H
                have c60b0 : (((rd_T64 l0_0 x5_2).f0) == 3) = false := beq_eq_false_iff_ne.mpr c60
                have c60b1 : (((rd_T64 l0_0 x5_2).f0) != 3) = true := bne_iff_ne.mpr c60
                by_cases c66 : ((rd_T64 l0_0 x5_2).f2) = 0
                ·rw [if_pos c66] at H
                 have c66b0 : (((rd_T64 l0_0 x5_2).f2) == 0) = true := beq_iff_eq.mpr c66
                 have c66b1 : (((rd_T64 l0_0 x5_2).f2) != 0) = false := bne_eq_false_iff_eq.mpr c66
                 clear c66
                 by_cases c67 : ((rd_T64 l0_0 x5_2).f1) = 0
                 ·rw [if_pos c67] at H
                  have c67b0 : (((rd_T64 l0_0 x5_2).f1) == 0) = true := beq_iff_eq.mpr c67
                  have c67b1 : (((rd_T64 l0_0 x5_2).f1) != 0) = false := bne_eq_false_iff_eq.mpr c67
                  clear c67
                  have H' := Aside0.mk H
                  clear H
                  have hnb68 := NB104_101.out
                  have hnc68 := NB101_104.out
                  exact tattingref09_Right_w2
                 ·rw [if_neg c67] at H
                  have c67b0 : (((rd_T64 l0_0 x5_2).f1) == 0) = false := beq_eq_false_iff_ne.mpr c67
                  have c67b1 : (((rd_T64 l0_0 x5_2).f1) != 0) = true := bne_iff_ne.mpr c67
                  obtain rfl := Option.some.inj H
                  have hnb70 := NB104_101.out
                  have hnc70 := NB101_104.out
                  exact tattingref09_Right_w1
                ·rw [if_neg c66] at H
                 have c66b0 : (((rd_T64 l0_0 x5_2).f2) == 0) = false := beq_eq_false_iff_ne.mpr c66
                 have c66b1 : (((rd_T64 l0_0 x5_2).f2) != 0) = true := bne_iff_ne.mpr c66
                 obtain rfl := Option.some.inj H
                 have hnb72 := NB104_101.out
                 have hnc72 := NB101_104.out
                 exact tattingref09_Right_w1
            ·rw [if_neg c41] at H
             have c41b0 : (((rd_T64 l0_0 x5_2).f0) == 6) = false := beq_eq_false_iff_ne.mpr c41
             have c41b1 : (((rd_T64 l0_0 x5_2).f0) != 6) = true := bne_iff_ne.mpr c41
             by_cases c74 : ((rd_T64 l0_0 x5_2).f0) = 1
             ·rw [if_pos c74] at H
              have c74b0 : (((rd_T64 l0_0 x5_2).f0) == 1) = true := beq_iff_eq.mpr c74
              have c74b1 : (((rd_T64 l0_0 x5_2).f0) != 1) = false := bne_eq_false_iff_eq.mpr c74
              clear c74
              by_cases c75 : ((rd_T64 l0_0 x5_2).f0) = 3
              ·rw [if_pos c75] at H
               have c75b0 : (((rd_T64 l0_0 x5_2).f0) == 3) = true := beq_iff_eq.mpr c75
               have c75b1 : (((rd_T64 l0_0 x5_2).f0) != 3) = false := bne_eq_false_iff_eq.mpr c75
               clear c75
               have H' := Aside0.mk H
               clear H
               have hnb76 := NB104_101.out
               have hnc76 := NB101_104.out
               exact tattingref09_Right_w3
              ·rw [if_neg c75] at H
               have c75b0 : (((rd_T64 l0_0 x5_2).f0) == 3) = false := beq_eq_false_iff_ne.mpr c75
               have c75b1 : (((rd_T64 l0_0 x5_2).f0) != 3) = true := bne_iff_ne.mpr c75
               by_cases c78 : ((rd_T64 l0_0 x5_2).f2) = 0
               ·rw [if_pos c78] at H
                have c78b0 : (((rd_T64 l0_0 x5_2).f2) == 0) = true := beq_iff_eq.mpr c78
                have c78b1 : (((rd_T64 l0_0 x5_2).f2) != 0) = false := bne_eq_false_iff_eq.mpr c78
                clear c78
                have H' := Aside0.mk H
                clear H
                have hnb79 := NB104_101.out
                have hnc79 := NB101_104.out
                exact tattingref09_Right_w3
               ·rw [if_neg c78] at H
                have c78b0 : (((rd_T64 l0_0 x5_2).f2) == 0) = false := beq_eq_false_iff_ne.mpr c78
                have c78b1 : (((rd_T64 l0_0 x5_2).f2) != 0) = true := bne_iff_ne.mpr c78
                obtain rfl := Option.some.inj H
                have hnb81 := NB104_101.out
                have hnc81 := NB101_104.out
                exact tattingref09_Right_w1
             ·rw [if_neg c74] at H
              have c74b0 : (((rd_T64 l0_0 x5_2).f0) == 1) = false := beq_eq_false_iff_ne.mpr c74
              have c74b1 : (((rd_T64 l0_0 x5_2).f0) != 1) = true := bne_iff_ne.mpr c74
              by_cases c83 : (!(((rd_T64 l0_0 x5_2).f3.f0) == 0) || (!(((rd_T64 l0_0 x5_2).f3.f1) == 0) || (!(((rd_T64 l0_0 x5_2).f3.f2) == 0) || (!(((rd_T64 l0_0 x5_2).f3.f3) == 0))))) = true
              ·rw [if_pos c83] at H
               have c83b0 : (!(((rd_T64 l0_0 x5_2).f3.f0) == 0) || (!(((rd_T64 l0_0 x5_2).f3.f1) == 0) || (!(((rd_T64 l0_0 x5_2).f3.f2) == 0) || (!(((rd_T64 l0_0 x5_2).f3.f3) == 0))))) = true := c83
               clear c83
               obtain rfl := Option.some.inj H
               have hnb84 := NB104_101.out
               have hnc84 := NB101_104.out
               exact tattingref09_Right_w1
              ·rw [if_neg c83] at H
               have c83b0 : (!(((rd_T64 l0_0 x5_2).f3.f0) == 0) || (!(((rd_T64 l0_0 x5_2).f3.f1) == 0) || (!(((rd_T64 l0_0 x5_2).f3.f2) == 0) || (!(((rd_T64 l0_0 x5_2).f3.f3) == 0))))) = false := by simpa using c83
               clear c83
               by_cases c86 : ((rd_T64 l0_0 x5_2).f0) = 3
               ·rw [if_pos c86] at H
                have c86b0 : (((rd_T64 l0_0 x5_2).f0) == 3) = true := beq_iff_eq.mpr c86
                have c86b1 : (((rd_T64 l0_0 x5_2).f0) != 3) = false := bne_eq_false_iff_eq.mpr c86
                clear c86
                have H' := Aside0.mk H
                clear H
                have hnb87 := NB104_101.out
                have hnc87 := NB101_104.out
                exact tattingref09_Right_w3
               ·rw [if_neg c86] at H
                have c86b0 : (((rd_T64 l0_0 x5_2).f0) == 3) = false := beq_eq_false_iff_ne.mpr c86
                have c86b1 : (((rd_T64 l0_0 x5_2).f0) != 3) = true := bne_iff_ne.mpr c86
                by_cases c89 : ((rd_T64 l0_0 x5_2).f2) = 0
                ·rw [if_pos c89] at H
                 have c89b0 : (((rd_T64 l0_0 x5_2).f2) == 0) = true := beq_iff_eq.mpr c89
                 have c89b1 : (((rd_T64 l0_0 x5_2).f2) != 0) = false := bne_eq_false_iff_eq.mpr c89
                 clear c89
                 have H' := Aside0.mk H
                 clear H
                 have hnb90 := NB104_101.out
                 have hnc90 := NB101_104.out
                 exact tattingref09_Right_w3
                ·rw [if_neg c89] at H
                 have c89b0 : (((rd_T64 l0_0 x5_2).f2) == 0) = false := beq_eq_false_iff_ne.mpr c89
                 have c89b1 : (((rd_T64 l0_0 x5_2).f2) != 0) = true := bne_iff_ne.mpr c89
                 obtain rfl := Option.some.inj H
                 have hnb92 := NB104_101.out
                 have hnc92 := NB101_104.out
                 exact tattingref09_Right_w1
        ·rw [if_neg c17] at H
         exact absurd H (by simp)
       ·rw [if_neg c16] at H
        exact absurd H (by simp)
      ·rw [if_neg c15] at H
       have c15b0 : decide (x5_2 < (l0_0.length : Int)) = false := decide_eq_false c15
       clear c15
       by_cases c94 : x4_2 = 1
       ·rw [if_pos c94] at H
        have c94b0 : (x4_2 == 1) = true := beq_iff_eq.mpr c94
        have c94b1 : (x4_2 != 1) = false := bne_eq_false_iff_eq.mpr c94
        clear c94
        by_cases c95 : 0 ≤ a0_2
        ·rw [if_pos c95] at H
         have c95b0 : decide (0 ≤ a0_2) = true := decide_eq_true c95
         clear c95
         by_cases c96 : a0_2 < (l0_0.length : Int)
         ·rw [if_pos c96] at H
          have c96b0 : decide (a0_2 < (l0_0.length : Int)) = true := decide_eq_true c96
          clear c96
          obtain rfl := Option.some.inj H
          have hcz97_0 : wr.cell? ⟨gb101, 0, none⟩ = some (.slice A0_0 l0_0.length c0_0) := (blk_cell BK101.out 0).trans rfl
          have hcz97_1 : wr.cell? ⟨gb101, 1, none⟩ = some (.int .i64 a0_1) := (blk_cell BK101.out 1).trans rfl
          have hcz97_2 : wr.cell? ⟨gb101, 2, none⟩ = some (.int .i64 a0_2) := (blk_cell BK101.out 2).trans rfl
          have hfz97_0 := blk_frozen BK101.out 0
          have hfz97_1 := blk_frozen BK101.out 1
          have hfz97_2 := blk_frozen BK101.out 2
          have p102 : 0 ≤ (a0_2 : Int) := of_decide_eq_true (by first | (with_reducible assumption) | assumption)
          have q102 : a0_2 < (l0_0.length : Int) := of_decide_eq_true (by first | (with_reducible assumption) | assumption)
          obtain ⟨ad102, e102, hx102_0, hx102_1, hx102_2, hx102_3, hx102_4, hx102_5, hx102_6⟩ := at_T64 HR0_0.out a0_2 p102 q102
          cases e102
          replace hx102_0 := (HB.out.cell (World.block_lt_of_cell? w _ hx102_0)).trans hx102_0
          replace hx102_1 := (HB.out.cell (World.block_lt_of_cell? w _ hx102_1)).trans hx102_1
          replace hx102_2 := (HB.out.cell (World.block_lt_of_cell? w _ hx102_2)).trans hx102_2
          replace hx102_3 := (HB.out.cell (World.block_lt_of_cell? w _ hx102_3)).trans hx102_3
          replace hx102_4 := (HB.out.cell (World.block_lt_of_cell? w _ hx102_4)).trans hx102_4
          replace hx102_5 := (HB.out.cell (World.block_lt_of_cell? w _ hx102_5)).trans hx102_5
          replace hx102_6 := (HB.out.cell (World.block_lt_of_cell? w _ hx102_6)).trans hx102_6
          replace p102 := eq_true p102
          replace q102 := eq_true q102
          go_wp2
          go_ret
          exact ⟨by first | rfl | (simp [errW_none, errW_some] <;> rfl) | (simp [*, errW_none, errW_some] <;> rfl), by repeat (first | (with_reducible first | exact HB.out | apply below_alloc | apply pw_below_drewN | apply below_drew1 | refine below_set ?_ GE101.out) | exact HB.out)⟩
         ·rw [if_neg c96] at H
          exact absurd H (by simp)
        ·rw [if_neg c95] at H
         exact absurd H (by simp)
       ·rw [if_neg c94] at H
        have c94b0 : (x4_2 == 1) = false := beq_eq_false_iff_ne.mpr c94
        have c94b1 : (x4_2 != 1) = true := bne_iff_ne.mpr c94
        obtain rfl := Option.some.inj H
        go_wp2
        go_ret
        exact ⟨by first | rfl | (simp [errW_none, errW_some] <;> rfl) | (simp [*, errW_none, errW_some] <;> rfl), by repeat (first | (with_reducible first | exact HB.out | apply below_alloc | apply pw_below_drewN | apply below_drew1 | refine below_set ?_ GE101.out) | exact HB.out)⟩
end Go.Proofs.YtfjemaeidmikmaaDoorQ
