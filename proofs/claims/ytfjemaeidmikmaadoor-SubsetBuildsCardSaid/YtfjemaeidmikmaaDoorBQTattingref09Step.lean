import Derived.Test.YtfjemaeidmikmaaDoorBQ0
import Derived.Test.YtfjemaeidmikmaaDoorBM3
import Derived.Test.YtfjemaeidmikmaaDoorBQTattingref09Close
namespace Go.Proofs.YtfjemaeidmikmaaDoorQ
open Go.RowKit Go.Proofs.YtfjemaeidmikmaaDoorW.PrintWords Go.Proofs.YtfjemaeidmikmaaDoorW.PrintLast Go.Proofs.YtfjemaeidmikmaaDoorW.PrintMore
attribute [local go_sem] max2_int min2_int max_two min_two max_three min_three max_four min_four
set_option linter.unusedVariables false
set_option linter.unusedSimpArgs false
def tattingref09_Step.l0 : Nat → List Bool → Int → List Bool → Int → List (S64) → Int → Int → Option (List Bool)
 | 0, _, _, _, _, _, _, _ => none
 | k + 1, x1, x2, x7, x8, x102000, x102001, x102002 => if x8 < (x102000.length : Int) then (if 0 ≤ x8 then (if x8 < (x1.length : Int) then (if rdOf false x1 x8 = true then (if ((rd_T64 x102000 x8).f0) = 1 then ((tattingref01_Has.f ((rd_T64 x102000 x8).f3.f0) ((rd_T64 x102000 x8).f3.f1) ((rd_T64 x102000 x8).f3.f2) ((rd_T64 x102000 x8).f3.f3) x2).bind fun t108 => (if t108 = true then (if 0 ≤ ((rd_T64 x102000 x8).f1) then (if ((rd_T64 x102000 x8).f1) < (x7.length : Int) then (tattingref09_Step.l0 k x1 x2 (x7.set (((rd_T64 x102000 x8).f1) : Int).toNat true) (wrap64 (x8 + 1)) x102000 x102001 x102002) else (none)) else (none)) else (tattingref09_Step.l0 k x1 x2 x7 (wrap64 (x8 + 1)) x102000 x102001 x102002))) else (tattingref09_Step.l0 k x1 x2 x7 (wrap64 (x8 + 1)) x102000 x102001 x102002)) else (tattingref09_Step.l0 k x1 x2 x7 (wrap64 (x8 + 1)) x102000 x102001 x102002)) else (none)) else (none)) else ((tattingref09_Close.f k x102000 x102001 x102002 x7 0).bind fun t111 => (some t111))
def tattingref09_Step.f (k : Nat) (l0_0 : List (S64)) (a0_1 : Int) (a0_2 : Int) (l1 : List Bool) (a2 : Int) : Option (List Bool) := if 0 ≤ (l0_0.length : Int) then (if ((l0_0.length : Int) : Int).toNat ≤ 281474976710656 then (tattingref09_Step.l0 k l1 a2 (List.replicate ((l0_0.length : Int) : Int).toNat false) 0 l0_0 a0_1 a0_2) else (none)) else (none)
theorem tat09Steep_t4 {P : Prop} (h : P := by repeat (first | (with_reducible first | exact HB.out | apply below_alloc | apply pw_below_drewN | apply below_drew1) | exact HB.out)) : P := h
theorem tat09Steep_t3 {P : Prop} (h : P := by (with_reducible repeat (first | apply Kd.R_alloc | apply Kd.R_drewN | apply Kd.R_drew)); exact HO_7.out) : P := h
theorem tat09Steep_t2 {P : Prop} (h : P := by (with_reducible repeat (first | refine blk_drewN ?_ _ | refine blk_drew ?_ | refine blk_alloc ?_ _)); exact BK101.out) : P := h
theorem tat09Steep_t1 {P : Prop} (h : P := by repeat (first | (with_reducible first | exact HB.out | apply below_alloc | apply pw_below_drewN | apply below_drew1 | refine below_set ?_ GE101.out) | exact HB.out)) : P := h
theorem tat09Steep_t0 {P : Prop} (h : P := by first | (with_reducible assumption) | assumption) : P := h
theorem tattingref09_Step_w0 {P : Prop} (h : P := by
 go_roundg k1
 case measure => have := HK1.out; omega
 case rel => exact ⟨(x7_1), (wrap64 (x8_1 + 1)), (by first | rfl | (simp; done) | (simp [*]; done)), H', ⟨by have := HK1.out; omega⟩, ⟨by (with_reducible repeat (first | apply Kd.R_alloc | apply Kd.R_drewN | apply Kd.R_drew)); exact HO_7.out⟩, ⟨by (with_reducible repeat (first | refine blk_drewN ?_ _ | refine blk_drew ?_ | refine blk_alloc ?_ _)); exact BK101.out⟩, ⟨by repeat (first | (with_reducible first | exact HB.out | apply below_alloc | apply pw_below_drewN | apply below_drew1 | refine below_set ?_ GE101.out) | exact HB.out)⟩⟩) : P := h
set_option maxHeartbeats 8000000 in
set_option maxRecDepth 100000 in
theorem tattingref09_Step.calls (k : Nat) (A0_0 : Option Addr) (c0_0 : Nat) (l0_0 : List (S64)) (a0_1 : Int) (a0_2 : Int) (A1 : Option Addr) (c1 : Nat) (l1 : List Bool) (a2 : Int) (r : List Bool) (w : World) (hr0_0 : Kd.C k64 w A0_0 l0_0.length l0_0) (hc0_0 : l0_0.length ≤ c0_0) (hr1 : Kd.C Kd.bool w A1 l1.length l1) (hc1 : l1.length ≤ c1) (h : tattingref09_Step.f k l0_0 a0_1 a0_2 l1 a2 = some r) :
  Calls Tryd.prog 27 #[.agg #[.slice A0_0 l0_0.length c0_0, .int .i64 a0_1, .int .i64 a0_2], .slice A1 l1.length c1, .int .i64 a2] w fun e w' => ∃ v0_ : Value, e = .returned (v0_) ∧ Kd.R Kd.bool 4 w' w.heap.size (fun _ => True) v0_ r ∧ Below w.heap.size w w' := by
 have hu24 := Tryd.underlying24
 have hu62 := Tryd.underlying62
 have HR0_0 := Aside0.mk hr0_0
 have HC0_0 := Aside0.mk hc0_0
 clear hr0_0 hc0_0
 have HR1 := Aside0.mk hr1
 have HC1 := Aside0.mk hc1
 clear hr1 hc1
 have HB := Aside0.mk (Below.refl w.heap.size w)
 have H : (if 0 ≤ (l0_0.length : Int) then (if ((l0_0.length : Int) : Int).toNat ≤ 281474976710656 then (tattingref09_Step.l0 k l1 a2 (List.replicate ((l0_0.length : Int) : Int).toNat false) 0 l0_0 a0_1 a0_2) else (none)) else (none)) = some r := h
 clear h
 by_cases c4 : 0 ≤ (l0_0.length : Int)
 ·rw [if_pos c4] at H
  have c4b0 := eq_true c4
  have c4b1 : decide (0 ≤ (l0_0.length : Int)) = true := decide_eq_true c4
  clear c4
  by_cases c5 : ((l0_0.length : Int) : Int).toNat ≤ 281474976710656
  ·rw [if_pos c5] at H
   have c5b0 := eq_true c5
   have c5b1 : decide (((l0_0.length : Int) : Int).toNat ≤ 281474976710656) = true := decide_eq_true c5
   clear c5
   obtain ⟨y102, hy102⟩ : ∃ y_ : List Bool, y_ = (List.replicate ((l0_0.length : Int) : Int).toNat false) := ⟨_, rfl⟩
   replace H : (tattingref09_Step.l0 k l1 a2 y102 0 l0_0 a0_1 a0_2) = some r := by first | (rw [hy102]; with_reducible exact H) | (have H2_ := (Option.bind_some _ _).symm.trans H; rw [hy102]; with_reducible exact H2_) | (have H2_ := (Option.bind_some _ _).symm.trans H; with_reducible exact H2_) | with_reducible exact H | (rw [hy102]; exact H) | exact H
   have Ny102 := Aside0.mk hy102
   clear hy102
   have H' := Aside0.mk H
   clear H
   go_enter Tryd.func27, Tryd.ntmps27
   go_wp2_with (first | ((with_reducible refine gate_dst (N := 3) rfl ?_); refine box_event ?hg (N := 3) ?hd (cs := #[.slice A0_0 l0_0.length c0_0, .int .i64 a0_1, .int .i64 a0_2]) (t := 24) ?hr ?_; (case hd => rfl); (case hg => rfl); (case hr => first | (go_simp; done) | (go_simp; rfl)); intro gb101 hg w6 hbox hb; have n0_ := Aside0.mk (below_step tat09Steep_t4 hb); have n1_ := Aside0.mk (hbox); have n2_ := Aside0.mk ((by rw [hg]; exact (below_size tat09Steep_t4) : w.heap.size ≤ gb101)); have n3_ := Aside0.mk ((by rw [hg]; exact (below_size tat09Steep_t4) : w.heap.size ≤ gb101)); clear HB; have HB := n0_; have BK101 := n1_; have GW101 := n2_; have GE101 := n3_; clear n0_ n1_ n2_ n3_; clear hb hbox hg; have hcz7_0 : w6.cell? ⟨gb101, 0, none⟩ = some (.slice A0_0 l0_0.length c0_0) := (blk_cell BK101.out 0).trans rfl; have hcz7_1 : w6.cell? ⟨gb101, 1, none⟩ = some (.int .i64 a0_1) := (blk_cell BK101.out 1).trans rfl; have hcz7_2 : w6.cell? ⟨gb101, 2, none⟩ = some (.int .i64 a0_2) := (blk_cell BK101.out 2).trans rfl; have hfz7_0 := blk_frozen BK101.out 0; have hfz7_1 := blk_frozen BK101.out 1; have hfz7_2 := blk_frozen BK101.out 2) | ((with_reducible refine gate_dst (N := 12) rfl ?_); refine Kd.R_make Kd.bool _ 4 rfl (N := 12) rfl 28 _ _ rfl (l0_0.length : Int) rfl rfl Tryd.underlying28 (.bool false) 1 info4 rfl (by decide) (by omega) false (ok := fun _ => True) (okp := fun _ => True) rfl (fun _ hk => hk) trivial (of_decide_eq_true tat09Steep_t0) (Nat.le_trans (Nat.mul_le_mul_right _ (of_decide_eq_true tat09Steep_t0 : (l0_0.length : Int).toNat ≤ 281474976710656)) (by omega)) (Below.refl _ _) (Nat.le_refl _) ?_; intro v103 w8 ho9 hb hg_ hnew_; clear hg_ hnew_; (first | rw [← Ny102.out] at ho9 | (simp only [Int.reduceToNat] at ho9; rw [← Ny102.out] at ho9)); have n0_ := Aside0.mk (Kd.R_lower ho9 (below_size tat09Steep_t1)); have n1_ := Aside0.mk (blk_below (g := gb101) (o := .cells #[.slice A0_0 l0_0.length c0_0, .int .i64 a0_1, .int .i64 a0_2] 24 (0, 0)) tat09Steep_t2 hb); have n2_ := Aside0.mk (below_step tat09Steep_t1 hb); clear BK101; clear HB; have HO104 := n0_; have BK101 := n1_; have HB := n2_; clear n0_ n1_ n2_; clear hb ho9))
   go_loopg [8] k (fun kq v8 w' => ∃ (x7_1 : List Bool) (x8_1 : Int), v8 = .int .i64 x8_1 ∧ Aside0 (tattingref09_Step.l0 kq l1 a2 x7_1 x8_1 l0_0 a0_1 a0_2 = some r) ∧ Aside0 (kq ≤ k) ∧ Aside0 (Kd.R Kd.bool 4 w' w.heap.size (fun _ => True) v103 x7_1) ∧ Aside0 (w'.heap[gb101]? = some (.cells #[(.slice A0_0 l0_0.length c0_0), .int .i64 a0_1, .int .i64 a0_2] 24 (0, 0))) ∧ Aside0 (Below w.heap.size w w'))
   case atStart => exact ⟨(y102), (0), (by first | rfl | (simp; done) | (simp [*]; done)), H', ⟨Nat.le_refl _⟩, ⟨by (with_reducible repeat (first | apply Kd.R_alloc | apply Kd.R_drewN | apply Kd.R_drew)); exact HO104.out⟩, ⟨by (with_reducible repeat (first | refine blk_drewN ?_ _ | refine blk_drew ?_ | refine blk_alloc ?_ _)); exact BK101.out⟩, ⟨by repeat (first | (with_reducible first | exact HB.out | apply below_alloc | apply pw_below_drewN | apply below_drew1 | refine below_set ?_ GE101.out) | exact HB.out)⟩⟩
   case round =>
    clear H'
    try clear c1
    try clear c2
    try clear p2
    try clear c4
    try clear c4b0
    try clear c4b1
    try clear c5
    try clear c5b0
    try clear c5b1
    try clear hcz7_0
    try clear hcz7_1
    try clear hcz7_2
    try clear hfz7_0
    try clear hfz7_1
    try clear hfz7_2
    obtain ⟨x7_1, x8_1, rfl, HA, HK1, HO_7, BK101, HB⟩ := hrel
    cases gk with
    | zero => exact absurd HA.out (by simp [tattingref09_Step.l0])
    | succ k1 =>
     have H := HA.out
     clear HA
     simp only [tattingref09_Step.l0] at H
     by_cases c10 : x8_1 < (l0_0.length : Int)
     ·rw [if_pos c10] at H
      have c10b0 : decide (x8_1 < (l0_0.length : Int)) = true := decide_eq_true c10
      clear c10
      by_cases c11 : 0 ≤ x8_1
      ·rw [if_pos c11] at H
       have c11b0 : decide (0 ≤ x8_1) = true := decide_eq_true c11
       clear c11
       by_cases c12 : x8_1 < (l1.length : Int)
       ·rw [if_pos c12] at H
        have c12b0 : decide (x8_1 < (l1.length : Int)) = true := decide_eq_true c12
        clear c12
        obtain ⟨bq13, hbq13⟩ : ∃ b_ : Bool, b_ = (rdOf false l1 x8_1) := ⟨_, rfl⟩
        replace H : (if bq13 = true then (if ((rd_T64 l0_0 x8_1).f0) = 1 then ((tattingref01_Has.f ((rd_T64 l0_0 x8_1).f3.f0) ((rd_T64 l0_0 x8_1).f3.f1) ((rd_T64 l0_0 x8_1).f3.f2) ((rd_T64 l0_0 x8_1).f3.f3) a2).bind fun t108 => (if t108 = true then (if 0 ≤ ((rd_T64 l0_0 x8_1).f1) then (if ((rd_T64 l0_0 x8_1).f1) < (x7_1.length : Int) then (tattingref09_Step.l0 k1 l1 a2 (x7_1.set (((rd_T64 l0_0 x8_1).f1) : Int).toNat true) (wrap64 (x8_1 + 1)) l0_0 a0_1 a0_2) else (none)) else (none)) else (tattingref09_Step.l0 k1 l1 a2 x7_1 (wrap64 (x8_1 + 1)) l0_0 a0_1 a0_2))) else (tattingref09_Step.l0 k1 l1 a2 x7_1 (wrap64 (x8_1 + 1)) l0_0 a0_1 a0_2)) else (tattingref09_Step.l0 k1 l1 a2 x7_1 (wrap64 (x8_1 + 1)) l0_0 a0_1 a0_2)) = some r := by rw [← hbq13] at H; exact H
        have Nbq13 := Aside0.mk hbq13
        clear hbq13
        by_cases c14 : bq13 = true
        ·subst c14
         have H1 : (if ((rd_T64 l0_0 x8_1).f0) = 1 then ((tattingref01_Has.f ((rd_T64 l0_0 x8_1).f3.f0) ((rd_T64 l0_0 x8_1).f3.f1) ((rd_T64 l0_0 x8_1).f3.f2) ((rd_T64 l0_0 x8_1).f3.f3) a2).bind fun t108 => (if t108 = true then (if 0 ≤ ((rd_T64 l0_0 x8_1).f1) then (if ((rd_T64 l0_0 x8_1).f1) < (x7_1.length : Int) then (tattingref09_Step.l0 k1 l1 a2 (x7_1.set (((rd_T64 l0_0 x8_1).f1) : Int).toNat true) (wrap64 (x8_1 + 1)) l0_0 a0_1 a0_2) else (none)) else (none)) else (tattingref09_Step.l0 k1 l1 a2 x7_1 (wrap64 (x8_1 + 1)) l0_0 a0_1 a0_2))) else (tattingref09_Step.l0 k1 l1 a2 x7_1 (wrap64 (x8_1 + 1)) l0_0 a0_1 a0_2)) = some r := by rw [if_pos rfl] at H; exact H
         clear H
         have H := H1
         clear H1
         by_cases c15 : ((rd_T64 l0_0 x8_1).f0) = 1
         ·rw [if_pos c15] at H
          have c15b0 : (((rd_T64 l0_0 x8_1).f0) == 1) = true := beq_iff_eq.mpr c15
          have c15b1 : (((rd_T64 l0_0 x8_1).f0) != 1) = false := bne_eq_false_iff_eq.mpr c15
          clear c15
          replace H := Option.bind_eq_some_iff.mp H
          obtain ⟨t108, A160, H⟩ := H
          replace H : (if t108 = true then (if 0 ≤ ((rd_T64 l0_0 x8_1).f1) then (if ((rd_T64 l0_0 x8_1).f1) < (x7_1.length : Int) then (tattingref09_Step.l0 k1 l1 a2 (x7_1.set (((rd_T64 l0_0 x8_1).f1) : Int).toNat true) (wrap64 (x8_1 + 1)) l0_0 a0_1 a0_2) else (none)) else (none)) else (tattingref09_Step.l0 k1 l1 a2 x7_1 (wrap64 (x8_1 + 1)) l0_0 a0_1 a0_2)) = some r := H
          have A16 := Aside0.mk A160
          clear A160
          by_cases c17 : t108 = true
          ·subst c17
           have H1 : (if 0 ≤ ((rd_T64 l0_0 x8_1).f1) then (if ((rd_T64 l0_0 x8_1).f1) < (x7_1.length : Int) then (tattingref09_Step.l0 k1 l1 a2 (x7_1.set (((rd_T64 l0_0 x8_1).f1) : Int).toNat true) (wrap64 (x8_1 + 1)) l0_0 a0_1 a0_2) else (none)) else (none)) = some r := by rw [if_pos rfl] at H; exact H
           clear H
           have H := H1
           clear H1
           by_cases c18 : 0 ≤ ((rd_T64 l0_0 x8_1).f1)
           ·rw [if_pos c18] at H
            have c18b0 : decide (0 ≤ ((rd_T64 l0_0 x8_1).f1)) = true := decide_eq_true c18
            clear c18
            by_cases c19 : ((rd_T64 l0_0 x8_1).f1) < (x7_1.length : Int)
            ·rw [if_pos c19] at H
             have c19b0 : decide (((rd_T64 l0_0 x8_1).f1) < (x7_1.length : Int)) = true := decide_eq_true c19
             clear c19
             obtain ⟨y110, hy110⟩ : ∃ y_ : List Bool, y_ = (x7_1.set (((rd_T64 l0_0 x8_1).f1) : Int).toNat true) := ⟨_, rfl⟩
             replace H : (tattingref09_Step.l0 k1 l1 a2 y110 (wrap64 (x8_1 + 1)) l0_0 a0_1 a0_2) = some r := by first | (rw [hy110]; with_reducible exact H) | (have H2_ := (Option.bind_some _ _).symm.trans H; rw [hy110]; with_reducible exact H2_) | (have H2_ := (Option.bind_some _ _).symm.trans H; with_reducible exact H2_) | with_reducible exact H | (rw [hy110]; exact H) | exact H
             have Ny110 := Aside0.mk hy110
             clear hy110
             have H' := Aside0.mk H
             clear H
             have hcz21_0 : wr.cell? ⟨gb101, 0, none⟩ = some (.slice A0_0 l0_0.length c0_0) := (blk_cell BK101.out 0).trans rfl
             have hcz21_1 : wr.cell? ⟨gb101, 1, none⟩ = some (.int .i64 a0_1) := (blk_cell BK101.out 1).trans rfl
             have hcz21_2 : wr.cell? ⟨gb101, 2, none⟩ = some (.int .i64 a0_2) := (blk_cell BK101.out 2).trans rfl
             have hfz21_0 := blk_frozen BK101.out 0
             have hfz21_1 := blk_frozen BK101.out 1
             have hfz21_2 := blk_frozen BK101.out 2
             have p105 : 0 ≤ (x8_1 : Int) := of_decide_eq_true tat09Steep_t0
             have q105 : x8_1 < (l1.length : Int) := of_decide_eq_true tat09Steep_t0
             obtain ⟨ad105, e105, hx105_0⟩ := Kd.at_bool HR1.out x8_1 p105 q105
             (try rw [← Nbq13.out] at hx105_0); (try rw [← Nbq13.out] at hw105_0)
             cases e105
             replace hx105_0 := (HB.out.cell (World.block_lt_of_cell? w _ hx105_0)).trans hx105_0
             replace p105 := eq_true p105
             replace q105 := eq_true q105
             have p106 : 0 ≤ (x8_1 : Int) := of_decide_eq_true tat09Steep_t0
             have q106 : x8_1 < (l0_0.length : Int) := of_decide_eq_true tat09Steep_t0
             obtain ⟨ad106, e106, hx106_0, hx106_1, hx106_2, hx106_3, hx106_4, hx106_5, hx106_6⟩ := at_T64 HR0_0.out x8_1 p106 q106
             cases e106
             replace hx106_0 := (HB.out.cell (World.block_lt_of_cell? w _ hx106_0)).trans hx106_0
             replace hx106_1 := (HB.out.cell (World.block_lt_of_cell? w _ hx106_1)).trans hx106_1
             replace hx106_2 := (HB.out.cell (World.block_lt_of_cell? w _ hx106_2)).trans hx106_2
             replace hx106_3 := (HB.out.cell (World.block_lt_of_cell? w _ hx106_3)).trans hx106_3
             replace hx106_4 := (HB.out.cell (World.block_lt_of_cell? w _ hx106_4)).trans hx106_4
             replace hx106_5 := (HB.out.cell (World.block_lt_of_cell? w _ hx106_5)).trans hx106_5
             replace hx106_6 := (HB.out.cell (World.block_lt_of_cell? w _ hx106_6)).trans hx106_6
             replace p106 := eq_true p106
             replace q106 := eq_true q106
             have p107 : 0 ≤ (x8_1 : Int) := of_decide_eq_true tat09Steep_t0
             have q107 : x8_1 < (l0_0.length : Int) := of_decide_eq_true tat09Steep_t0
             obtain ⟨ad107, e107, hx107_0, hx107_1, hx107_2, hx107_3, hx107_4, hx107_5, hx107_6⟩ := at_T64 HR0_0.out x8_1 p107 q107
             obtain rfl : ad106 = ad107 := (by injection e107)
             replace hx107_0 := (HB.out.cell (World.block_lt_of_cell? w _ hx107_0)).trans hx107_0
             replace hx107_1 := (HB.out.cell (World.block_lt_of_cell? w _ hx107_1)).trans hx107_1
             replace hx107_2 := (HB.out.cell (World.block_lt_of_cell? w _ hx107_2)).trans hx107_2
             replace hx107_3 := (HB.out.cell (World.block_lt_of_cell? w _ hx107_3)).trans hx107_3
             replace hx107_4 := (HB.out.cell (World.block_lt_of_cell? w _ hx107_4)).trans hx107_4
             replace hx107_5 := (HB.out.cell (World.block_lt_of_cell? w _ hx107_5)).trans hx107_5
             replace hx107_6 := (HB.out.cell (World.block_lt_of_cell? w _ hx107_6)).trans hx107_6
             replace p107 := eq_true p107
             replace q107 := eq_true q107
             go_wp2_with (first | (go_at_call 45; (with_reducible refine (tattingref01_Has.calls ((rd_T64 l0_0 x8_1).f3.f0) ((rd_T64 l0_0 x8_1).f3.f1) ((rd_T64 l0_0 x8_1).f3.f2) ((rd_T64 l0_0 x8_1).f3.f3) a2 true _ A16.out).mono ?_); rintro e w22 ⟨rfl, hb⟩; have n0_ := Aside0.mk (Kd.R_below tat09Steep_t3 hb); have n1_ := Aside0.mk (blk_below (g := gb101) (o := .cells #[.slice (some ad106) l0_0.length c0_0, .int .i64 a0_1, .int .i64 a0_2] 24 (0, 0)) tat09Steep_t2 hb); have n2_ := Aside0.mk (below_step tat09Steep_t1 hb); clear HO_7; clear BK101; clear HB; have HO_7 := n0_; have BK101 := n1_; have HB := n2_; clear n0_ n1_ n2_; (try clear hb); (try clear hb2); (try clear hk); (try clear hi); have hcz23_0 : w22.cell? ⟨gb101, 0, none⟩ = some (.slice (some ad106) l0_0.length c0_0) := (blk_cell BK101.out 0).trans rfl; have hcz23_1 : w22.cell? ⟨gb101, 1, none⟩ = some (.int .i64 a0_1) := (blk_cell BK101.out 1).trans rfl; have hcz23_2 : w22.cell? ⟨gb101, 2, none⟩ = some (.int .i64 a0_2) := (blk_cell BK101.out 2).trans rfl; have hfz23_0 := blk_frozen BK101.out 0; have hfz23_1 := blk_frozen BK101.out 1; have hfz23_2 := blk_frozen BK101.out 2; have p109 : 0 ≤ (x8_1 : Int) := of_decide_eq_true tat09Steep_t0; have q109 : x8_1 < (l0_0.length : Int) := of_decide_eq_true tat09Steep_t0; obtain ⟨ad109, e109, hx109_0, hx109_1, hx109_2, hx109_3, hx109_4, hx109_5, hx109_6⟩ := at_T64 HR0_0.out x8_1 p109 q109; obtain rfl : ad106 = ad109 := (by injection e109); replace hx109_0 := (HB.out.cell (World.block_lt_of_cell? w _ hx109_0)).trans hx109_0; replace hx109_1 := (HB.out.cell (World.block_lt_of_cell? w _ hx109_1)).trans hx109_1; replace hx109_2 := (HB.out.cell (World.block_lt_of_cell? w _ hx109_2)).trans hx109_2; replace hx109_3 := (HB.out.cell (World.block_lt_of_cell? w _ hx109_3)).trans hx109_3; replace hx109_4 := (HB.out.cell (World.block_lt_of_cell? w _ hx109_4)).trans hx109_4; replace hx109_5 := (HB.out.cell (World.block_lt_of_cell? w _ hx109_5)).trans hx109_5; replace hx109_6 := (HB.out.cell (World.block_lt_of_cell? w _ hx109_6)).trans hx109_6; replace p109 := eq_true p109; replace q109 := eq_true q109; have p20 : 0 ≤ (((rd_T64 l0_0 x8_1).f1) : Int) := of_decide_eq_true tat09Steep_t0; have q20 : (((rd_T64 l0_0 x8_1).f1) : Int) < ((x7_1.length : Int) : Int) := of_decide_eq_true tat09Steep_t0; obtain ⟨go20, co20, eo20, gb20, gl20, cl20, HG20⟩ := Kd.R_form HO_7.out (by omega); (first | cases eo20 | (injection eo20 with ea_ en_ ec_; (first | subst ea_ | (injection ea_ with ea_; subst ea_)); subst ec_; clear en_)); have GB20 := Aside0.mk gb20; have GG20 := Aside0.mk HG20; clear gb20 gl20 HG20; obtain ⟨hx20_0, hf20_0⟩ := Kd.R_celln false HO_7.out (((rd_T64 l0_0 x8_1).f1) : Int) p20 q20; replace p20 := eq_true p20; replace q20 := eq_true q20; obtain ⟨hy24_, hz24_⟩ := Kd.R_celln false HO_7.out (((rd_T64 l0_0 x8_1).f1) : Int) (of_decide_eq_true tat09Steep_t0) (of_decide_eq_true tat09Steep_t0); have HP24 := Kd.R_putg HO_7.out (((rd_T64 l0_0 x8_1).f1) : Int) true) | ((with_reducible refine gate_store (t := 4) (p := 50) rfl ?_); refine store_event (t := 4) (p := 50) (v := ?vo_w25) (w1 := (w22.setCell ⟨go20, (((rd_T64 l0_0 x8_1).f1) : Int).toNat, none⟩ (.bool true))) ?hg ?ho ?hn ?hr ?_; (case ho => rfl); (case hg => rfl); (case hn => rfl); (case hr => first | (go_simp; done) | (go_simp; rfl)); intro w25 hw; have hg : w22.grownBy w25 (some go20) := (by rw [hw]; exact HP24.2); have hp_ : Kd.R Kd.bool 4 w25 w.heap.size (fun _ => True) (.slice (some ⟨go20, 0, none⟩) x7_1.length co20) y110 := (by rw [hw, Ny110.out]; exact HP24.1); clear HP24; have n0_ := Aside0.mk (hp_); have n1_ := Aside0.mk (blk_grown (g := gb101) (o := .cells #[.slice (some ad106) l0_0.length c0_0, .int .i64 a0_1, .int .i64 a0_2] 24 (0, 0)) tat09Steep_t2 hg (Kd.R_ne HO_7.out BK101.out (by decide))); have n2_ := Aside0.mk ((by rw [hw]; exact below_set (HB.out) GB20.out : Below w.heap.size w w25)); clear HO_7; clear BK101; clear HB; have HO_7 := n0_; have BK101 := n1_; have HB := n2_; clear n0_ n1_ n2_; clear hg hw hp_))
             go_roundg k1
             case measure => have := HK1.out; omega
             case rel => exact ⟨(y110), (wrap64 (x8_1 + 1)), (by first | rfl | (simp; done) | (simp [*]; done)), H', ⟨by have := HK1.out; omega⟩, ⟨by (with_reducible repeat (first | apply Kd.R_alloc | apply Kd.R_drewN | apply Kd.R_drew)); exact HO_7.out⟩, ⟨by (with_reducible repeat (first | refine blk_drewN ?_ _ | refine blk_drew ?_ | refine blk_alloc ?_ _)); exact BK101.out⟩, ⟨by repeat (first | (with_reducible first | exact HB.out | apply below_alloc | apply pw_below_drewN | apply below_drew1 | refine below_set ?_ GE101.out) | exact HB.out)⟩⟩
            ·rw [if_neg c19] at H
             exact absurd H (by simp)
           ·rw [if_neg c18] at H
            exact absurd H (by simp)
          ·replace c17 := Bool.eq_false_iff.mpr c17
           subst c17
           have H1 : (tattingref09_Step.l0 k1 l1 a2 x7_1 (wrap64 (x8_1 + 1)) l0_0 a0_1 a0_2) = some r := by rw [if_neg (show ¬ (false = true) by decide)] at H; exact H
           clear H
           have H := H1
           clear H1
           have H' := Aside0.mk H
           clear H
           have hcz26_0 : wr.cell? ⟨gb101, 0, none⟩ = some (.slice A0_0 l0_0.length c0_0) := (blk_cell BK101.out 0).trans rfl
           have hcz26_1 : wr.cell? ⟨gb101, 1, none⟩ = some (.int .i64 a0_1) := (blk_cell BK101.out 1).trans rfl
           have hcz26_2 : wr.cell? ⟨gb101, 2, none⟩ = some (.int .i64 a0_2) := (blk_cell BK101.out 2).trans rfl
           have hfz26_0 := blk_frozen BK101.out 0
           have hfz26_1 := blk_frozen BK101.out 1
           have hfz26_2 := blk_frozen BK101.out 2
           have p105 : 0 ≤ (x8_1 : Int) := of_decide_eq_true tat09Steep_t0
           have q105 : x8_1 < (l1.length : Int) := of_decide_eq_true tat09Steep_t0
           obtain ⟨ad105, e105, hx105_0⟩ := Kd.at_bool HR1.out x8_1 p105 q105
           (try rw [← Nbq13.out] at hx105_0); (try rw [← Nbq13.out] at hw105_0)
           cases e105
           replace hx105_0 := (HB.out.cell (World.block_lt_of_cell? w _ hx105_0)).trans hx105_0
           replace p105 := eq_true p105
           replace q105 := eq_true q105
           have p106 : 0 ≤ (x8_1 : Int) := of_decide_eq_true tat09Steep_t0
           have q106 : x8_1 < (l0_0.length : Int) := of_decide_eq_true tat09Steep_t0
           obtain ⟨ad106, e106, hx106_0, hx106_1, hx106_2, hx106_3, hx106_4, hx106_5, hx106_6⟩ := at_T64 HR0_0.out x8_1 p106 q106
           cases e106
           replace hx106_0 := (HB.out.cell (World.block_lt_of_cell? w _ hx106_0)).trans hx106_0
           replace hx106_1 := (HB.out.cell (World.block_lt_of_cell? w _ hx106_1)).trans hx106_1
           replace hx106_2 := (HB.out.cell (World.block_lt_of_cell? w _ hx106_2)).trans hx106_2
           replace hx106_3 := (HB.out.cell (World.block_lt_of_cell? w _ hx106_3)).trans hx106_3
           replace hx106_4 := (HB.out.cell (World.block_lt_of_cell? w _ hx106_4)).trans hx106_4
           replace hx106_5 := (HB.out.cell (World.block_lt_of_cell? w _ hx106_5)).trans hx106_5
           replace hx106_6 := (HB.out.cell (World.block_lt_of_cell? w _ hx106_6)).trans hx106_6
           replace p106 := eq_true p106
           replace q106 := eq_true q106
           have p107 : 0 ≤ (x8_1 : Int) := of_decide_eq_true tat09Steep_t0
           have q107 : x8_1 < (l0_0.length : Int) := of_decide_eq_true tat09Steep_t0
           obtain ⟨ad107, e107, hx107_0, hx107_1, hx107_2, hx107_3, hx107_4, hx107_5, hx107_6⟩ := at_T64 HR0_0.out x8_1 p107 q107
           obtain rfl : ad106 = ad107 := (by injection e107)
           replace hx107_0 := (HB.out.cell (World.block_lt_of_cell? w _ hx107_0)).trans hx107_0
           replace hx107_1 := (HB.out.cell (World.block_lt_of_cell? w _ hx107_1)).trans hx107_1
           replace hx107_2 := (HB.out.cell (World.block_lt_of_cell? w _ hx107_2)).trans hx107_2
           replace hx107_3 := (HB.out.cell (World.block_lt_of_cell? w _ hx107_3)).trans hx107_3
           replace hx107_4 := (HB.out.cell (World.block_lt_of_cell? w _ hx107_4)).trans hx107_4
           replace hx107_5 := (HB.out.cell (World.block_lt_of_cell? w _ hx107_5)).trans hx107_5
           replace hx107_6 := (HB.out.cell (World.block_lt_of_cell? w _ hx107_6)).trans hx107_6
           replace p107 := eq_true p107
           replace q107 := eq_true q107
           go_wp2_with (first | (go_at_call 45; (with_reducible refine (tattingref01_Has.calls ((rd_T64 l0_0 x8_1).f3.f0) ((rd_T64 l0_0 x8_1).f3.f1) ((rd_T64 l0_0 x8_1).f3.f2) ((rd_T64 l0_0 x8_1).f3.f3) a2 false _ A16.out).mono ?_); rintro e w27 ⟨rfl, hb⟩; have n0_ := Aside0.mk (Kd.R_below tat09Steep_t3 hb); have n1_ := Aside0.mk (blk_below (g := gb101) (o := .cells #[.slice (some ad106) l0_0.length c0_0, .int .i64 a0_1, .int .i64 a0_2] 24 (0, 0)) tat09Steep_t2 hb); have n2_ := Aside0.mk (below_step tat09Steep_t1 hb); clear HO_7; clear BK101; clear HB; have HO_7 := n0_; have BK101 := n1_; have HB := n2_; clear n0_ n1_ n2_; (try clear hb); (try clear hb2); (try clear hk); (try clear hi)))
           exact tattingref09_Step_w0
         ·rw [if_neg c15] at H
          have c15b0 : (((rd_T64 l0_0 x8_1).f0) == 1) = false := beq_eq_false_iff_ne.mpr c15
          have c15b1 : (((rd_T64 l0_0 x8_1).f0) != 1) = true := bne_iff_ne.mpr c15
          have H' := Aside0.mk H
          clear H
          have hcz28_0 : wr.cell? ⟨gb101, 0, none⟩ = some (.slice A0_0 l0_0.length c0_0) := (blk_cell BK101.out 0).trans rfl
          have hcz28_1 : wr.cell? ⟨gb101, 1, none⟩ = some (.int .i64 a0_1) := (blk_cell BK101.out 1).trans rfl
          have hcz28_2 : wr.cell? ⟨gb101, 2, none⟩ = some (.int .i64 a0_2) := (blk_cell BK101.out 2).trans rfl
          have hfz28_0 := blk_frozen BK101.out 0
          have hfz28_1 := blk_frozen BK101.out 1
          have hfz28_2 := blk_frozen BK101.out 2
          have p105 : 0 ≤ (x8_1 : Int) := of_decide_eq_true tat09Steep_t0
          have q105 : x8_1 < (l1.length : Int) := of_decide_eq_true tat09Steep_t0
          obtain ⟨ad105, e105, hx105_0⟩ := Kd.at_bool HR1.out x8_1 p105 q105
          (try rw [← Nbq13.out] at hx105_0); (try rw [← Nbq13.out] at hw105_0)
          cases e105
          replace hx105_0 := (HB.out.cell (World.block_lt_of_cell? w _ hx105_0)).trans hx105_0
          replace p105 := eq_true p105
          replace q105 := eq_true q105
          have p106 : 0 ≤ (x8_1 : Int) := of_decide_eq_true tat09Steep_t0
          have q106 : x8_1 < (l0_0.length : Int) := of_decide_eq_true tat09Steep_t0
          obtain ⟨ad106, e106, hx106_0, hx106_1, hx106_2, hx106_3, hx106_4, hx106_5, hx106_6⟩ := at_T64 HR0_0.out x8_1 p106 q106
          cases e106
          replace hx106_0 := (HB.out.cell (World.block_lt_of_cell? w _ hx106_0)).trans hx106_0
          replace hx106_1 := (HB.out.cell (World.block_lt_of_cell? w _ hx106_1)).trans hx106_1
          replace hx106_2 := (HB.out.cell (World.block_lt_of_cell? w _ hx106_2)).trans hx106_2
          replace hx106_3 := (HB.out.cell (World.block_lt_of_cell? w _ hx106_3)).trans hx106_3
          replace hx106_4 := (HB.out.cell (World.block_lt_of_cell? w _ hx106_4)).trans hx106_4
          replace hx106_5 := (HB.out.cell (World.block_lt_of_cell? w _ hx106_5)).trans hx106_5
          replace hx106_6 := (HB.out.cell (World.block_lt_of_cell? w _ hx106_6)).trans hx106_6
          replace p106 := eq_true p106
          replace q106 := eq_true q106
          go_wp2
          exact tattingref09_Step_w0
        ·replace c14 := Bool.eq_false_iff.mpr c14
         subst c14
         have H1 : (tattingref09_Step.l0 k1 l1 a2 x7_1 (wrap64 (x8_1 + 1)) l0_0 a0_1 a0_2) = some r := by rw [if_neg (show ¬ (false = true) by decide)] at H; exact H
         clear H
         have H := H1
         clear H1
         have H' := Aside0.mk H
         clear H
         have hcz29_0 : wr.cell? ⟨gb101, 0, none⟩ = some (.slice A0_0 l0_0.length c0_0) := (blk_cell BK101.out 0).trans rfl
         have hcz29_1 : wr.cell? ⟨gb101, 1, none⟩ = some (.int .i64 a0_1) := (blk_cell BK101.out 1).trans rfl
         have hcz29_2 : wr.cell? ⟨gb101, 2, none⟩ = some (.int .i64 a0_2) := (blk_cell BK101.out 2).trans rfl
         have hfz29_0 := blk_frozen BK101.out 0
         have hfz29_1 := blk_frozen BK101.out 1
         have hfz29_2 := blk_frozen BK101.out 2
         have p105 : 0 ≤ (x8_1 : Int) := of_decide_eq_true tat09Steep_t0
         have q105 : x8_1 < (l1.length : Int) := of_decide_eq_true tat09Steep_t0
         obtain ⟨ad105, e105, hx105_0⟩ := Kd.at_bool HR1.out x8_1 p105 q105
         (try rw [← Nbq13.out] at hx105_0); (try rw [← Nbq13.out] at hw105_0)
         cases e105
         replace hx105_0 := (HB.out.cell (World.block_lt_of_cell? w _ hx105_0)).trans hx105_0
         replace p105 := eq_true p105
         replace q105 := eq_true q105
         go_wp2
         exact tattingref09_Step_w0
       ·rw [if_neg c12] at H
        exact absurd H (by simp)
      ·rw [if_neg c11] at H
       exact absurd H (by simp)
     ·rw [if_neg c10] at H
      have c10b0 : decide (x8_1 < (l0_0.length : Int)) = false := decide_eq_false c10
      clear c10
      replace H := Option.bind_eq_some_iff.mp H
      obtain ⟨t111, A300, H⟩ := H
      replace H : (some t111) = some r := H
      have A30 := Aside0.mk A300
      clear A300
      obtain rfl := Option.some.inj H
      have hcz31_0 : wr.cell? ⟨gb101, 0, none⟩ = some (.slice A0_0 l0_0.length c0_0) := (blk_cell BK101.out 0).trans rfl
      have hcz31_1 : wr.cell? ⟨gb101, 1, none⟩ = some (.int .i64 a0_1) := (blk_cell BK101.out 1).trans rfl
      have hcz31_2 : wr.cell? ⟨gb101, 2, none⟩ = some (.int .i64 a0_2) := (blk_cell BK101.out 2).trans rfl
      have hfz31_0 := blk_frozen BK101.out 0
      have hfz31_1 := blk_frozen BK101.out 1
      have hfz31_2 := blk_frozen BK101.out 2
      obtain ⟨Ao32, co32, eo32⟩ := Kd.R_slice HO_7.out
      subst eo32
      go_wp2_with (first | ((with_reducible refine gate_callee (f := 25) rfl ?_); refine goesL_ (some 53) rfl rfl Tryd.func25 (by kernel_rfl) rfl #[.agg #[.slice A0_0 l0_0.length c0_0, .int .i64 a0_1, .int .i64 a0_2], .slice Ao32 x7_1.length co32, .int .i64 0] rfl (by (try simp only [List.map_toArray, List.map_cons, List.map_nil]); first | done | rfl | (simp only [List.length_drop, List.length_take]; rfl)) ?_; (with_reducible refine (tattingref09_Close.calls k1 _ _ l0_0 a0_1 a0_2 _ _ x7_1 0 t111 _ ?side1 ?side2 ?side3 ?side4 A30.out).mono ?_); (case side1 => repeat (first | exact (Kd.C_below HR0_0.out HB.out) | (with_reducible refine Kd.C_alloc ?_ _) | (with_reducible refine Kd.C_drewN ?_ _) | (with_reducible refine Kd.C_drew ?_))); (case side2 => exact HC0_0.out); (case side3 => repeat (first | exact (Kd.R_reads' HO_7.out).2.2 | (with_reducible refine Kd.C_alloc ?_ _) | (with_reducible refine Kd.C_drewN ?_ _) | (with_reducible refine Kd.C_drew ?_))); (case side4 => exact (Kd.R_reads' HO_7.out).2.1); rintro e w33 ⟨v112, rfl, ho0, hb⟩; refine ⟨_, rfl, ?_⟩; have n0_ := Aside0.mk (Kd.R_elder' tat09Steep_t3 (Kd.R_base ho0) hb); have n1_ := Aside0.mk (Kd.R_lower (Kd.R_new' ho0 (Kd.R_lt tat09Steep_t3)) (below_size tat09Steep_t1)); have n2_ := Aside0.mk (blk_below (g := gb101) (o := .cells #[.slice A0_0 l0_0.length c0_0, .int .i64 a0_1, .int .i64 a0_2] 24 (0, 0)) tat09Steep_t2 hb); have n3_ := Aside0.mk (below_step tat09Steep_t1 hb); clear HO_7; clear BK101; clear HB; have HO_7 := n0_; have HO113 := n1_; have BK101 := n2_; have HB := n3_; clear n0_ n1_ n2_ n3_; (try clear hb); (try clear hb2); (try clear hk); (try clear hi); (try clear ho0)))
      go_ret
      exact ⟨_, by first | rfl | (simp [errW_none, errW_some] <;> rfl) | (simp [*, errW_none, errW_some] <;> rfl), by (with_reducible repeat (first | apply Kd.R_alloc | apply Kd.R_drewN | apply Kd.R_drew)); exact Kd.R_mono HO113.out (fun _ hk => trivial), by repeat (first | (with_reducible first | exact HB.out | apply below_alloc | apply pw_below_drewN | apply below_drew1 | refine below_set ?_ GE101.out) | exact HB.out)⟩
  ·rw [if_neg c5] at H
   exact absurd H (by simp)
 ·rw [if_neg c4] at H
  exact absurd H (by simp)
end Go.Proofs.YtfjemaeidmikmaaDoorQ
