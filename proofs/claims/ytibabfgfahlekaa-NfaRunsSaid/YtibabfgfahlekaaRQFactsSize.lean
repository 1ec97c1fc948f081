/- Pruned from its seat's text: what the theorem hangs on. -/
import Derived.Test.YtibabfgfahlekaaRQ0
import Derived.Test.YtibabfgfahlekaaRQTreeArgs
import Derived.Test.YtibabfgfahlekaaRQTreeRight
-- Written by aprint.py (a program of this session, over the kit's print): Lean checks it.
namespace Go.Proofs.YtibabfgfahlekaaQ
open Go.RowKit Go.Proofs.YtibabfgfahlekaaW.PrintWords Go.Proofs.YtibabfgfahlekaaW.PrintLast Go.Proofs.YtibabfgfahlekaaW.PrintMore
attribute [local go_sem] max2_int min2_int max_two min_two max_three min_three max_four min_four   -- for this text's walks alone
set_option linter.unusedVariables false
set_option linter.unusedSimpArgs false

mutual
def facts_Size.l0 : Nat → List Int → List (S63) → Int → Int → Option (Int)
  | 0, _, _, _, _ => none
  | k + 1, x3, x13, x14, x15 => if x15 < x14 then (if 0 ≤ x15 then (if x15 < (x13.length : Int) then ((tree_Args.f k ((rd_T63 x13 x15).f0)).bind fun t105 => (if 0 ≤ (wrap64 ((x3.length : Int) - t105)) then (if (wrap64 ((x3.length : Int) - t105)) ≤ (x3.length : Int) then ((some (x3.drop ((wrap64 ((x3.length : Int) - t105)) : Int).toNat : List Int)).bind fun y106 => (facts_Size.l1 k x3 (wrap64 ((x3.length : Int) - t105)) 2 x13 x14 x15 y106 (y106.length : Int) 0 ((rd_T63 x13 x15).f0) ((rd_T63 x13 x15).f1.f0) ((rd_T63 x13 x15).f1.f1) ((rd_T63 x13 x15).f1.f2) ((rd_T63 x13 x15).f1.f3) ((rd_T63 x13 x15).f2) ((rd_T63 x13 x15).f3))) else (none)) else (none))) else (none)) else (none)) else (if 0 < (x3.length : Int) then (some (rd x3 0)) else (none))
def facts_Size.l1 : Nat → List Int → Int → Int → List (S63) → Int → Int → List Int → Int → Int → Int → Int → Int → Int → Int → Int → Int → Option (Int)
  | 0, _, _, _, _, _, _, _, _, _, _, _, _, _, _, _, _ => none
  | k + 1, x3, x6, x7, x13, x14, x15, x27, x28, x29, x105000, x105001, x105002, x105003, x105004, x105005, x105006 => if x29 < x28 then (if 0 ≤ x29 then (if x29 < (x27.length : Int) then (facts_Size.l1 k x3 x6 (wrap64 (x7 + (rd x27 x29))) x13 x14 x15 x27 x28 (wrap64 (x29 + 1)) x105000 x105001 x105002 x105003 x105004 x105005 x105006) else (none)) else (none)) else (if x105000 = 5 then (if 0 ≤ x6 then (if x6 ≤ (x3.length : Int) then ((some (x3.take (x6 : Int).toNat : List Int)).bind fun y111 => (if y111.length < 17592186044416 then (facts_Size.l0 k (y111 ++ [mn (wrap64 (x7 - 2)) 1048576]) x13 x14 (wrap64 (x15 + 1))) else (none))) else (none)) else (none)) else (if x105000 = 7 then (facts_Size.j2 k x3 x6 x7 x13 x14 x15 (decide (x105006 < 0)) x105000 x105001 x105002 x105003 x105004 x105005 x105006) else (facts_Size.j2 k x3 x6 x7 x13 x14 x15 false x105000 x105001 x105002 x105003 x105004 x105005 x105006)))
def facts_Size.j2 : Nat → List Int → Int → Int → List (S63) → Int → Int → Bool → Int → Int → Int → Int → Int → Int → Int → Option (Int)
  | 0, _, _, _, _, _, _, _, _, _, _, _, _, _, _ => none
  | k + 1, x3, x6, x7, x13, x14, x15, x43, x105000, x105001, x105002, x105003, x105004, x105005, x105006 => if x43 = true then (if 0 ≤ x6 then (if x6 < (x3.length : Int) then (if x6 ≤ (x3.length : Int) then ((some (x3.take (x6 : Int).toNat : List Int)).bind fun y118 => (if y118.length < 17592186044416 then (facts_Size.l0 k (y118 ++ [mn (wrap64 (3 + (wrap64 ((wrap64 (x105005 + 1)) * (rd x3 x6))))) 1048576]) x13 x14 (wrap64 (x15 + 1))) else (none))) else (none)) else (none)) else (none)) else (if x105000 = 7 then (if 0 ≤ x6 then (if x6 < (x3.length : Int) then (if x6 ≤ (x3.length : Int) then ((some (x3.take (x6 : Int).toNat : List Int)).bind fun y125 => (if y125.length < 17592186044416 then (facts_Size.l0 k (y125 ++ [mn (wrap64 ((wrap64 ((wrap64 (2 + (wrap64 (x105006 * (rd x3 x6))))) + x105006)) - x105005)) 1048576]) x13 x14 (wrap64 (x15 + 1))) else (none))) else (none)) else (none)) else (none)) else (if 0 ≤ x6 then (if x6 ≤ (x3.length : Int) then ((some (x3.take (x6 : Int).toNat : List Int)).bind fun y131 => (if y131.length < 17592186044416 then (facts_Size.l0 k (y131 ++ [mn x7 1048576]) x13 x14 (wrap64 (x15 + 1))) else (none))) else (none)) else (none)))
end
def facts_Size.f (k : Nat) (l0 : List (S63)) : Option (Int) := (tree_Right.f k l0).bind fun t101 => (if t101 = true then (facts_Size.l0 k ([] : List Int) l0 (l0.length : Int) 0) else (some (-1)))
set_option maxHeartbeats 8000000 in
set_option maxRecDepth 100000 in
theorem facts_Size.calls (k : Nat) (A0 : Option Addr) (c0 : Nat) (l0 : List (S63)) (r : Int) (w : World) (hr0 : Kd.C k63 w A0 l0.length l0) (hc0 : l0.length ≤ c0) (h : facts_Size.f k l0 = some r) :
    Calls Try.prog 12 #[.slice A0 l0.length c0] w fun e w' => e = .returned (.int .i64 r) ∧ Below w.heap.size w w' := by
  have hu63 := Try.underlying63
  have HR0 := Aside0.mk hr0
  have HC0 := Aside0.mk hc0
  clear hr0 hc0
  have HB := Aside0.mk (Below.refl w.heap.size w)
  have H : ((tree_Right.f k l0).bind fun t101 => (if t101 = true then (facts_Size.l0 k ([] : List Int) l0 (l0.length : Int) 0) else (some (-1)))) = some r := h
  clear h
  replace H := Option.bind_eq_some_iff.mp H
  obtain ⟨t101, A20, H⟩ := H
  replace H : (if t101 = true then (facts_Size.l0 k ([] : List Int) l0 (l0.length : Int) 0) else (some (-1))) = some r := H
  have A2 := Aside0.mk A20
  clear A20
  by_cases c3 : t101 = true
  · subst c3
    have H1 : (facts_Size.l0 k ([] : List Int) l0 (l0.length : Int) 0) = some r := by rw [if_pos rfl] at H; exact H
    clear H
    have H := H1
    clear H1
    have H' := Aside0.mk H
    clear H
    go_enter Try.func12, Try.ntmps12
    go_wp2_with (first | (go_at_call 35; (with_reducible refine (tree_Right.calls k _ _ l0 true _ ?side1 ?side2 A2.out).mono ?_); (case side1 => repeat (first | exact HR0.out | (with_reducible refine Kd.C_alloc ?_ _) | (with_reducible refine Kd.C_drewN ?_ _) | (with_reducible refine Kd.C_drew ?_))); (case side2 => exact HC0.out); rintro e w4 ⟨rfl, hb⟩; have n0_ := Aside0.mk (below_step (by repeat (first | (with_reducible first | exact HB.out | apply below_alloc | apply pw_below_drewN | apply below_drew1) | exact HB.out)) hb); clear HB; have HB := n0_; clear n0_; (try clear hb); (try clear hb2); (try clear hk); (try clear hi)))
    repeat (go_quiet (first | (go_at_call 35; (with_reducible refine (tree_Right.calls k _ _ l0 true _ ?side1 ?side2 A2.out).mono ?_); (case side1 => repeat (first | exact HR0.out | (with_reducible refine Kd.C_alloc ?_ _) | (with_reducible refine Kd.C_drewN ?_ _) | (with_reducible refine Kd.C_drew ?_))); (case side2 => exact HC0.out); rintro e w4 ⟨rfl, hb⟩; have n0_ := Aside0.mk (below_step (by repeat (first | (with_reducible first | exact HB.out | apply below_alloc | apply pw_below_drewN | apply below_drew1) | exact HB.out)) hb); clear HB; have HB := n0_; clear n0_; (try clear hb); (try clear hb2); (try clear hk); (try clear hi))); try go_wp2_with (first | (go_at_call 35; (with_reducible refine (tree_Right.calls k _ _ l0 true _ ?side1 ?side2 A2.out).mono ?_); (case side1 => repeat (first | exact HR0.out | (with_reducible refine Kd.C_alloc ?_ _) | (with_reducible refine Kd.C_drewN ?_ _) | (with_reducible refine Kd.C_drew ?_))); (case side2 => exact HC0.out); rintro e w4 ⟨rfl, hb⟩; have n0_ := Aside0.mk (below_step (by repeat (first | (with_reducible first | exact HB.out | apply below_alloc | apply pw_below_drewN | apply below_drew1) | exact HB.out)) hb); clear HB; have HB := n0_; clear n0_; (try clear hb); (try clear hb2); (try clear hk); (try clear hi))))
    go_loopg [3, 15] k (fun kq v3 v15 w' => ∃ (x3_1 : List Int) (x15_1 : Int), v15 = .int .i64 x15_1 ∧ Aside0 (facts_Size.l0 kq x3_1 l0 (l0.length : Int) x15_1 = some r) ∧ Aside0 (kq ≤ k) ∧ Aside0 (Kd.R (Kd.int .i64) 3 w' w.heap.size (fun _ => True) v3 x3_1) ∧ Aside0 (Below w.heap.size w w'))
    case atStart => exact ⟨(([] : List Int)), (0), (by first | rfl | (simp; done) | (simp [*]; done)), H', ⟨Nat.le_refl _⟩, ⟨by first | exact Kd.R_nil _ _ _ _ _ | exact Kd.N_nil _ _ _ _ _ | exact Kd.V_nil _ _ _ _ _ | exact Kd.Q_nil _ _ _ _ _ | exact Kd.S_nil _ _ _ _ _⟩, ⟨by repeat (first | (with_reducible first | exact HB.out | apply below_alloc | apply pw_below_drewN | apply below_drew1) | exact HB.out)⟩⟩
    case round =>
      clear H'
      try clear c1
      try clear p2
      try clear c3
      obtain ⟨x3_1, x15_1, rfl, HA, HK1, HO_3, HB⟩ := hrel
      cases gk with
      | zero => exact absurd HA.out (by simp [facts_Size.l0])
      | succ k1 =>
        have H := HA.out
        clear HA
        simp only [facts_Size.l0] at H
        by_cases c5 : x15_1 < (l0.length : Int)
        · rw [if_pos c5] at H
          have c5b0 : decide (x15_1 < (l0.length : Int)) = true := decide_eq_true c5
          clear c5
          by_cases c6 : 0 ≤ x15_1
          · rw [if_pos c6] at H
            have c6b0 : decide (0 ≤ x15_1) = true := decide_eq_true c6
            clear c6
            by_cases c7 : x15_1 < (l0.length : Int)
            · rw [if_pos c7] at H
              have c7b0 : decide (x15_1 < (l0.length : Int)) = true := decide_eq_true c7
              clear c7
              replace H := Option.bind_eq_some_iff.mp H
              obtain ⟨t105, A80, H⟩ := H
              replace H : (if 0 ≤ (wrap64 ((x3_1.length : Int) - t105)) then (if (wrap64 ((x3_1.length : Int) - t105)) ≤ (x3_1.length : Int) then ((some (x3_1.drop ((wrap64 ((x3_1.length : Int) - t105)) : Int).toNat : List Int)).bind fun y106 => (facts_Size.l1 k1 x3_1 (wrap64 ((x3_1.length : Int) - t105)) 2 l0 (l0.length : Int) x15_1 y106 (y106.length : Int) 0 ((rd_T63 l0 x15_1).f0) ((rd_T63 l0 x15_1).f1.f0) ((rd_T63 l0 x15_1).f1.f1) ((rd_T63 l0 x15_1).f1.f2) ((rd_T63 l0 x15_1).f1.f3) ((rd_T63 l0 x15_1).f2) ((rd_T63 l0 x15_1).f3))) else (none)) else (none)) = some r := H
              have A8 := Aside0.mk A80
              clear A80
              obtain ⟨ji9, hji9⟩ : ∃ j_ : Int, (wrap64 ((x3_1.length : Int) - t105)) = j_ := ⟨_, rfl⟩
              replace H : (if 0 ≤ (ji9) then (if (ji9) ≤ (x3_1.length : Int) then ((some (x3_1.drop ((ji9) : Int).toNat : List Int)).bind fun y106 => (facts_Size.l1 k1 x3_1 ji9 2 l0 (l0.length : Int) x15_1 y106 (y106.length : Int) 0 ((rd_T63 l0 x15_1).f0) ((rd_T63 l0 x15_1).f1.f0) ((rd_T63 l0 x15_1).f1.f1) ((rd_T63 l0 x15_1).f1.f2) ((rd_T63 l0 x15_1).f1.f3) ((rd_T63 l0 x15_1).f2) ((rd_T63 l0 x15_1).f3))) else (none)) else (none)) = some r := by first | (rw [hji9] at H; exact H) | (simp only [hji9] at H ⊢; exact H)
              (try rw [hji9] at A8)
              have hji9w : (IntKind.i64.wrap ((x3_1.length : Int) - t105)) = ji9 := (i64_w _).trans hji9
              by_cases c10 : 0 ≤ (ji9)
              · rw [if_pos c10] at H
                have c10b0 := eq_true c10
                have c10b1 : decide (0 ≤ (ji9)) = true := decide_eq_true c10
                clear c10
                by_cases c11 : (ji9) ≤ (x3_1.length : Int)
                · rw [if_pos c11] at H
                  have c11b0 := eq_true c11
                  have c11b1 : decide ((ji9) ≤ (x3_1.length : Int)) = true := decide_eq_true c11
                  clear c11
                  obtain ⟨y106, hy106⟩ : ∃ y_ : List Int, y_ = (x3_1.drop ((ji9) : Int).toNat) := ⟨_, rfl⟩
                  replace H : (facts_Size.l1 k1 x3_1 ji9 2 l0 (l0.length : Int) x15_1 y106 (y106.length : Int) 0 ((rd_T63 l0 x15_1).f0) ((rd_T63 l0 x15_1).f1.f0) ((rd_T63 l0 x15_1).f1.f1) ((rd_T63 l0 x15_1).f1.f2) ((rd_T63 l0 x15_1).f1.f3) ((rd_T63 l0 x15_1).f2) ((rd_T63 l0 x15_1).f3)) = some r := by first | (rw [hy106]; with_reducible exact H) | (have H2_ := (Option.bind_some _ _).symm.trans H; rw [hy106]; with_reducible exact H2_) | (have H2_ := (Option.bind_some _ _).symm.trans H; with_reducible exact H2_) | with_reducible exact H | (rw [hy106]; exact H) | exact H
                  have Ny106 := Aside0.mk hy106
                  clear hy106
                  have H' := Aside0.mk H
                  clear H
                  have p103 : 0 ≤ (x15_1 : Int) := of_decide_eq_true (by first | (with_reducible assumption) | assumption)
                  have q103 : x15_1 < (l0.length : Int) := of_decide_eq_true (by first | (with_reducible assumption) | assumption)
                  obtain ⟨ad103, e103, hx103_0, hx103_1, hx103_2, hx103_3, hx103_4, hx103_5, hx103_6⟩ := at_T63 HR0.out x15_1 p103 q103
                  cases e103
                  replace hx103_0 := (HB.out.cell (World.block_lt_of_cell? w _ hx103_0)).trans hx103_0
                  replace hx103_1 := (HB.out.cell (World.block_lt_of_cell? w _ hx103_1)).trans hx103_1
                  replace hx103_2 := (HB.out.cell (World.block_lt_of_cell? w _ hx103_2)).trans hx103_2
                  replace hx103_3 := (HB.out.cell (World.block_lt_of_cell? w _ hx103_3)).trans hx103_3
                  replace hx103_4 := (HB.out.cell (World.block_lt_of_cell? w _ hx103_4)).trans hx103_4
                  replace hx103_5 := (HB.out.cell (World.block_lt_of_cell? w _ hx103_5)).trans hx103_5
                  replace hx103_6 := (HB.out.cell (World.block_lt_of_cell? w _ hx103_6)).trans hx103_6
                  replace p103 := eq_true p103
                  replace q103 := eq_true q103
                  go_wp2_with (first | ((with_reducible refine gate_dst (N := 5) rfl ?_); refine box_event ?hg (N := 5) ?hd (cs := #[.int .i64 0, .int .u64 0, .int .u64 0, .int .u64 0, .int .u64 0, .int .i64 0, .int .i64 0]) (t := 63) ?hr ?_; (case hd => rfl); (case hg => rfl); (case hr => first | (go_simp; done) | (go_simp; rfl)); intro gb104 hg w12 hbox hb; have n0_ := Aside0.mk (Kd.R_below (by (with_reducible repeat (first | apply Kd.R_alloc | apply Kd.R_drewN | apply Kd.R_drew)); exact HO_3.out) hb); have n1_ := Aside0.mk (below_step (by repeat (first | (with_reducible first | exact HB.out | apply below_alloc | apply pw_below_drewN | apply below_drew1) | exact HB.out)) hb); have n2_ := Aside0.mk (hbox); have n3_ := Aside0.mk ((by rw [hg]; exact (below_size (by repeat (first | (with_reducible first | exact HB.out | apply below_alloc | apply pw_below_drewN | apply below_drew1) | exact HB.out))) : w.heap.size ≤ gb104)); have n4_ := Aside0.mk ((by rw [hg]; exact (below_size (by repeat (first | (with_reducible first | exact HB.out | apply below_alloc | apply pw_below_drewN | apply below_drew1) | exact HB.out))) : w.heap.size ≤ gb104)); clear HO_3; clear HB; have HO_3 := n0_; have HB := n1_; have BK104 := n2_; have GW104 := n3_; have GE104 := n4_; clear n0_ n1_ n2_ n3_ n4_; clear hb hbox hg; have hcz13_0 : w12.cell? ⟨gb104, 0, none⟩ = some (.int .i64 0) := (blk_cell BK104.out 0).trans rfl; have hcz13_1 : w12.cell? ⟨gb104, 1, none⟩ = some (.int .u64 0) := (blk_cell BK104.out 1).trans rfl; have hcz13_2 : w12.cell? ⟨gb104, 2, none⟩ = some (.int .u64 0) := (blk_cell BK104.out 2).trans rfl; have hcz13_3 : w12.cell? ⟨gb104, 3, none⟩ = some (.int .u64 0) := (blk_cell BK104.out 3).trans rfl; have hcz13_4 : w12.cell? ⟨gb104, 4, none⟩ = some (.int .u64 0) := (blk_cell BK104.out 4).trans rfl; have hcz13_5 : w12.cell? ⟨gb104, 5, none⟩ = some (.int .i64 0) := (blk_cell BK104.out 5).trans rfl; have hcz13_6 : w12.cell? ⟨gb104, 6, none⟩ = some (.int .i64 0) := (blk_cell BK104.out 6).trans rfl; have hfz13_0 := blk_frozen BK104.out 0; have hfz13_1 := blk_frozen BK104.out 1; have hfz13_2 := blk_frozen BK104.out 2; have hfz13_3 := blk_frozen BK104.out 3; have hfz13_4 := blk_frozen BK104.out 4; have hfz13_5 := blk_frozen BK104.out 5; have hfz13_6 := blk_frozen BK104.out 6) | ((with_reducible refine gate_store (t := 63) (p := 5) rfl ?_); (try (rw [drewN_self w12]; generalize hq_ : World.drewN w12 _ = w12; have n0_ := Aside0.mk (Kd.R_at hq_ HO_3.out); have n1_ := Aside0.mk (blk_at hq_ BK104.out); have n2_ := Aside0.mk (below_at hq_ HB.out); clear hq_ HO_3 BK104 HB; have HO_3 := n0_; have BK104 := n1_; have HB := n2_; clear n0_ n1_ n2_)); refine store_event (t := 63) (p := 5) (v := ?vo_w14) (w1 := (((((((w12.setCell ⟨gb104, 0, none⟩ (.int .i64 ((rd_T63 l0 x15_1).f0))).setCell ⟨gb104, 1, none⟩ (.int .u64 ((rd_T63 l0 x15_1).f1.f0))).setCell ⟨gb104, 2, none⟩ (.int .u64 ((rd_T63 l0 x15_1).f1.f1))).setCell ⟨gb104, 3, none⟩ (.int .u64 ((rd_T63 l0 x15_1).f1.f2))).setCell ⟨gb104, 4, none⟩ (.int .u64 ((rd_T63 l0 x15_1).f1.f3))).setCell ⟨gb104, 5, none⟩ (.int .i64 ((rd_T63 l0 x15_1).f2))).setCell ⟨gb104, 6, none⟩ (.int .i64 ((rd_T63 l0 x15_1).f3)))) ?hg ?ho ?hn ?hr ?_; (case ho => rfl); (case hg => rfl); (case hn => rfl); (case hr => first | (go_simp; done) | (go_simp; rfl)); intro w14 hw; have n0_ : Aside0 (Kd.R (Kd.int .i64) 3 w14 w.heap.size (fun _ => True) u3 x3_1) := ⟨(by rw [hw]; exact (by (with_reducible repeat (first | apply Kd.R_alloc | apply Kd.R_drewN | apply Kd.R_drew)); exact Kd.R_mono (Kd.R_far (p := ⟨gb104, 6, none⟩) (Kd.R_far (p := ⟨gb104, 5, none⟩) (Kd.R_far (p := ⟨gb104, 4, none⟩) (Kd.R_far (p := ⟨gb104, 3, none⟩) (Kd.R_far (p := ⟨gb104, 2, none⟩) (Kd.R_far (p := ⟨gb104, 1, none⟩) (Kd.R_far (p := ⟨gb104, 0, none⟩) (Kd.R_types HO_3.out BK104.out (by decide)) (fun _ hk => hk.2) (.int .i64 ((rd_T63 l0 x15_1).f0))) (fun _ hk => hk.2) (.int .u64 ((rd_T63 l0 x15_1).f1.f0))) (fun _ hk => hk.2) (.int .u64 ((rd_T63 l0 x15_1).f1.f1))) (fun _ hk => hk.2) (.int .u64 ((rd_T63 l0 x15_1).f1.f2))) (fun _ hk => hk.2) (.int .u64 ((rd_T63 l0 x15_1).f1.f3))) (fun _ hk => hk.2) (.int .i64 ((rd_T63 l0 x15_1).f2))) (fun _ hk => hk.2) (.int .i64 ((rd_T63 l0 x15_1).f3))) (fun _ hk => trivial)))⟩; have n1_ : Aside0 (w14.heap[gb104]? = some (.cells #[.int .i64 ((rd_T63 l0 x15_1).f0), .int .u64 ((rd_T63 l0 x15_1).f1.f0), .int .u64 ((rd_T63 l0 x15_1).f1.f1), .int .u64 ((rd_T63 l0 x15_1).f1.f2), .int .u64 ((rd_T63 l0 x15_1).f1.f3), .int .i64 ((rd_T63 l0 x15_1).f2), .int .i64 ((rd_T63 l0 x15_1).f3)] 63 (0, 0))) := ⟨(by rw [hw]; exact (by (with_reducible repeat (first | refine blk_drewN ?_ _ | refine blk_drew ?_ | refine blk_alloc ?_ _)); refine blk_put (cs := #[.int .i64 ((rd_T63 l0 x15_1).f0), .int .u64 ((rd_T63 l0 x15_1).f1.f0), .int .u64 ((rd_T63 l0 x15_1).f1.f1), .int .u64 ((rd_T63 l0 x15_1).f1.f2), .int .u64 ((rd_T63 l0 x15_1).f1.f3), .int .i64 ((rd_T63 l0 x15_1).f2), .int .i64 0]) ?_ 6 _ rfl; (with_reducible repeat (first | refine blk_drewN ?_ _ | refine blk_drew ?_ | refine blk_alloc ?_ _)); refine blk_put (cs := #[.int .i64 ((rd_T63 l0 x15_1).f0), .int .u64 ((rd_T63 l0 x15_1).f1.f0), .int .u64 ((rd_T63 l0 x15_1).f1.f1), .int .u64 ((rd_T63 l0 x15_1).f1.f2), .int .u64 ((rd_T63 l0 x15_1).f1.f3), .int .i64 0, .int .i64 0]) ?_ 5 _ rfl; (with_reducible repeat (first | refine blk_drewN ?_ _ | refine blk_drew ?_ | refine blk_alloc ?_ _)); refine blk_put (cs := #[.int .i64 ((rd_T63 l0 x15_1).f0), .int .u64 ((rd_T63 l0 x15_1).f1.f0), .int .u64 ((rd_T63 l0 x15_1).f1.f1), .int .u64 ((rd_T63 l0 x15_1).f1.f2), .int .u64 0, .int .i64 0, .int .i64 0]) ?_ 4 _ rfl; (with_reducible repeat (first | refine blk_drewN ?_ _ | refine blk_drew ?_ | refine blk_alloc ?_ _)); refine blk_put (cs := #[.int .i64 ((rd_T63 l0 x15_1).f0), .int .u64 ((rd_T63 l0 x15_1).f1.f0), .int .u64 ((rd_T63 l0 x15_1).f1.f1), .int .u64 0, .int .u64 0, .int .i64 0, .int .i64 0]) ?_ 3 _ rfl; (with_reducible repeat (first | refine blk_drewN ?_ _ | refine blk_drew ?_ | refine blk_alloc ?_ _)); refine blk_put (cs := #[.int .i64 ((rd_T63 l0 x15_1).f0), .int .u64 ((rd_T63 l0 x15_1).f1.f0), .int .u64 0, .int .u64 0, .int .u64 0, .int .i64 0, .int .i64 0]) ?_ 2 _ rfl; (with_reducible repeat (first | refine blk_drewN ?_ _ | refine blk_drew ?_ | refine blk_alloc ?_ _)); refine blk_put (cs := #[.int .i64 ((rd_T63 l0 x15_1).f0), .int .u64 0, .int .u64 0, .int .u64 0, .int .u64 0, .int .i64 0, .int .i64 0]) ?_ 1 _ rfl; (with_reducible repeat (first | refine blk_drewN ?_ _ | refine blk_drew ?_ | refine blk_alloc ?_ _)); refine blk_put (cs := #[.int .i64 0, .int .u64 0, .int .u64 0, .int .u64 0, .int .u64 0, .int .i64 0, .int .i64 0]) ?_ 0 _ rfl; (with_reducible repeat (first | refine blk_drewN ?_ _ | refine blk_drew ?_ | refine blk_alloc ?_ _)); exact BK104.out))⟩; have n2_ : Aside0 (Below w.heap.size w w14) := ⟨(by rw [hw]; exact (by repeat (first | (with_reducible first | exact HB.out | apply below_alloc | apply pw_below_drewN | apply below_drew1 | refine below_set ?_ GE104.out) | exact HB.out)))⟩; clear hw; clear HO_3; clear BK104; clear HB; have HO_3 := n0_; have BK104 := n1_; have HB := n2_; clear n0_ n1_ n2_; obtain ⟨Ao15, co15, eo15⟩ := Kd.R_slice HO_3.out; subst eo15; have hcz16_0 : w14.cell? ⟨gb104, 0, none⟩ = some (.int .i64 ((rd_T63 l0 x15_1).f0)) := (blk_cell BK104.out 0).trans rfl; have hcz16_1 : w14.cell? ⟨gb104, 1, none⟩ = some (.int .u64 ((rd_T63 l0 x15_1).f1.f0)) := (blk_cell BK104.out 1).trans rfl; have hcz16_2 : w14.cell? ⟨gb104, 2, none⟩ = some (.int .u64 ((rd_T63 l0 x15_1).f1.f1)) := (blk_cell BK104.out 2).trans rfl; have hcz16_3 : w14.cell? ⟨gb104, 3, none⟩ = some (.int .u64 ((rd_T63 l0 x15_1).f1.f2)) := (blk_cell BK104.out 3).trans rfl; have hcz16_4 : w14.cell? ⟨gb104, 4, none⟩ = some (.int .u64 ((rd_T63 l0 x15_1).f1.f3)) := (blk_cell BK104.out 4).trans rfl; have hcz16_5 : w14.cell? ⟨gb104, 5, none⟩ = some (.int .i64 ((rd_T63 l0 x15_1).f2)) := (blk_cell BK104.out 5).trans rfl; have hcz16_6 : w14.cell? ⟨gb104, 6, none⟩ = some (.int .i64 ((rd_T63 l0 x15_1).f3)) := (blk_cell BK104.out 6).trans rfl; have hfz16_0 := blk_frozen BK104.out 0; have hfz16_1 := blk_frozen BK104.out 1; have hfz16_2 := blk_frozen BK104.out 2; have hfz16_3 := blk_frozen BK104.out 3; have hfz16_4 := blk_frozen BK104.out 4; have hfz16_5 := blk_frozen BK104.out 5; have hfz16_6 := blk_frozen BK104.out 6) | (go_at_call 36; (with_reducible refine (tree_Args.calls k1 ((rd_T63 l0 x15_1).f0) t105 _ A8.out).mono ?_); rintro e w' ⟨rfl, ⟨nd, rfl⟩⟩; (try first | exact ⟨rfl, _, World.drewN_drewN _ _ _⟩ | exact ⟨rfl, _, Eq.trans (World.drewN_drewN _ _ _) (congrArg (World.drewN _) (Nat.add_assoc _ _ _))⟩); have q17 : ((ji9) : Int) ≤ ((x3_1.length : Int) : Int) := of_decide_eq_true (by first | (with_reducible assumption) | assumption); obtain ⟨i017, hi017, _, hsz17, _⟩ := info_parts info3; have hroom17 : x3_1.length ≤ co15 := (Kd.R_reads' HO_3.out).2.1; have hC17 : Kd.C (Kd.int .i64) _ Ao15 x3_1.length x3_1 := (Kd.R_reads' HO_3.out).2.2; have q017 : (0 : Int) ≤ ((ji9) : Int) := of_decide_eq_true (by first | (with_reducible assumption) | assumption); have hcut17 := cut_from (P := Try.prog) 52 3 .i64 Try.underlying52 hi017 1 hsz17 Ao15 x3_1.length co15 (ji9) q017 q17; have hr17 := Kd.C_drop (m := ((ji9) : Int).toNat) (c := co15) hC17 (by omega) hroom17; obtain ⟨A17, hA17⟩ : ∃ A1, A1 = (if co15 = ((ji9) : Int).toNat then Ao15 else (Ao15 : Option Addr).map (·.add (((ji9) : Int).toNat * 1))) := ⟨_, rfl⟩; obtain ⟨c17, hc17⟩ : ∃ c1, c1 = co15 - ((ji9) : Int).toNat := ⟨_, rfl⟩; have hy17 : y106.length = x3_1.length - ((ji9) : Int).toNat := (by rw [Ny106.out, List.length_drop] <;> omega); rw [show (x3_1).drop ((ji9) : Int).toNat = y106 from Ny106.out.symm] at hr17; replace hr17 : Kd.C (Kd.int .i64) _ A17 y106.length y106 := (by rw [hA17]; exact hr17); rw [← hy17, ← hA17, ← hc17] at hcut17; have HR109 := Aside0.mk hr17; have HC109 := Aside0.mk (show y106.length ≤ c17 from by rw [hy17, hc17]; exact Nat.sub_le_sub_right hroom17 _); clear hr17 hC17 hroom17 hi017 hsz17 hc17; have KY17 := Aside0.mk hy17; have KA17 := Aside0.mk hA17; clear hy17 hA17; have KL17 := Aside0.mk (show ((ji9) : Int).toNat ≤ x3_1.length from by omega); replace q17 := eq_true q17))
                  repeat (go_quiet (first | ((with_reducible refine gate_dst (N := 5) rfl ?_); refine box_event ?hg (N := 5) ?hd (cs := #[.int .i64 0, .int .u64 0, .int .u64 0, .int .u64 0, .int .u64 0, .int .i64 0, .int .i64 0]) (t := 63) ?hr ?_; (case hd => rfl); (case hg => rfl); (case hr => first | (go_simp; done) | (go_simp; rfl)); intro gb104 hg w12 hbox hb; have n0_ := Aside0.mk (Kd.R_below (by (with_reducible repeat (first | apply Kd.R_alloc | apply Kd.R_drewN | apply Kd.R_drew)); exact HO_3.out) hb); have n1_ := Aside0.mk (below_step (by repeat (first | (with_reducible first | exact HB.out | apply below_alloc | apply pw_below_drewN | apply below_drew1) | exact HB.out)) hb); have n2_ := Aside0.mk (hbox); have n3_ := Aside0.mk ((by rw [hg]; exact (below_size (by repeat (first | (with_reducible first | exact HB.out | apply below_alloc | apply pw_below_drewN | apply below_drew1) | exact HB.out))) : w.heap.size ≤ gb104)); have n4_ := Aside0.mk ((by rw [hg]; exact (below_size (by repeat (first | (with_reducible first | exact HB.out | apply below_alloc | apply pw_below_drewN | apply below_drew1) | exact HB.out))) : w.heap.size ≤ gb104)); clear HO_3; clear HB; have HO_3 := n0_; have HB := n1_; have BK104 := n2_; have GW104 := n3_; have GE104 := n4_; clear n0_ n1_ n2_ n3_ n4_; clear hb hbox hg; have hcz13_0 : w12.cell? ⟨gb104, 0, none⟩ = some (.int .i64 0) := (blk_cell BK104.out 0).trans rfl; have hcz13_1 : w12.cell? ⟨gb104, 1, none⟩ = some (.int .u64 0) := (blk_cell BK104.out 1).trans rfl; have hcz13_2 : w12.cell? ⟨gb104, 2, none⟩ = some (.int .u64 0) := (blk_cell BK104.out 2).trans rfl; have hcz13_3 : w12.cell? ⟨gb104, 3, none⟩ = some (.int .u64 0) := (blk_cell BK104.out 3).trans rfl; have hcz13_4 : w12.cell? ⟨gb104, 4, none⟩ = some (.int .u64 0) := (blk_cell BK104.out 4).trans rfl; have hcz13_5 : w12.cell? ⟨gb104, 5, none⟩ = some (.int .i64 0) := (blk_cell BK104.out 5).trans rfl; have hcz13_6 : w12.cell? ⟨gb104, 6, none⟩ = some (.int .i64 0) := (blk_cell BK104.out 6).trans rfl; have hfz13_0 := blk_frozen BK104.out 0; have hfz13_1 := blk_frozen BK104.out 1; have hfz13_2 := blk_frozen BK104.out 2; have hfz13_3 := blk_frozen BK104.out 3; have hfz13_4 := blk_frozen BK104.out 4; have hfz13_5 := blk_frozen BK104.out 5; have hfz13_6 := blk_frozen BK104.out 6) | ((with_reducible refine gate_store (t := 63) (p := 5) rfl ?_); (try (rw [drewN_self w12]; generalize hq_ : World.drewN w12 _ = w12; have n0_ := Aside0.mk (Kd.R_at hq_ HO_3.out); have n1_ := Aside0.mk (blk_at hq_ BK104.out); have n2_ := Aside0.mk (below_at hq_ HB.out); clear hq_ HO_3 BK104 HB; have HO_3 := n0_; have BK104 := n1_; have HB := n2_; clear n0_ n1_ n2_)); refine store_event (t := 63) (p := 5) (v := ?vo_w14) (w1 := (((((((w12.setCell ⟨gb104, 0, none⟩ (.int .i64 ((rd_T63 l0 x15_1).f0))).setCell ⟨gb104, 1, none⟩ (.int .u64 ((rd_T63 l0 x15_1).f1.f0))).setCell ⟨gb104, 2, none⟩ (.int .u64 ((rd_T63 l0 x15_1).f1.f1))).setCell ⟨gb104, 3, none⟩ (.int .u64 ((rd_T63 l0 x15_1).f1.f2))).setCell ⟨gb104, 4, none⟩ (.int .u64 ((rd_T63 l0 x15_1).f1.f3))).setCell ⟨gb104, 5, none⟩ (.int .i64 ((rd_T63 l0 x15_1).f2))).setCell ⟨gb104, 6, none⟩ (.int .i64 ((rd_T63 l0 x15_1).f3)))) ?hg ?ho ?hn ?hr ?_; (case ho => rfl); (case hg => rfl); (case hn => rfl); (case hr => first | (go_simp; done) | (go_simp; rfl)); intro w14 hw; have n0_ : Aside0 (Kd.R (Kd.int .i64) 3 w14 w.heap.size (fun _ => True) u3 x3_1) := ⟨(by rw [hw]; exact (by (with_reducible repeat (first | apply Kd.R_alloc | apply Kd.R_drewN | apply Kd.R_drew)); exact Kd.R_mono (Kd.R_far (p := ⟨gb104, 6, none⟩) (Kd.R_far (p := ⟨gb104, 5, none⟩) (Kd.R_far (p := ⟨gb104, 4, none⟩) (Kd.R_far (p := ⟨gb104, 3, none⟩) (Kd.R_far (p := ⟨gb104, 2, none⟩) (Kd.R_far (p := ⟨gb104, 1, none⟩) (Kd.R_far (p := ⟨gb104, 0, none⟩) (Kd.R_types HO_3.out BK104.out (by decide)) (fun _ hk => hk.2) (.int .i64 ((rd_T63 l0 x15_1).f0))) (fun _ hk => hk.2) (.int .u64 ((rd_T63 l0 x15_1).f1.f0))) (fun _ hk => hk.2) (.int .u64 ((rd_T63 l0 x15_1).f1.f1))) (fun _ hk => hk.2) (.int .u64 ((rd_T63 l0 x15_1).f1.f2))) (fun _ hk => hk.2) (.int .u64 ((rd_T63 l0 x15_1).f1.f3))) (fun _ hk => hk.2) (.int .i64 ((rd_T63 l0 x15_1).f2))) (fun _ hk => hk.2) (.int .i64 ((rd_T63 l0 x15_1).f3))) (fun _ hk => trivial)))⟩; have n1_ : Aside0 (w14.heap[gb104]? = some (.cells #[.int .i64 ((rd_T63 l0 x15_1).f0), .int .u64 ((rd_T63 l0 x15_1).f1.f0), .int .u64 ((rd_T63 l0 x15_1).f1.f1), .int .u64 ((rd_T63 l0 x15_1).f1.f2), .int .u64 ((rd_T63 l0 x15_1).f1.f3), .int .i64 ((rd_T63 l0 x15_1).f2), .int .i64 ((rd_T63 l0 x15_1).f3)] 63 (0, 0))) := ⟨(by rw [hw]; exact (by (with_reducible repeat (first | refine blk_drewN ?_ _ | refine blk_drew ?_ | refine blk_alloc ?_ _)); refine blk_put (cs := #[.int .i64 ((rd_T63 l0 x15_1).f0), .int .u64 ((rd_T63 l0 x15_1).f1.f0), .int .u64 ((rd_T63 l0 x15_1).f1.f1), .int .u64 ((rd_T63 l0 x15_1).f1.f2), .int .u64 ((rd_T63 l0 x15_1).f1.f3), .int .i64 ((rd_T63 l0 x15_1).f2), .int .i64 0]) ?_ 6 _ rfl; (with_reducible repeat (first | refine blk_drewN ?_ _ | refine blk_drew ?_ | refine blk_alloc ?_ _)); refine blk_put (cs := #[.int .i64 ((rd_T63 l0 x15_1).f0), .int .u64 ((rd_T63 l0 x15_1).f1.f0), .int .u64 ((rd_T63 l0 x15_1).f1.f1), .int .u64 ((rd_T63 l0 x15_1).f1.f2), .int .u64 ((rd_T63 l0 x15_1).f1.f3), .int .i64 0, .int .i64 0]) ?_ 5 _ rfl; (with_reducible repeat (first | refine blk_drewN ?_ _ | refine blk_drew ?_ | refine blk_alloc ?_ _)); refine blk_put (cs := #[.int .i64 ((rd_T63 l0 x15_1).f0), .int .u64 ((rd_T63 l0 x15_1).f1.f0), .int .u64 ((rd_T63 l0 x15_1).f1.f1), .int .u64 ((rd_T63 l0 x15_1).f1.f2), .int .u64 0, .int .i64 0, .int .i64 0]) ?_ 4 _ rfl; (with_reducible repeat (first | refine blk_drewN ?_ _ | refine blk_drew ?_ | refine blk_alloc ?_ _)); refine blk_put (cs := #[.int .i64 ((rd_T63 l0 x15_1).f0), .int .u64 ((rd_T63 l0 x15_1).f1.f0), .int .u64 ((rd_T63 l0 x15_1).f1.f1), .int .u64 0, .int .u64 0, .int .i64 0, .int .i64 0]) ?_ 3 _ rfl; (with_reducible repeat (first | refine blk_drewN ?_ _ | refine blk_drew ?_ | refine blk_alloc ?_ _)); refine blk_put (cs := #[.int .i64 ((rd_T63 l0 x15_1).f0), .int .u64 ((rd_T63 l0 x15_1).f1.f0), .int .u64 0, .int .u64 0, .int .u64 0, .int .i64 0, .int .i64 0]) ?_ 2 _ rfl; (with_reducible repeat (first | refine blk_drewN ?_ _ | refine blk_drew ?_ | refine blk_alloc ?_ _)); refine blk_put (cs := #[.int .i64 ((rd_T63 l0 x15_1).f0), .int .u64 0, .int .u64 0, .int .u64 0, .int .u64 0, .int .i64 0, .int .i64 0]) ?_ 1 _ rfl; (with_reducible repeat (first | refine blk_drewN ?_ _ | refine blk_drew ?_ | refine blk_alloc ?_ _)); refine blk_put (cs := #[.int .i64 0, .int .u64 0, .int .u64 0, .int .u64 0, .int .u64 0, .int .i64 0, .int .i64 0]) ?_ 0 _ rfl; (with_reducible repeat (first | refine blk_drewN ?_ _ | refine blk_drew ?_ | refine blk_alloc ?_ _)); exact BK104.out))⟩; have n2_ : Aside0 (Below w.heap.size w w14) := ⟨(by rw [hw]; exact (by repeat (first | (with_reducible first | exact HB.out | apply below_alloc | apply pw_below_drewN | apply below_drew1 | refine below_set ?_ GE104.out) | exact HB.out)))⟩; clear hw; clear HO_3; clear BK104; clear HB; have HO_3 := n0_; have BK104 := n1_; have HB := n2_; clear n0_ n1_ n2_; obtain ⟨Ao15, co15, eo15⟩ := Kd.R_slice HO_3.out; subst eo15; have hcz16_0 : w14.cell? ⟨gb104, 0, none⟩ = some (.int .i64 ((rd_T63 l0 x15_1).f0)) := (blk_cell BK104.out 0).trans rfl; have hcz16_1 : w14.cell? ⟨gb104, 1, none⟩ = some (.int .u64 ((rd_T63 l0 x15_1).f1.f0)) := (blk_cell BK104.out 1).trans rfl; have hcz16_2 : w14.cell? ⟨gb104, 2, none⟩ = some (.int .u64 ((rd_T63 l0 x15_1).f1.f1)) := (blk_cell BK104.out 2).trans rfl; have hcz16_3 : w14.cell? ⟨gb104, 3, none⟩ = some (.int .u64 ((rd_T63 l0 x15_1).f1.f2)) := (blk_cell BK104.out 3).trans rfl; have hcz16_4 : w14.cell? ⟨gb104, 4, none⟩ = some (.int .u64 ((rd_T63 l0 x15_1).f1.f3)) := (blk_cell BK104.out 4).trans rfl; have hcz16_5 : w14.cell? ⟨gb104, 5, none⟩ = some (.int .i64 ((rd_T63 l0 x15_1).f2)) := (blk_cell BK104.out 5).trans rfl; have hcz16_6 : w14.cell? ⟨gb104, 6, none⟩ = some (.int .i64 ((rd_T63 l0 x15_1).f3)) := (blk_cell BK104.out 6).trans rfl; have hfz16_0 := blk_frozen BK104.out 0; have hfz16_1 := blk_frozen BK104.out 1; have hfz16_2 := blk_frozen BK104.out 2; have hfz16_3 := blk_frozen BK104.out 3; have hfz16_4 := blk_frozen BK104.out 4; have hfz16_5 := blk_frozen BK104.out 5; have hfz16_6 := blk_frozen BK104.out 6) | (go_at_call 36; (with_reducible refine (tree_Args.calls k1 ((rd_T63 l0 x15_1).f0) t105 _ A8.out).mono ?_); rintro e w' ⟨rfl, ⟨nd, rfl⟩⟩; (try first | exact ⟨rfl, _, World.drewN_drewN _ _ _⟩ | exact ⟨rfl, _, Eq.trans (World.drewN_drewN _ _ _) (congrArg (World.drewN _) (Nat.add_assoc _ _ _))⟩); have q17 : ((ji9) : Int) ≤ ((x3_1.length : Int) : Int) := of_decide_eq_true (by first | (with_reducible assumption) | assumption); obtain ⟨i017, hi017, _, hsz17, _⟩ := info_parts info3; have hroom17 : x3_1.length ≤ co15 := (Kd.R_reads' HO_3.out).2.1; have hC17 : Kd.C (Kd.int .i64) _ Ao15 x3_1.length x3_1 := (Kd.R_reads' HO_3.out).2.2; have q017 : (0 : Int) ≤ ((ji9) : Int) := of_decide_eq_true (by first | (with_reducible assumption) | assumption); have hcut17 := cut_from (P := Try.prog) 52 3 .i64 Try.underlying52 hi017 1 hsz17 Ao15 x3_1.length co15 (ji9) q017 q17; have hr17 := Kd.C_drop (m := ((ji9) : Int).toNat) (c := co15) hC17 (by omega) hroom17; obtain ⟨A17, hA17⟩ : ∃ A1, A1 = (if co15 = ((ji9) : Int).toNat then Ao15 else (Ao15 : Option Addr).map (·.add (((ji9) : Int).toNat * 1))) := ⟨_, rfl⟩; obtain ⟨c17, hc17⟩ : ∃ c1, c1 = co15 - ((ji9) : Int).toNat := ⟨_, rfl⟩; have hy17 : y106.length = x3_1.length - ((ji9) : Int).toNat := (by rw [Ny106.out, List.length_drop] <;> omega); rw [show (x3_1).drop ((ji9) : Int).toNat = y106 from Ny106.out.symm] at hr17; replace hr17 : Kd.C (Kd.int .i64) _ A17 y106.length y106 := (by rw [hA17]; exact hr17); rw [← hy17, ← hA17, ← hc17] at hcut17; have HR109 := Aside0.mk hr17; have HC109 := Aside0.mk (show y106.length ≤ c17 from by rw [hy17, hc17]; exact Nat.sub_le_sub_right hroom17 _); clear hr17 hC17 hroom17 hi017 hsz17 hc17; have KY17 := Aside0.mk hy17; have KA17 := Aside0.mk hA17; clear hy17 hA17; have KL17 := Aside0.mk (show ((ji9) : Int).toNat ≤ x3_1.length from by omega); replace q17 := eq_true q17)); try go_wp2_with (first | ((with_reducible refine gate_dst (N := 5) rfl ?_); refine box_event ?hg (N := 5) ?hd (cs := #[.int .i64 0, .int .u64 0, .int .u64 0, .int .u64 0, .int .u64 0, .int .i64 0, .int .i64 0]) (t := 63) ?hr ?_; (case hd => rfl); (case hg => rfl); (case hr => first | (go_simp; done) | (go_simp; rfl)); intro gb104 hg w12 hbox hb; have n0_ := Aside0.mk (Kd.R_below (by (with_reducible repeat (first | apply Kd.R_alloc | apply Kd.R_drewN | apply Kd.R_drew)); exact HO_3.out) hb); have n1_ := Aside0.mk (below_step (by repeat (first | (with_reducible first | exact HB.out | apply below_alloc | apply pw_below_drewN | apply below_drew1) | exact HB.out)) hb); have n2_ := Aside0.mk (hbox); have n3_ := Aside0.mk ((by rw [hg]; exact (below_size (by repeat (first | (with_reducible first | exact HB.out | apply below_alloc | apply pw_below_drewN | apply below_drew1) | exact HB.out))) : w.heap.size ≤ gb104)); have n4_ := Aside0.mk ((by rw [hg]; exact (below_size (by repeat (first | (with_reducible first | exact HB.out | apply below_alloc | apply pw_below_drewN | apply below_drew1) | exact HB.out))) : w.heap.size ≤ gb104)); clear HO_3; clear HB; have HO_3 := n0_; have HB := n1_; have BK104 := n2_; have GW104 := n3_; have GE104 := n4_; clear n0_ n1_ n2_ n3_ n4_; clear hb hbox hg; have hcz13_0 : w12.cell? ⟨gb104, 0, none⟩ = some (.int .i64 0) := (blk_cell BK104.out 0).trans rfl; have hcz13_1 : w12.cell? ⟨gb104, 1, none⟩ = some (.int .u64 0) := (blk_cell BK104.out 1).trans rfl; have hcz13_2 : w12.cell? ⟨gb104, 2, none⟩ = some (.int .u64 0) := (blk_cell BK104.out 2).trans rfl; have hcz13_3 : w12.cell? ⟨gb104, 3, none⟩ = some (.int .u64 0) := (blk_cell BK104.out 3).trans rfl; have hcz13_4 : w12.cell? ⟨gb104, 4, none⟩ = some (.int .u64 0) := (blk_cell BK104.out 4).trans rfl; have hcz13_5 : w12.cell? ⟨gb104, 5, none⟩ = some (.int .i64 0) := (blk_cell BK104.out 5).trans rfl; have hcz13_6 : w12.cell? ⟨gb104, 6, none⟩ = some (.int .i64 0) := (blk_cell BK104.out 6).trans rfl; have hfz13_0 := blk_frozen BK104.out 0; have hfz13_1 := blk_frozen BK104.out 1; have hfz13_2 := blk_frozen BK104.out 2; have hfz13_3 := blk_frozen BK104.out 3; have hfz13_4 := blk_frozen BK104.out 4; have hfz13_5 := blk_frozen BK104.out 5; have hfz13_6 := blk_frozen BK104.out 6) | ((with_reducible refine gate_store (t := 63) (p := 5) rfl ?_); (try (rw [drewN_self w12]; generalize hq_ : World.drewN w12 _ = w12; have n0_ := Aside0.mk (Kd.R_at hq_ HO_3.out); have n1_ := Aside0.mk (blk_at hq_ BK104.out); have n2_ := Aside0.mk (below_at hq_ HB.out); clear hq_ HO_3 BK104 HB; have HO_3 := n0_; have BK104 := n1_; have HB := n2_; clear n0_ n1_ n2_)); refine store_event (t := 63) (p := 5) (v := ?vo_w14) (w1 := (((((((w12.setCell ⟨gb104, 0, none⟩ (.int .i64 ((rd_T63 l0 x15_1).f0))).setCell ⟨gb104, 1, none⟩ (.int .u64 ((rd_T63 l0 x15_1).f1.f0))).setCell ⟨gb104, 2, none⟩ (.int .u64 ((rd_T63 l0 x15_1).f1.f1))).setCell ⟨gb104, 3, none⟩ (.int .u64 ((rd_T63 l0 x15_1).f1.f2))).setCell ⟨gb104, 4, none⟩ (.int .u64 ((rd_T63 l0 x15_1).f1.f3))).setCell ⟨gb104, 5, none⟩ (.int .i64 ((rd_T63 l0 x15_1).f2))).setCell ⟨gb104, 6, none⟩ (.int .i64 ((rd_T63 l0 x15_1).f3)))) ?hg ?ho ?hn ?hr ?_; (case ho => rfl); (case hg => rfl); (case hn => rfl); (case hr => first | (go_simp; done) | (go_simp; rfl)); intro w14 hw; have n0_ : Aside0 (Kd.R (Kd.int .i64) 3 w14 w.heap.size (fun _ => True) u3 x3_1) := ⟨(by rw [hw]; exact (by (with_reducible repeat (first | apply Kd.R_alloc | apply Kd.R_drewN | apply Kd.R_drew)); exact Kd.R_mono (Kd.R_far (p := ⟨gb104, 6, none⟩) (Kd.R_far (p := ⟨gb104, 5, none⟩) (Kd.R_far (p := ⟨gb104, 4, none⟩) (Kd.R_far (p := ⟨gb104, 3, none⟩) (Kd.R_far (p := ⟨gb104, 2, none⟩) (Kd.R_far (p := ⟨gb104, 1, none⟩) (Kd.R_far (p := ⟨gb104, 0, none⟩) (Kd.R_types HO_3.out BK104.out (by decide)) (fun _ hk => hk.2) (.int .i64 ((rd_T63 l0 x15_1).f0))) (fun _ hk => hk.2) (.int .u64 ((rd_T63 l0 x15_1).f1.f0))) (fun _ hk => hk.2) (.int .u64 ((rd_T63 l0 x15_1).f1.f1))) (fun _ hk => hk.2) (.int .u64 ((rd_T63 l0 x15_1).f1.f2))) (fun _ hk => hk.2) (.int .u64 ((rd_T63 l0 x15_1).f1.f3))) (fun _ hk => hk.2) (.int .i64 ((rd_T63 l0 x15_1).f2))) (fun _ hk => hk.2) (.int .i64 ((rd_T63 l0 x15_1).f3))) (fun _ hk => trivial)))⟩; have n1_ : Aside0 (w14.heap[gb104]? = some (.cells #[.int .i64 ((rd_T63 l0 x15_1).f0), .int .u64 ((rd_T63 l0 x15_1).f1.f0), .int .u64 ((rd_T63 l0 x15_1).f1.f1), .int .u64 ((rd_T63 l0 x15_1).f1.f2), .int .u64 ((rd_T63 l0 x15_1).f1.f3), .int .i64 ((rd_T63 l0 x15_1).f2), .int .i64 ((rd_T63 l0 x15_1).f3)] 63 (0, 0))) := ⟨(by rw [hw]; exact (by (with_reducible repeat (first | refine blk_drewN ?_ _ | refine blk_drew ?_ | refine blk_alloc ?_ _)); refine blk_put (cs := #[.int .i64 ((rd_T63 l0 x15_1).f0), .int .u64 ((rd_T63 l0 x15_1).f1.f0), .int .u64 ((rd_T63 l0 x15_1).f1.f1), .int .u64 ((rd_T63 l0 x15_1).f1.f2), .int .u64 ((rd_T63 l0 x15_1).f1.f3), .int .i64 ((rd_T63 l0 x15_1).f2), .int .i64 0]) ?_ 6 _ rfl; (with_reducible repeat (first | refine blk_drewN ?_ _ | refine blk_drew ?_ | refine blk_alloc ?_ _)); refine blk_put (cs := #[.int .i64 ((rd_T63 l0 x15_1).f0), .int .u64 ((rd_T63 l0 x15_1).f1.f0), .int .u64 ((rd_T63 l0 x15_1).f1.f1), .int .u64 ((rd_T63 l0 x15_1).f1.f2), .int .u64 ((rd_T63 l0 x15_1).f1.f3), .int .i64 0, .int .i64 0]) ?_ 5 _ rfl; (with_reducible repeat (first | refine blk_drewN ?_ _ | refine blk_drew ?_ | refine blk_alloc ?_ _)); refine blk_put (cs := #[.int .i64 ((rd_T63 l0 x15_1).f0), .int .u64 ((rd_T63 l0 x15_1).f1.f0), .int .u64 ((rd_T63 l0 x15_1).f1.f1), .int .u64 ((rd_T63 l0 x15_1).f1.f2), .int .u64 0, .int .i64 0, .int .i64 0]) ?_ 4 _ rfl; (with_reducible repeat (first | refine blk_drewN ?_ _ | refine blk_drew ?_ | refine blk_alloc ?_ _)); refine blk_put (cs := #[.int .i64 ((rd_T63 l0 x15_1).f0), .int .u64 ((rd_T63 l0 x15_1).f1.f0), .int .u64 ((rd_T63 l0 x15_1).f1.f1), .int .u64 0, .int .u64 0, .int .i64 0, .int .i64 0]) ?_ 3 _ rfl; (with_reducible repeat (first | refine blk_drewN ?_ _ | refine blk_drew ?_ | refine blk_alloc ?_ _)); refine blk_put (cs := #[.int .i64 ((rd_T63 l0 x15_1).f0), .int .u64 ((rd_T63 l0 x15_1).f1.f0), .int .u64 0, .int .u64 0, .int .u64 0, .int .i64 0, .int .i64 0]) ?_ 2 _ rfl; (with_reducible repeat (first | refine blk_drewN ?_ _ | refine blk_drew ?_ | refine blk_alloc ?_ _)); refine blk_put (cs := #[.int .i64 ((rd_T63 l0 x15_1).f0), .int .u64 0, .int .u64 0, .int .u64 0, .int .u64 0, .int .i64 0, .int .i64 0]) ?_ 1 _ rfl; (with_reducible repeat (first | refine blk_drewN ?_ _ | refine blk_drew ?_ | refine blk_alloc ?_ _)); refine blk_put (cs := #[.int .i64 0, .int .u64 0, .int .u64 0, .int .u64 0, .int .u64 0, .int .i64 0, .int .i64 0]) ?_ 0 _ rfl; (with_reducible repeat (first | refine blk_drewN ?_ _ | refine blk_drew ?_ | refine blk_alloc ?_ _)); exact BK104.out))⟩; have n2_ : Aside0 (Below w.heap.size w w14) := ⟨(by rw [hw]; exact (by repeat (first | (with_reducible first | exact HB.out | apply below_alloc | apply pw_below_drewN | apply below_drew1 | refine below_set ?_ GE104.out) | exact HB.out)))⟩; clear hw; clear HO_3; clear BK104; clear HB; have HO_3 := n0_; have BK104 := n1_; have HB := n2_; clear n0_ n1_ n2_; obtain ⟨Ao15, co15, eo15⟩ := Kd.R_slice HO_3.out; subst eo15; have hcz16_0 : w14.cell? ⟨gb104, 0, none⟩ = some (.int .i64 ((rd_T63 l0 x15_1).f0)) := (blk_cell BK104.out 0).trans rfl; have hcz16_1 : w14.cell? ⟨gb104, 1, none⟩ = some (.int .u64 ((rd_T63 l0 x15_1).f1.f0)) := (blk_cell BK104.out 1).trans rfl; have hcz16_2 : w14.cell? ⟨gb104, 2, none⟩ = some (.int .u64 ((rd_T63 l0 x15_1).f1.f1)) := (blk_cell BK104.out 2).trans rfl; have hcz16_3 : w14.cell? ⟨gb104, 3, none⟩ = some (.int .u64 ((rd_T63 l0 x15_1).f1.f2)) := (blk_cell BK104.out 3).trans rfl; have hcz16_4 : w14.cell? ⟨gb104, 4, none⟩ = some (.int .u64 ((rd_T63 l0 x15_1).f1.f3)) := (blk_cell BK104.out 4).trans rfl; have hcz16_5 : w14.cell? ⟨gb104, 5, none⟩ = some (.int .i64 ((rd_T63 l0 x15_1).f2)) := (blk_cell BK104.out 5).trans rfl; have hcz16_6 : w14.cell? ⟨gb104, 6, none⟩ = some (.int .i64 ((rd_T63 l0 x15_1).f3)) := (blk_cell BK104.out 6).trans rfl; have hfz16_0 := blk_frozen BK104.out 0; have hfz16_1 := blk_frozen BK104.out 1; have hfz16_2 := blk_frozen BK104.out 2; have hfz16_3 := blk_frozen BK104.out 3; have hfz16_4 := blk_frozen BK104.out 4; have hfz16_5 := blk_frozen BK104.out 5; have hfz16_6 := blk_frozen BK104.out 6) | (go_at_call 36; (with_reducible refine (tree_Args.calls k1 ((rd_T63 l0 x15_1).f0) t105 _ A8.out).mono ?_); rintro e w' ⟨rfl, ⟨nd, rfl⟩⟩; (try first | exact ⟨rfl, _, World.drewN_drewN _ _ _⟩ | exact ⟨rfl, _, Eq.trans (World.drewN_drewN _ _ _) (congrArg (World.drewN _) (Nat.add_assoc _ _ _))⟩); have q17 : ((ji9) : Int) ≤ ((x3_1.length : Int) : Int) := of_decide_eq_true (by first | (with_reducible assumption) | assumption); obtain ⟨i017, hi017, _, hsz17, _⟩ := info_parts info3; have hroom17 : x3_1.length ≤ co15 := (Kd.R_reads' HO_3.out).2.1; have hC17 : Kd.C (Kd.int .i64) _ Ao15 x3_1.length x3_1 := (Kd.R_reads' HO_3.out).2.2; have q017 : (0 : Int) ≤ ((ji9) : Int) := of_decide_eq_true (by first | (with_reducible assumption) | assumption); have hcut17 := cut_from (P := Try.prog) 52 3 .i64 Try.underlying52 hi017 1 hsz17 Ao15 x3_1.length co15 (ji9) q017 q17; have hr17 := Kd.C_drop (m := ((ji9) : Int).toNat) (c := co15) hC17 (by omega) hroom17; obtain ⟨A17, hA17⟩ : ∃ A1, A1 = (if co15 = ((ji9) : Int).toNat then Ao15 else (Ao15 : Option Addr).map (·.add (((ji9) : Int).toNat * 1))) := ⟨_, rfl⟩; obtain ⟨c17, hc17⟩ : ∃ c1, c1 = co15 - ((ji9) : Int).toNat := ⟨_, rfl⟩; have hy17 : y106.length = x3_1.length - ((ji9) : Int).toNat := (by rw [Ny106.out, List.length_drop] <;> omega); rw [show (x3_1).drop ((ji9) : Int).toNat = y106 from Ny106.out.symm] at hr17; replace hr17 : Kd.C (Kd.int .i64) _ A17 y106.length y106 := (by rw [hA17]; exact hr17); rw [← hy17, ← hA17, ← hc17] at hcut17; have HR109 := Aside0.mk hr17; have HC109 := Aside0.mk (show y106.length ≤ c17 from by rw [hy17, hc17]; exact Nat.sub_le_sub_right hroom17 _); clear hr17 hC17 hroom17 hi017 hsz17 hc17; have KY17 := Aside0.mk hy17; have KA17 := Aside0.mk hA17; clear hy17 hA17; have KL17 := Aside0.mk (show ((ji9) : Int).toNat ≤ x3_1.length from by omega); replace q17 := eq_true q17)))
                  go_loopg [7, 29] k1 (fun kq v7 v29 w' => ∃ (x7_2 : Int) (x29_2 : Int), v7 = .int .i64 x7_2 ∧ v29 = .int .i64 x29_2 ∧ Aside0 (facts_Size.l1 kq x3_1 ji9 x7_2 l0 (l0.length : Int) x15_1 y106 (y106.length : Int) x29_2 ((rd_T63 l0 x15_1).f0) ((rd_T63 l0 x15_1).f1.f0) ((rd_T63 l0 x15_1).f1.f1) ((rd_T63 l0 x15_1).f1.f2) ((rd_T63 l0 x15_1).f1.f3) ((rd_T63 l0 x15_1).f2) ((rd_T63 l0 x15_1).f3) = some r) ∧ Aside0 (kq ≤ k1) ∧ Aside0 (Kd.R (Kd.int .i64) 3 w' w.heap.size (fun _ => True) (.slice Ao15 x3_1.length co15) x3_1) ∧ Aside0 (w'.heap[gb104]? = some (.cells #[.int .i64 ((rd_T63 l0 x15_1).f0), .int .u64 ((rd_T63 l0 x15_1).f1.f0), .int .u64 ((rd_T63 l0 x15_1).f1.f1), .int .u64 ((rd_T63 l0 x15_1).f1.f2), .int .u64 ((rd_T63 l0 x15_1).f1.f3), .int .i64 ((rd_T63 l0 x15_1).f2), .int .i64 ((rd_T63 l0 x15_1).f3)] 63 (0, 0))) ∧ Aside0 (Kd.C (Kd.int .i64) w' A17 y106.length y106) ∧ Aside0 (Below w.heap.size w w'))
                  case atStart => exact ⟨(2), (0), (by first | rfl | (simp; done) | (simp [*]; done)), (by first | rfl | (simp; done) | (simp [*]; done)), H', ⟨Nat.le_refl _⟩, ⟨by (with_reducible repeat (first | apply Kd.R_alloc | apply Kd.R_drewN | apply Kd.R_drew)); exact HO_3.out⟩, ⟨by (with_reducible repeat (first | refine blk_drewN ?_ _ | refine blk_drew ?_ | refine blk_alloc ?_ _)); exact BK104.out⟩, ⟨by repeat (first | (with_reducible exact HR109.out) | (with_reducible refine Kd.C_alloc ?_ _) | (with_reducible refine Kd.C_drewN ?_ _) | (with_reducible refine Kd.C_drew ?_) | exact HR109.out)⟩, ⟨by repeat (first | (with_reducible first | exact HB.out | apply below_alloc | apply pw_below_drewN | apply below_drew1 | refine below_set ?_ GE104.out) | exact HB.out)⟩⟩
                  case round =>
                    clear H'
                    try clear c1
                    try clear p1
                    try clear q1
                    try clear hx1
                    try clear p2
                    try clear c3
                    try clear c5
                    try clear c5b0
                    try clear c6
                    try clear c6b0
                    try clear p6
                    try clear c7
                    try clear c7b0
                    try clear c10
                    try clear c10b0
                    try clear c10b1
                    try clear p10
                    try clear q10
                    try clear hx10
                    try clear c11
                    try clear c11b0
                    try clear c11b1
                    try clear c12
                    try clear c17
                    try clear q17
                    try clear hcz13_0
                    try clear hcz13_1
                    try clear hcz13_2
                    try clear hcz13_3
                    try clear hcz13_4
                    try clear hcz13_5
                    try clear hcz13_6
                    try clear hcz16_0
                    try clear hcz16_1
                    try clear hcz16_2
                    try clear hcz16_3
                    try clear hcz16_4
                    try clear hcz16_5
                    try clear hcz16_6
                    try clear hfz13_0
                    try clear hfz13_1
                    try clear hfz13_2
                    try clear hfz13_3
                    try clear hfz13_4
                    try clear hfz13_5
                    try clear hfz13_6
                    try clear hfz16_0
                    try clear hfz16_1
                    try clear hfz16_2
                    try clear hfz16_3
                    try clear hfz16_4
                    try clear hfz16_5
                    try clear hfz16_6
                    try clear hx103_0
                    try clear hx103_1
                    try clear hx103_2
                    try clear hx103_3
                    try clear hx103_4
                    try clear hx103_5
                    try clear hx103_6
                    try clear p103
                    try clear p2
                    try clear q017
                    try clear q103
                    try clear q17
                    obtain ⟨x7_2, x29_2, rfl, rfl, HA, HK2, HO_3, BK104, HR109, HB⟩ := hrel
                    cases gk with
                    | zero => exact absurd HA.out (by simp [facts_Size.l1])
                    | succ k2 =>
                      have H := HA.out
                      clear HA
                      simp only [facts_Size.l1] at H
                      by_cases c18 : x29_2 < (y106.length : Int)
                      · rw [if_pos c18] at H
                        have c18b0 : decide (x29_2 < (y106.length : Int)) = true := decide_eq_true c18
                        clear c18
                        by_cases c19 : 0 ≤ x29_2
                        · rw [if_pos c19] at H
                          have c19b0 : decide (0 ≤ x29_2) = true := decide_eq_true c19
                          clear c19
                          by_cases c20 : x29_2 < (y106.length : Int)
                          · rw [if_pos c20] at H
                            have c20b0 : decide (x29_2 < (y106.length : Int)) = true := decide_eq_true c20
                            clear c20
                            have H' := Aside0.mk H
                            clear H
                            have p110 : 0 ≤ (x29_2 : Int) := of_decide_eq_true (by first | (with_reducible assumption) | assumption)
                            have q110 : x29_2 < (y106.length : Int) := of_decide_eq_true (by first | (with_reducible assumption) | assumption)
                            obtain ⟨ad110, e110, hx110_0⟩ := Kd.at_int HR109.out x29_2 p110 q110
                            cases e110
                            skip
                            replace p110 := eq_true p110
                            replace q110 := eq_true q110
                            go_wp2
                            repeat (go_quiet (fail); try go_wp2)
                            go_roundg k2
                            case measure => have := HK1.out; have := HK2.out; omega
                            case rel => exact ⟨(wrap64 (x7_2 + (rd y106 x29_2))), (wrap64 (x29_2 + 1)), (by first | rfl | (simp; done) | (simp [*]; done)), (by first | rfl | (simp; done) | (simp [*]; done)), H', ⟨by have := HK1.out; have := HK2.out; omega⟩, ⟨by (with_reducible repeat (first | apply Kd.R_alloc | apply Kd.R_drewN | apply Kd.R_drew)); exact HO_3.out⟩, ⟨by (with_reducible repeat (first | refine blk_drewN ?_ _ | refine blk_drew ?_ | refine blk_alloc ?_ _)); exact BK104.out⟩, ⟨by repeat (first | (with_reducible exact HR109.out) | (with_reducible refine Kd.C_alloc ?_ _) | (with_reducible refine Kd.C_drewN ?_ _) | (with_reducible refine Kd.C_drew ?_) | exact HR109.out)⟩, ⟨by repeat (first | (with_reducible first | exact HB.out | apply below_alloc | apply pw_below_drewN | apply below_drew1 | refine below_set ?_ GE104.out) | exact HB.out)⟩⟩
                          · rw [if_neg c20] at H
                            exact absurd H (by simp)
                        · rw [if_neg c19] at H
                          exact absurd H (by simp)
                      · rw [if_neg c18] at H
                        have c18b0 : decide (x29_2 < (y106.length : Int)) = false := decide_eq_false c18
                        clear c18
                        by_cases c21 : ((rd_T63 l0 x15_1).f0) = 5
                        · rw [if_pos c21] at H
                          have c21b0 : (((rd_T63 l0 x15_1).f0) == 5) = true := beq_iff_eq.mpr c21
                          have c21b1 : (((rd_T63 l0 x15_1).f0) != 5) = false := bne_eq_false_iff_eq.mpr c21
                          clear c21
                          by_cases c22 : 0 ≤ ji9
                          · rw [if_pos c22] at H
                            have c22b0 := eq_true c22
                            have c22b1 : decide (0 ≤ ji9) = true := decide_eq_true c22
                            clear c22
                            by_cases c23 : ji9 ≤ (x3_1.length : Int)
                            · rw [if_pos c23] at H
                              have c23b0 := eq_true c23
                              have c23b1 : decide (ji9 ≤ (x3_1.length : Int)) = true := decide_eq_true c23
                              clear c23
                              obtain ⟨y111, hy111⟩ : ∃ y_ : List Int, y_ = (x3_1.take (ji9 : Int).toNat) := ⟨_, rfl⟩
                              replace H : (if y111.length < 17592186044416 then (facts_Size.l0 k2 (y111 ++ [mn (wrap64 (x7_2 - 2)) 1048576]) l0 (l0.length : Int) (wrap64 (x15_1 + 1))) else (none)) = some r := by first | (rw [hy111]; with_reducible exact H) | (have H2_ := (Option.bind_some _ _).symm.trans H; rw [hy111]; with_reducible exact H2_) | (have H2_ := (Option.bind_some _ _).symm.trans H; with_reducible exact H2_) | with_reducible exact H | (rw [hy111]; exact H) | exact H
                              have Ny111 := Aside0.mk hy111
                              clear hy111
                              obtain ⟨ji24, hji24⟩ : ∃ j_ : Int, (mn (wrap64 (x7_2 - 2)) 1048576) = j_ := ⟨_, rfl⟩
                              replace H : (if y111.length < 17592186044416 then (facts_Size.l0 k2 (y111 ++ [ji24]) l0 (l0.length : Int) (wrap64 (x15_1 + 1))) else (none)) = some r := by first | (rw [hji24] at H; exact H) | (simp only [hji24] at H ⊢; exact H)
                              have hji24_ : (if 1048576 < (wrap64 (x7_2 - 2)) then 1048576 else (wrap64 (x7_2 - 2))) = ji24 := hji24
                              by_cases c25 : y111.length < 17592186044416
                              · rw [if_pos c25] at H
                                have LMc25 := Aside0.mk c25
                                clear c25
                                obtain ⟨y114, hy114⟩ : ∃ y_ : List Int, y_ = (y111 ++ [ji24]) := ⟨_, rfl⟩
                                replace H : (facts_Size.l0 k2 y114 l0 (l0.length : Int) (wrap64 (x15_1 + 1))) = some r := by first | (rw [hy114]; with_reducible exact H) | (have H2_ := (Option.bind_some _ _).symm.trans H; rw [hy114]; with_reducible exact H2_) | (have H2_ := (Option.bind_some _ _).symm.trans H; with_reducible exact H2_) | with_reducible exact H | (rw [hy114]; exact H) | exact H
                                have Ny114 := Aside0.mk hy114
                                clear hy114
                                have H' := Aside0.mk H
                                clear H
                                have hcz26_0 : wr.cell? ⟨gb104, 0, none⟩ = some (.int .i64 ((rd_T63 l0 x15_1).f0)) := (blk_cell BK104.out 0).trans rfl
                                have hcz26_1 : wr.cell? ⟨gb104, 1, none⟩ = some (.int .u64 ((rd_T63 l0 x15_1).f1.f0)) := (blk_cell BK104.out 1).trans rfl
                                have hcz26_2 : wr.cell? ⟨gb104, 2, none⟩ = some (.int .u64 ((rd_T63 l0 x15_1).f1.f1)) := (blk_cell BK104.out 2).trans rfl
                                have hcz26_3 : wr.cell? ⟨gb104, 3, none⟩ = some (.int .u64 ((rd_T63 l0 x15_1).f1.f2)) := (blk_cell BK104.out 3).trans rfl
                                have hcz26_4 : wr.cell? ⟨gb104, 4, none⟩ = some (.int .u64 ((rd_T63 l0 x15_1).f1.f3)) := (blk_cell BK104.out 4).trans rfl
                                have hcz26_5 : wr.cell? ⟨gb104, 5, none⟩ = some (.int .i64 ((rd_T63 l0 x15_1).f2)) := (blk_cell BK104.out 5).trans rfl
                                have hcz26_6 : wr.cell? ⟨gb104, 6, none⟩ = some (.int .i64 ((rd_T63 l0 x15_1).f3)) := (blk_cell BK104.out 6).trans rfl
                                have hfz26_0 := blk_frozen BK104.out 0
                                have hfz26_1 := blk_frozen BK104.out 1
                                have hfz26_2 := blk_frozen BK104.out 2
                                have hfz26_3 := blk_frozen BK104.out 3
                                have hfz26_4 := blk_frozen BK104.out 4
                                have hfz26_5 := blk_frozen BK104.out 5
                                have hfz26_6 := blk_frozen BK104.out 6
                                have q27 : (ji9 : Int) ≤ ((x3_1.length : Int) : Int) := of_decide_eq_true (by first | (with_reducible assumption) | assumption)
                                obtain ⟨i027, hi027, _, hsz27, _⟩ := info_parts info3
                                have hcut27 := cut_to (P := Try.prog) 52 3 .i64 Try.underlying52 hi027 Ao15 x3_1.length co15 ji9 (of_decide_eq_true (by first | (with_reducible assumption) | assumption)) q27 (Kd.R_reads' HO_3.out).2.1
                                have hr27 := Kd.R_take (m := (ji9 : Int).toNat) HO_3.out (by omega)
                                have hy27 : y111.length = (ji9 : Int).toNat := (by rw [Ny111.out, List.length_take]; omega)
                                rw [← Ny111.out] at hr27
                                rw [← hy27] at hr27 hcut27
                                clear hy27 hi027 hsz27 HO_3
                                have HO113 := Aside0.mk hr27
                                clear hr27
                                replace q27 := eq_true q27
                                go_wp2_with (first | ((with_reducible refine gate_builtin (b := .append) (xs := #[.tmp 81, .tmp 84]) rfl ?_); at_builtin; refine Kd.R_append (Kd.int .i64) (w0 := w) w.heap.size rfl (.tmp 81) (.tmp 84) 52 3 (.int .i64 0) 8 rfl Try.underlying52 info3 rfl (by decide) (by omega) (.slice Ao15 y111.length co15) y111 ji24 [.int .i64 ji24] (fun _ => True) (fun _ => False) rfl rfl ?aP (fun _ hk => hk.elim) ?aF ?aO ?aB ?aS ?aL ?_; (case aP => exact rfl); (case aB => exact (by repeat (first | (with_reducible first | exact HB.out | apply below_alloc | apply pw_below_drewN | apply below_drew1 | refine below_set ?_ GE104.out) | exact HB.out))); (case aF => exact (fun _ _ => trivial)); (case aO => exact (by (with_reducible repeat (first | apply Kd.R_alloc | apply Kd.R_drewN | apply Kd.R_drew)); exact HO113.out)); (case aS => exact (below_size (by repeat (first | (with_reducible first | exact HB.out | apply below_alloc | apply pw_below_drewN | apply below_drew1 | refine below_set ?_ GE104.out) | exact HB.out)))); (case aL => have := LMc25.out; omega); intro v115 w28 ho hb hg hat; rw [← Ny114.out] at ho; have n0_ := Aside0.mk (blk_grown (g := gb104) (o := .cells #[.int .i64 ((rd_T63 l0 x15_1).f0), .int .u64 ((rd_T63 l0 x15_1).f1.f0), .int .u64 ((rd_T63 l0 x15_1).f1.f1), .int .u64 ((rd_T63 l0 x15_1).f1.f2), .int .u64 ((rd_T63 l0 x15_1).f1.f3), .int .i64 ((rd_T63 l0 x15_1).f2), .int .i64 ((rd_T63 l0 x15_1).f3)] 63 (0, 0)) (by (with_reducible repeat (first | refine blk_drewN ?_ _ | refine blk_drew ?_ | refine blk_alloc ?_ _)); exact BK104.out) hg (Kd.R_ne HO113.out BK104.out (by decide))); have n1_ := Aside0.mk (hb); have n2_ := Aside0.mk (ho); clear BK104; clear HB; clear HO113; have BK104 := n0_; have HB := n1_; have HO116 := n2_; clear n0_ n1_ n2_; clear ho hb hg hat))
                                repeat (go_quiet (first | ((with_reducible refine gate_builtin (b := .append) (xs := #[.tmp 81, .tmp 84]) rfl ?_); at_builtin; refine Kd.R_append (Kd.int .i64) (w0 := w) w.heap.size rfl (.tmp 81) (.tmp 84) 52 3 (.int .i64 0) 8 rfl Try.underlying52 info3 rfl (by decide) (by omega) (.slice Ao15 y111.length co15) y111 ji24 [.int .i64 ji24] (fun _ => True) (fun _ => False) rfl rfl ?aP (fun _ hk => hk.elim) ?aF ?aO ?aB ?aS ?aL ?_; (case aP => exact rfl); (case aB => exact (by repeat (first | (with_reducible first | exact HB.out | apply below_alloc | apply pw_below_drewN | apply below_drew1 | refine below_set ?_ GE104.out) | exact HB.out))); (case aF => exact (fun _ _ => trivial)); (case aO => exact (by (with_reducible repeat (first | apply Kd.R_alloc | apply Kd.R_drewN | apply Kd.R_drew)); exact HO113.out)); (case aS => exact (below_size (by repeat (first | (with_reducible first | exact HB.out | apply below_alloc | apply pw_below_drewN | apply below_drew1 | refine below_set ?_ GE104.out) | exact HB.out)))); (case aL => have := LMc25.out; omega); intro v115 w28 ho hb hg hat; rw [← Ny114.out] at ho; have n0_ := Aside0.mk (blk_grown (g := gb104) (o := .cells #[.int .i64 ((rd_T63 l0 x15_1).f0), .int .u64 ((rd_T63 l0 x15_1).f1.f0), .int .u64 ((rd_T63 l0 x15_1).f1.f1), .int .u64 ((rd_T63 l0 x15_1).f1.f2), .int .u64 ((rd_T63 l0 x15_1).f1.f3), .int .i64 ((rd_T63 l0 x15_1).f2), .int .i64 ((rd_T63 l0 x15_1).f3)] 63 (0, 0)) (by (with_reducible repeat (first | refine blk_drewN ?_ _ | refine blk_drew ?_ | refine blk_alloc ?_ _)); exact BK104.out) hg (Kd.R_ne HO113.out BK104.out (by decide))); have n1_ := Aside0.mk (hb); have n2_ := Aside0.mk (ho); clear BK104; clear HB; clear HO113; have BK104 := n0_; have HB := n1_; have HO116 := n2_; clear n0_ n1_ n2_; clear ho hb hg hat)); try go_wp2_with (first | ((with_reducible refine gate_builtin (b := .append) (xs := #[.tmp 81, .tmp 84]) rfl ?_); at_builtin; refine Kd.R_append (Kd.int .i64) (w0 := w) w.heap.size rfl (.tmp 81) (.tmp 84) 52 3 (.int .i64 0) 8 rfl Try.underlying52 info3 rfl (by decide) (by omega) (.slice Ao15 y111.length co15) y111 ji24 [.int .i64 ji24] (fun _ => True) (fun _ => False) rfl rfl ?aP (fun _ hk => hk.elim) ?aF ?aO ?aB ?aS ?aL ?_; (case aP => exact rfl); (case aB => exact (by repeat (first | (with_reducible first | exact HB.out | apply below_alloc | apply pw_below_drewN | apply below_drew1 | refine below_set ?_ GE104.out) | exact HB.out))); (case aF => exact (fun _ _ => trivial)); (case aO => exact (by (with_reducible repeat (first | apply Kd.R_alloc | apply Kd.R_drewN | apply Kd.R_drew)); exact HO113.out)); (case aS => exact (below_size (by repeat (first | (with_reducible first | exact HB.out | apply below_alloc | apply pw_below_drewN | apply below_drew1 | refine below_set ?_ GE104.out) | exact HB.out)))); (case aL => have := LMc25.out; omega); intro v115 w28 ho hb hg hat; rw [← Ny114.out] at ho; have n0_ := Aside0.mk (blk_grown (g := gb104) (o := .cells #[.int .i64 ((rd_T63 l0 x15_1).f0), .int .u64 ((rd_T63 l0 x15_1).f1.f0), .int .u64 ((rd_T63 l0 x15_1).f1.f1), .int .u64 ((rd_T63 l0 x15_1).f1.f2), .int .u64 ((rd_T63 l0 x15_1).f1.f3), .int .i64 ((rd_T63 l0 x15_1).f2), .int .i64 ((rd_T63 l0 x15_1).f3)] 63 (0, 0)) (by (with_reducible repeat (first | refine blk_drewN ?_ _ | refine blk_drew ?_ | refine blk_alloc ?_ _)); exact BK104.out) hg (Kd.R_ne HO113.out BK104.out (by decide))); have n1_ := Aside0.mk (hb); have n2_ := Aside0.mk (ho); clear BK104; clear HB; clear HO113; have BK104 := n0_; have HB := n1_; have HO116 := n2_; clear n0_ n1_ n2_; clear ho hb hg hat)))
                                go_roundg k2
                                case measure => have := HK1.out; have := HK2.out; omega
                                case rel => exact ⟨(y114), (wrap64 (x15_1 + 1)), (by first | rfl | (simp; done) | (simp [*]; done)), H', ⟨by have := HK1.out; have := HK2.out; omega⟩, ⟨by (with_reducible repeat (first | apply Kd.R_alloc | apply Kd.R_drewN | apply Kd.R_drew)); exact HO116.out⟩, ⟨by repeat (first | (with_reducible first | exact HB.out | apply below_alloc | apply pw_below_drewN | apply below_drew1 | refine below_set ?_ GE104.out) | exact HB.out)⟩⟩
                              · rw [if_neg c25] at H
                                exact absurd H (by simp)
                            · rw [if_neg c23] at H
                              exact absurd H (by simp)
                          · rw [if_neg c22] at H
                            exact absurd H (by simp)
                        · rw [if_neg c21] at H
                          have c21b0 : (((rd_T63 l0 x15_1).f0) == 5) = false := beq_eq_false_iff_ne.mpr c21
                          have c21b1 : (((rd_T63 l0 x15_1).f0) != 5) = true := bne_iff_ne.mpr c21
                          have HC29 := Aside0.mk H
                          clear H
                          have hcz30_0 : wr.cell? ⟨gb104, 0, none⟩ = some (.int .i64 ((rd_T63 l0 x15_1).f0)) := (blk_cell BK104.out 0).trans rfl
                          have hcz30_1 : wr.cell? ⟨gb104, 1, none⟩ = some (.int .u64 ((rd_T63 l0 x15_1).f1.f0)) := (blk_cell BK104.out 1).trans rfl
                          have hcz30_2 : wr.cell? ⟨gb104, 2, none⟩ = some (.int .u64 ((rd_T63 l0 x15_1).f1.f1)) := (blk_cell BK104.out 2).trans rfl
                          have hcz30_3 : wr.cell? ⟨gb104, 3, none⟩ = some (.int .u64 ((rd_T63 l0 x15_1).f1.f2)) := (blk_cell BK104.out 3).trans rfl
                          have hcz30_4 : wr.cell? ⟨gb104, 4, none⟩ = some (.int .u64 ((rd_T63 l0 x15_1).f1.f3)) := (blk_cell BK104.out 4).trans rfl
                          have hcz30_5 : wr.cell? ⟨gb104, 5, none⟩ = some (.int .i64 ((rd_T63 l0 x15_1).f2)) := (blk_cell BK104.out 5).trans rfl
                          have hcz30_6 : wr.cell? ⟨gb104, 6, none⟩ = some (.int .i64 ((rd_T63 l0 x15_1).f3)) := (blk_cell BK104.out 6).trans rfl
                          have hfz30_0 := blk_frozen BK104.out 0
                          have hfz30_1 := blk_frozen BK104.out 1
                          have hfz30_2 := blk_frozen BK104.out 2
                          have hfz30_3 := blk_frozen BK104.out 3
                          have hfz30_4 := blk_frozen BK104.out 4
                          have hfz30_5 := blk_frozen BK104.out 5
                          have hfz30_6 := blk_frozen BK104.out 6
                          go_upto_region 16 with (fail)
                          repeat (go_quiet (fail); go_upto_region 16 with (fail))
                          go_cut [43] (fun v43 wc => ∃ (kq : Nat) (x43_28 : Bool), v43 = .bool x43_28 ∧ Aside0 (facts_Size.j2 kq x3_1 ji9 x7_2 l0 (l0.length : Int) x15_1 x43_28 ((rd_T63 l0 x15_1).f0) ((rd_T63 l0 x15_1).f1.f0) ((rd_T63 l0 x15_1).f1.f1) ((rd_T63 l0 x15_1).f1.f2) ((rd_T63 l0 x15_1).f1.f3) ((rd_T63 l0 x15_1).f2) ((rd_T63 l0 x15_1).f3) = some r) ∧ Aside0 (kq ≤ k2) ∧ Aside0 (Kd.R (Kd.int .i64) 3 wc w.heap.size (fun _ => True) (.slice Ao15 x3_1.length co15) x3_1) ∧ Aside0 (wc.heap[gb104]? = some (.cells #[.int .i64 ((rd_T63 l0 x15_1).f0), .int .u64 ((rd_T63 l0 x15_1).f1.f0), .int .u64 ((rd_T63 l0 x15_1).f1.f1), .int .u64 ((rd_T63 l0 x15_1).f1.f2), .int .u64 ((rd_T63 l0 x15_1).f1.f3), .int .i64 ((rd_T63 l0 x15_1).f2), .int .i64 ((rd_T63 l0 x15_1).f3)] 63 (0, 0))) ∧ Aside0 (Kd.C (Kd.int .i64) wc A17 y106.length y106) ∧ Aside0 (Below w.heap.size w wc))
                          case first =>
                            have H := HC29.out
                            clear HC29
                            by_cases c31 : ((rd_T63 l0 x15_1).f0) = 7
                            · rw [if_pos c31] at H
                              have c31b0 : (((rd_T63 l0 x15_1).f0) == 7) = true := beq_iff_eq.mpr c31
                              have c31b1 : (((rd_T63 l0 x15_1).f0) != 7) = false := bne_eq_false_iff_eq.mpr c31
                              clear c31
                              (first | rw [c31b0] | (simp only [i64_w, i32_w]; rw [c31b0]) | skip)
                              have H' := Aside0.mk H
                              clear H
                              have hcz32_0 : wr.cell? ⟨gb104, 0, none⟩ = some (.int .i64 ((rd_T63 l0 x15_1).f0)) := (blk_cell BK104.out 0).trans rfl
                              have hcz32_1 : wr.cell? ⟨gb104, 1, none⟩ = some (.int .u64 ((rd_T63 l0 x15_1).f1.f0)) := (blk_cell BK104.out 1).trans rfl
                              have hcz32_2 : wr.cell? ⟨gb104, 2, none⟩ = some (.int .u64 ((rd_T63 l0 x15_1).f1.f1)) := (blk_cell BK104.out 2).trans rfl
                              have hcz32_3 : wr.cell? ⟨gb104, 3, none⟩ = some (.int .u64 ((rd_T63 l0 x15_1).f1.f2)) := (blk_cell BK104.out 3).trans rfl
                              have hcz32_4 : wr.cell? ⟨gb104, 4, none⟩ = some (.int .u64 ((rd_T63 l0 x15_1).f1.f3)) := (blk_cell BK104.out 4).trans rfl
                              have hcz32_5 : wr.cell? ⟨gb104, 5, none⟩ = some (.int .i64 ((rd_T63 l0 x15_1).f2)) := (blk_cell BK104.out 5).trans rfl
                              have hcz32_6 : wr.cell? ⟨gb104, 6, none⟩ = some (.int .i64 ((rd_T63 l0 x15_1).f3)) := (blk_cell BK104.out 6).trans rfl
                              have hfz32_0 := blk_frozen BK104.out 0
                              have hfz32_1 := blk_frozen BK104.out 1
                              have hfz32_2 := blk_frozen BK104.out 2
                              have hfz32_3 := blk_frozen BK104.out 3
                              have hfz32_4 := blk_frozen BK104.out 4
                              have hfz32_5 := blk_frozen BK104.out 5
                              have hfz32_6 := blk_frozen BK104.out 6
                              go_wp2
                              repeat (go_quiet (fail); try go_wp2)
                              go_meet
                              case rel => exact ⟨_, (decide (((rd_T63 l0 x15_1).f3) < 0)), (by first | rfl | (simp; done) | (simp [*]; done)), H', ⟨by have := HK1.out; have := HK2.out; first | omega | exact Nat.le_refl _⟩, ⟨by (with_reducible repeat (first | apply Kd.R_alloc | apply Kd.R_drewN | apply Kd.R_drew)); exact HO_3.out⟩, ⟨by (with_reducible repeat (first | refine blk_drewN ?_ _ | refine blk_drew ?_ | refine blk_alloc ?_ _)); exact BK104.out⟩, ⟨by repeat (first | (with_reducible exact HR109.out) | (with_reducible refine Kd.C_alloc ?_ _) | (with_reducible refine Kd.C_drewN ?_ _) | (with_reducible refine Kd.C_drew ?_) | exact HR109.out)⟩, ⟨by repeat (first | (with_reducible first | exact HB.out | apply below_alloc | apply pw_below_drewN | apply below_drew1 | refine below_set ?_ GE104.out) | exact HB.out)⟩⟩
                            · rw [if_neg c31] at H
                              have c31b0 : (((rd_T63 l0 x15_1).f0) == 7) = false := beq_eq_false_iff_ne.mpr c31
                              have c31b1 : (((rd_T63 l0 x15_1).f0) != 7) = true := bne_iff_ne.mpr c31
                              (first | rw [c31b0] | (simp only [i64_w, i32_w]; rw [c31b0]) | skip)
                              have H' := Aside0.mk H
                              clear H
                              have hcz33_0 : wr.cell? ⟨gb104, 0, none⟩ = some (.int .i64 ((rd_T63 l0 x15_1).f0)) := (blk_cell BK104.out 0).trans rfl
                              have hcz33_1 : wr.cell? ⟨gb104, 1, none⟩ = some (.int .u64 ((rd_T63 l0 x15_1).f1.f0)) := (blk_cell BK104.out 1).trans rfl
                              have hcz33_2 : wr.cell? ⟨gb104, 2, none⟩ = some (.int .u64 ((rd_T63 l0 x15_1).f1.f1)) := (blk_cell BK104.out 2).trans rfl
                              have hcz33_3 : wr.cell? ⟨gb104, 3, none⟩ = some (.int .u64 ((rd_T63 l0 x15_1).f1.f2)) := (blk_cell BK104.out 3).trans rfl
                              have hcz33_4 : wr.cell? ⟨gb104, 4, none⟩ = some (.int .u64 ((rd_T63 l0 x15_1).f1.f3)) := (blk_cell BK104.out 4).trans rfl
                              have hcz33_5 : wr.cell? ⟨gb104, 5, none⟩ = some (.int .i64 ((rd_T63 l0 x15_1).f2)) := (blk_cell BK104.out 5).trans rfl
                              have hcz33_6 : wr.cell? ⟨gb104, 6, none⟩ = some (.int .i64 ((rd_T63 l0 x15_1).f3)) := (blk_cell BK104.out 6).trans rfl
                              have hfz33_0 := blk_frozen BK104.out 0
                              have hfz33_1 := blk_frozen BK104.out 1
                              have hfz33_2 := blk_frozen BK104.out 2
                              have hfz33_3 := blk_frozen BK104.out 3
                              have hfz33_4 := blk_frozen BK104.out 4
                              have hfz33_5 := blk_frozen BK104.out 5
                              have hfz33_6 := blk_frozen BK104.out 6
                              go_wp2
                              repeat (go_quiet (fail); try go_wp2)
                              go_meet
                              case rel => exact ⟨_, (false), (by first | rfl | (simp; done) | (simp [*]; done)), H', ⟨by have := HK1.out; have := HK2.out; first | omega | exact Nat.le_refl _⟩, ⟨by (with_reducible repeat (first | apply Kd.R_alloc | apply Kd.R_drewN | apply Kd.R_drew)); exact HO_3.out⟩, ⟨by (with_reducible repeat (first | refine blk_drewN ?_ _ | refine blk_drew ?_ | refine blk_alloc ?_ _)); exact BK104.out⟩, ⟨by repeat (first | (with_reducible exact HR109.out) | (with_reducible refine Kd.C_alloc ?_ _) | (with_reducible refine Kd.C_drewN ?_ _) | (with_reducible refine Kd.C_drew ?_) | exact HR109.out)⟩, ⟨by repeat (first | (with_reducible first | exact HB.out | apply below_alloc | apply pw_below_drewN | apply below_drew1 | refine below_set ?_ GE104.out) | exact HB.out)⟩⟩
                          case rest =>
                            clear HC29
                            try clear c1
                            try clear p1
                            try clear q1
                            try clear hx1
                            try clear c2
                            try clear p2
                            try clear q2
                            try clear c3
                            try clear c5
                            try clear c5b0
                            try clear c6
                            try clear c6b0
                            try clear p6
                            try clear c7
                            try clear c7b0
                            try clear c10
                            try clear c10b0
                            try clear c10b1
                            try clear p10
                            try clear q10
                            try clear hx10
                            try clear c11
                            try clear c11b0
                            try clear c11b1
                            try clear p11
                            try clear q11
                            try clear hx11
                            try clear c12
                            try clear c17
                            try clear q17
                            try clear c18
                            try clear c18b0
                            try clear c19
                            try clear c19b0
                            try clear c20
                            try clear c20b0
                            try clear c21
                            try clear c21b0
                            try clear c21b1
                            try clear c22
                            try clear c22b0
                            try clear c22b1
                            try clear c23
                            try clear c23b0
                            try clear c23b1
                            try clear c25
                            try clear q27
                            try clear c31
                            try clear c31b0
                            try clear c31b1
                            try clear hcz13_0
                            try clear hcz13_1
                            try clear hcz13_2
                            try clear hcz13_3
                            try clear hcz13_4
                            try clear hcz13_5
                            try clear hcz13_6
                            try clear hcz16_0
                            try clear hcz16_1
                            try clear hcz16_2
                            try clear hcz16_3
                            try clear hcz16_4
                            try clear hcz16_5
                            try clear hcz16_6
                            try clear hcz26_0
                            try clear hcz26_1
                            try clear hcz26_2
                            try clear hcz26_3
                            try clear hcz26_4
                            try clear hcz26_5
                            try clear hcz26_6
                            try clear hcz30_0
                            try clear hcz30_1
                            try clear hcz30_2
                            try clear hcz30_3
                            try clear hcz30_4
                            try clear hcz30_5
                            try clear hcz30_6
                            try clear hcz32_0
                            try clear hcz32_1
                            try clear hcz32_2
                            try clear hcz32_3
                            try clear hcz32_4
                            try clear hcz32_5
                            try clear hcz32_6
                            try clear hcz33_0
                            try clear hcz33_1
                            try clear hcz33_2
                            try clear hcz33_3
                            try clear hcz33_4
                            try clear hcz33_5
                            try clear hcz33_6
                            try clear hfz13_0
                            try clear hfz13_1
                            try clear hfz13_2
                            try clear hfz13_3
                            try clear hfz13_4
                            try clear hfz13_5
                            try clear hfz13_6
                            try clear hfz16_0
                            try clear hfz16_1
                            try clear hfz16_2
                            try clear hfz16_3
                            try clear hfz16_4
                            try clear hfz16_5
                            try clear hfz16_6
                            try clear hfz26_0
                            try clear hfz26_1
                            try clear hfz26_2
                            try clear hfz26_3
                            try clear hfz26_4
                            try clear hfz26_5
                            try clear hfz26_6
                            try clear hfz30_0
                            try clear hfz30_1
                            try clear hfz30_2
                            try clear hfz30_3
                            try clear hfz30_4
                            try clear hfz30_5
                            try clear hfz30_6
                            try clear hfz32_0
                            try clear hfz32_1
                            try clear hfz32_2
                            try clear hfz32_3
                            try clear hfz32_4
                            try clear hfz32_5
                            try clear hfz32_6
                            try clear hfz33_0
                            try clear hfz33_1
                            try clear hfz33_2
                            try clear hfz33_3
                            try clear hfz33_4
                            try clear hfz33_5
                            try clear hfz33_6
                            try clear hx103_0
                            try clear hx103_1
                            try clear hx103_2
                            try clear hx103_3
                            try clear hx103_4
                            try clear hx103_5
                            try clear hx103_6
                            try clear hx110_0
                            try clear p1
                            try clear p10
                            try clear p103
                            try clear p110
                            try clear p2
                            try clear p6
                            try clear q017
                            try clear q1
                            try clear q10
                            try clear q103
                            try clear q110
                            try clear q17
                            try clear q27
                            obtain ⟨kq, x43_28, rfl, HA, HJ28, HO_3, BK104, HR109, HB⟩ := hcut
                            cases kq with
                            | zero => exact absurd HA.out (by simp [facts_Size.j2])
                            | succ kj28 =>
                              have H := HA.out
                              clear HA
                              simp only [facts_Size.j2] at H
                              by_cases c34 : x43_28 = true
                              · subst c34
                                have H1 : (if 0 ≤ ji9 then (if ji9 < (x3_1.length : Int) then (if ji9 ≤ (x3_1.length : Int) then ((some (x3_1.take (ji9 : Int).toNat : List Int)).bind fun y118 => (if y118.length < 17592186044416 then (facts_Size.l0 kj28 (y118 ++ [mn (wrap64 (3 + (wrap64 ((wrap64 (((rd_T63 l0 x15_1).f2) + 1)) * (rd x3_1 ji9))))) 1048576]) l0 (l0.length : Int) (wrap64 (x15_1 + 1))) else (none))) else (none)) else (none)) else (none)) = some r := by rw [if_pos rfl] at H; exact H
                                clear H
                                have H := H1
                                clear H1
                                by_cases c35 : 0 ≤ ji9
                                · rw [if_pos c35] at H
                                  have c35b0 : decide (0 ≤ ji9) = true := decide_eq_true c35
                                  clear c35
                                  by_cases c36 : ji9 < (x3_1.length : Int)
                                  · rw [if_pos c36] at H
                                    have c36b0 : decide (ji9 < (x3_1.length : Int)) = true := decide_eq_true c36
                                    clear c36
                                    by_cases c37 : ji9 ≤ (x3_1.length : Int)
                                    · rw [if_pos c37] at H
                                      have c37b0 := eq_true c37
                                      have c37b1 : decide (ji9 ≤ (x3_1.length : Int)) = true := decide_eq_true c37
                                      clear c37
                                      obtain ⟨y118, hy118⟩ : ∃ y_ : List Int, y_ = (x3_1.take (ji9 : Int).toNat) := ⟨_, rfl⟩
                                      replace H : (if y118.length < 17592186044416 then (facts_Size.l0 kj28 (y118 ++ [mn (wrap64 (3 + (wrap64 ((wrap64 (((rd_T63 l0 x15_1).f2) + 1)) * (rd x3_1 ji9))))) 1048576]) l0 (l0.length : Int) (wrap64 (x15_1 + 1))) else (none)) = some r := by first | (rw [hy118]; with_reducible exact H) | (have H2_ := (Option.bind_some _ _).symm.trans H; rw [hy118]; with_reducible exact H2_) | (have H2_ := (Option.bind_some _ _).symm.trans H; with_reducible exact H2_) | with_reducible exact H | (rw [hy118]; exact H) | exact H
                                      have Ny118 := Aside0.mk hy118
                                      clear hy118
                                      obtain ⟨ji38, hji38⟩ : ∃ j_ : Int, (mn (wrap64 (3 + (wrap64 ((wrap64 (((rd_T63 l0 x15_1).f2) + 1)) * (rd x3_1 ji9))))) 1048576) = j_ := ⟨_, rfl⟩
                                      replace H : (if y118.length < 17592186044416 then (facts_Size.l0 kj28 (y118 ++ [ji38]) l0 (l0.length : Int) (wrap64 (x15_1 + 1))) else (none)) = some r := by first | (rw [hji38] at H; exact H) | (simp only [hji38] at H ⊢; exact H)
                                      have hji38_ : (if 1048576 < (wrap64 (3 + (wrap64 ((wrap64 (((rd_T63 l0 x15_1).f2) + 1)) * (rd x3_1 ji9))))) then 1048576 else (wrap64 (3 + (wrap64 ((wrap64 (((rd_T63 l0 x15_1).f2) + 1)) * (rd x3_1 ji9)))))) = ji38 := hji38
                                      by_cases c39 : y118.length < 17592186044416
                                      · rw [if_pos c39] at H
                                        have LMc39 := Aside0.mk c39
                                        clear c39
                                        obtain ⟨y121, hy121⟩ : ∃ y_ : List Int, y_ = (y118 ++ [ji38]) := ⟨_, rfl⟩
                                        replace H : (facts_Size.l0 kj28 y121 l0 (l0.length : Int) (wrap64 (x15_1 + 1))) = some r := by first | (rw [hy121]; with_reducible exact H) | (have H2_ := (Option.bind_some _ _).symm.trans H; rw [hy121]; with_reducible exact H2_) | (have H2_ := (Option.bind_some _ _).symm.trans H; with_reducible exact H2_) | with_reducible exact H | (rw [hy121]; exact H) | exact H
                                        have Ny121 := Aside0.mk hy121
                                        clear hy121
                                        have H' := Aside0.mk H
                                        clear H
                                        have hcz40_0 : wc.cell? ⟨gb104, 0, none⟩ = some (.int .i64 ((rd_T63 l0 x15_1).f0)) := (blk_cell BK104.out 0).trans rfl
                                        have hcz40_1 : wc.cell? ⟨gb104, 1, none⟩ = some (.int .u64 ((rd_T63 l0 x15_1).f1.f0)) := (blk_cell BK104.out 1).trans rfl
                                        have hcz40_2 : wc.cell? ⟨gb104, 2, none⟩ = some (.int .u64 ((rd_T63 l0 x15_1).f1.f1)) := (blk_cell BK104.out 2).trans rfl
                                        have hcz40_3 : wc.cell? ⟨gb104, 3, none⟩ = some (.int .u64 ((rd_T63 l0 x15_1).f1.f2)) := (blk_cell BK104.out 3).trans rfl
                                        have hcz40_4 : wc.cell? ⟨gb104, 4, none⟩ = some (.int .u64 ((rd_T63 l0 x15_1).f1.f3)) := (blk_cell BK104.out 4).trans rfl
                                        have hcz40_5 : wc.cell? ⟨gb104, 5, none⟩ = some (.int .i64 ((rd_T63 l0 x15_1).f2)) := (blk_cell BK104.out 5).trans rfl
                                        have hcz40_6 : wc.cell? ⟨gb104, 6, none⟩ = some (.int .i64 ((rd_T63 l0 x15_1).f3)) := (blk_cell BK104.out 6).trans rfl
                                        have hfz40_0 := blk_frozen BK104.out 0
                                        have hfz40_1 := blk_frozen BK104.out 1
                                        have hfz40_2 := blk_frozen BK104.out 2
                                        have hfz40_3 := blk_frozen BK104.out 3
                                        have hfz40_4 := blk_frozen BK104.out 4
                                        have hfz40_5 := blk_frozen BK104.out 5
                                        have hfz40_6 := blk_frozen BK104.out 6
                                        have p117 : 0 ≤ (ji9 : Int) := of_decide_eq_true (by first | (with_reducible assumption) | assumption)
                                        have q117 : ji9 < (x3_1.length : Int) := of_decide_eq_true (by first | (with_reducible assumption) | assumption)
                                        obtain ⟨ad117, e117, hx117_0⟩ := Kd.at_int (Kd.R_reads' HO_3.out).2.2 ji9 p117 q117
                                        cases e117
                                        replace p117 := eq_true p117
                                        replace q117 := eq_true q117
                                        have q41 : (ji9 : Int) ≤ ((x3_1.length : Int) : Int) := of_decide_eq_true (by first | (with_reducible assumption) | assumption)
                                        obtain ⟨i041, hi041, _, hsz41, _⟩ := info_parts info3
                                        have hcut41 := cut_to (P := Try.prog) 52 3 .i64 Try.underlying52 hi041 (some ad117) x3_1.length co15 ji9 (of_decide_eq_true (by first | (with_reducible assumption) | assumption)) q41 (Kd.R_reads' HO_3.out).2.1
                                        have hr41 := Kd.R_take (m := (ji9 : Int).toNat) HO_3.out (by omega)
                                        have hy41 : y118.length = (ji9 : Int).toNat := (by rw [Ny118.out, List.length_take]; omega)
                                        rw [← Ny118.out] at hr41
                                        rw [← hy41] at hr41 hcut41
                                        clear hy41 hi041 hsz41 HO_3
                                        have HO120 := Aside0.mk hr41
                                        clear hr41
                                        replace q41 := eq_true q41
                                        go_wp2_with (first | ((with_reducible refine gate_builtin (b := .append) (xs := #[.tmp 81, .tmp 84]) rfl ?_); at_builtin; refine Kd.R_append (Kd.int .i64) (w0 := w) w.heap.size rfl (.tmp 81) (.tmp 84) 52 3 (.int .i64 0) 8 rfl Try.underlying52 info3 rfl (by decide) (by omega) (.slice (some ad117) y118.length co15) y118 ji38 [.int .i64 ji38] (fun _ => True) (fun _ => False) rfl rfl ?aP (fun _ hk => hk.elim) ?aF ?aO ?aB ?aS ?aL ?_; (case aP => exact rfl); (case aB => exact (by repeat (first | (with_reducible first | exact HB.out | apply below_alloc | apply pw_below_drewN | apply below_drew1 | refine below_set ?_ GE104.out) | exact HB.out))); (case aF => exact (fun _ _ => trivial)); (case aO => exact (by (with_reducible repeat (first | apply Kd.R_alloc | apply Kd.R_drewN | apply Kd.R_drew)); exact HO120.out)); (case aS => exact (below_size (by repeat (first | (with_reducible first | exact HB.out | apply below_alloc | apply pw_below_drewN | apply below_drew1 | refine below_set ?_ GE104.out) | exact HB.out)))); (case aL => have := LMc39.out; omega); intro v122 w42 ho hb hg hat; rw [← Ny121.out] at ho; have n0_ := Aside0.mk (blk_grown (g := gb104) (o := .cells #[.int .i64 ((rd_T63 l0 x15_1).f0), .int .u64 ((rd_T63 l0 x15_1).f1.f0), .int .u64 ((rd_T63 l0 x15_1).f1.f1), .int .u64 ((rd_T63 l0 x15_1).f1.f2), .int .u64 ((rd_T63 l0 x15_1).f1.f3), .int .i64 ((rd_T63 l0 x15_1).f2), .int .i64 ((rd_T63 l0 x15_1).f3)] 63 (0, 0)) (by (with_reducible repeat (first | refine blk_drewN ?_ _ | refine blk_drew ?_ | refine blk_alloc ?_ _)); exact BK104.out) hg (Kd.R_ne HO120.out BK104.out (by decide))); have n1_ := Aside0.mk (hb); have n2_ := Aside0.mk (ho); clear BK104; clear HB; clear HO120; have BK104 := n0_; have HB := n1_; have HO123 := n2_; clear n0_ n1_ n2_; clear ho hb hg hat))
                                        repeat (go_quiet (first | ((with_reducible refine gate_builtin (b := .append) (xs := #[.tmp 81, .tmp 84]) rfl ?_); at_builtin; refine Kd.R_append (Kd.int .i64) (w0 := w) w.heap.size rfl (.tmp 81) (.tmp 84) 52 3 (.int .i64 0) 8 rfl Try.underlying52 info3 rfl (by decide) (by omega) (.slice (some ad117) y118.length co15) y118 ji38 [.int .i64 ji38] (fun _ => True) (fun _ => False) rfl rfl ?aP (fun _ hk => hk.elim) ?aF ?aO ?aB ?aS ?aL ?_; (case aP => exact rfl); (case aB => exact (by repeat (first | (with_reducible first | exact HB.out | apply below_alloc | apply pw_below_drewN | apply below_drew1 | refine below_set ?_ GE104.out) | exact HB.out))); (case aF => exact (fun _ _ => trivial)); (case aO => exact (by (with_reducible repeat (first | apply Kd.R_alloc | apply Kd.R_drewN | apply Kd.R_drew)); exact HO120.out)); (case aS => exact (below_size (by repeat (first | (with_reducible first | exact HB.out | apply below_alloc | apply pw_below_drewN | apply below_drew1 | refine below_set ?_ GE104.out) | exact HB.out)))); (case aL => have := LMc39.out; omega); intro v122 w42 ho hb hg hat; rw [← Ny121.out] at ho; have n0_ := Aside0.mk (blk_grown (g := gb104) (o := .cells #[.int .i64 ((rd_T63 l0 x15_1).f0), .int .u64 ((rd_T63 l0 x15_1).f1.f0), .int .u64 ((rd_T63 l0 x15_1).f1.f1), .int .u64 ((rd_T63 l0 x15_1).f1.f2), .int .u64 ((rd_T63 l0 x15_1).f1.f3), .int .i64 ((rd_T63 l0 x15_1).f2), .int .i64 ((rd_T63 l0 x15_1).f3)] 63 (0, 0)) (by (with_reducible repeat (first | refine blk_drewN ?_ _ | refine blk_drew ?_ | refine blk_alloc ?_ _)); exact BK104.out) hg (Kd.R_ne HO120.out BK104.out (by decide))); have n1_ := Aside0.mk (hb); have n2_ := Aside0.mk (ho); clear BK104; clear HB; clear HO120; have BK104 := n0_; have HB := n1_; have HO123 := n2_; clear n0_ n1_ n2_; clear ho hb hg hat)); try go_wp2_with (first | ((with_reducible refine gate_builtin (b := .append) (xs := #[.tmp 81, .tmp 84]) rfl ?_); at_builtin; refine Kd.R_append (Kd.int .i64) (w0 := w) w.heap.size rfl (.tmp 81) (.tmp 84) 52 3 (.int .i64 0) 8 rfl Try.underlying52 info3 rfl (by decide) (by omega) (.slice (some ad117) y118.length co15) y118 ji38 [.int .i64 ji38] (fun _ => True) (fun _ => False) rfl rfl ?aP (fun _ hk => hk.elim) ?aF ?aO ?aB ?aS ?aL ?_; (case aP => exact rfl); (case aB => exact (by repeat (first | (with_reducible first | exact HB.out | apply below_alloc | apply pw_below_drewN | apply below_drew1 | refine below_set ?_ GE104.out) | exact HB.out))); (case aF => exact (fun _ _ => trivial)); (case aO => exact (by (with_reducible repeat (first | apply Kd.R_alloc | apply Kd.R_drewN | apply Kd.R_drew)); exact HO120.out)); (case aS => exact (below_size (by repeat (first | (with_reducible first | exact HB.out | apply below_alloc | apply pw_below_drewN | apply below_drew1 | refine below_set ?_ GE104.out) | exact HB.out)))); (case aL => have := LMc39.out; omega); intro v122 w42 ho hb hg hat; rw [← Ny121.out] at ho; have n0_ := Aside0.mk (blk_grown (g := gb104) (o := .cells #[.int .i64 ((rd_T63 l0 x15_1).f0), .int .u64 ((rd_T63 l0 x15_1).f1.f0), .int .u64 ((rd_T63 l0 x15_1).f1.f1), .int .u64 ((rd_T63 l0 x15_1).f1.f2), .int .u64 ((rd_T63 l0 x15_1).f1.f3), .int .i64 ((rd_T63 l0 x15_1).f2), .int .i64 ((rd_T63 l0 x15_1).f3)] 63 (0, 0)) (by (with_reducible repeat (first | refine blk_drewN ?_ _ | refine blk_drew ?_ | refine blk_alloc ?_ _)); exact BK104.out) hg (Kd.R_ne HO120.out BK104.out (by decide))); have n1_ := Aside0.mk (hb); have n2_ := Aside0.mk (ho); clear BK104; clear HB; clear HO120; have BK104 := n0_; have HB := n1_; have HO123 := n2_; clear n0_ n1_ n2_; clear ho hb hg hat)))
                                        go_roundg kj28
                                        case measure => have := HK1.out; have := HK2.out; have := HJ28.out; omega
                                        case rel => exact ⟨(y121), (wrap64 (x15_1 + 1)), (by first | rfl | (simp; done) | (simp [*]; done)), H', ⟨by have := HK1.out; have := HK2.out; have := HJ28.out; omega⟩, ⟨by (with_reducible repeat (first | apply Kd.R_alloc | apply Kd.R_drewN | apply Kd.R_drew)); exact HO123.out⟩, ⟨by repeat (first | (with_reducible first | exact HB.out | apply below_alloc | apply pw_below_drewN | apply below_drew1 | refine below_set ?_ GE104.out) | exact HB.out)⟩⟩
                                      · rw [if_neg c39] at H
                                        exact absurd H (by simp)
                                    · rw [if_neg c37] at H
                                      exact absurd H (by simp)
                                  · rw [if_neg c36] at H
                                    exact absurd H (by simp)
                                · rw [if_neg c35] at H
                                  exact absurd H (by simp)
                              · replace c34 := Bool.eq_false_iff.mpr c34
                                subst c34
                                have H1 : (if ((rd_T63 l0 x15_1).f0) = 7 then (if 0 ≤ ji9 then (if ji9 < (x3_1.length : Int) then (if ji9 ≤ (x3_1.length : Int) then ((some (x3_1.take (ji9 : Int).toNat : List Int)).bind fun y125 => (if y125.length < 17592186044416 then (facts_Size.l0 kj28 (y125 ++ [mn (wrap64 ((wrap64 ((wrap64 (2 + (wrap64 (((rd_T63 l0 x15_1).f3) * (rd x3_1 ji9))))) + ((rd_T63 l0 x15_1).f3))) - ((rd_T63 l0 x15_1).f2))) 1048576]) l0 (l0.length : Int) (wrap64 (x15_1 + 1))) else (none))) else (none)) else (none)) else (none)) else (if 0 ≤ ji9 then (if ji9 ≤ (x3_1.length : Int) then ((some (x3_1.take (ji9 : Int).toNat : List Int)).bind fun y131 => (if y131.length < 17592186044416 then (facts_Size.l0 kj28 (y131 ++ [mn x7_2 1048576]) l0 (l0.length : Int) (wrap64 (x15_1 + 1))) else (none))) else (none)) else (none))) = some r := by rw [if_neg (show ¬ (false = true) by decide)] at H; exact H
                                clear H
                                have H := H1
                                clear H1
                                by_cases c43 : ((rd_T63 l0 x15_1).f0) = 7
                                · rw [if_pos c43] at H
                                  have c43b0 : (((rd_T63 l0 x15_1).f0) == 7) = true := beq_iff_eq.mpr c43
                                  have c43b1 : (((rd_T63 l0 x15_1).f0) != 7) = false := bne_eq_false_iff_eq.mpr c43
                                  clear c43
                                  by_cases c44 : 0 ≤ ji9
                                  · rw [if_pos c44] at H
                                    have c44b0 : decide (0 ≤ ji9) = true := decide_eq_true c44
                                    clear c44
                                    by_cases c45 : ji9 < (x3_1.length : Int)
                                    · rw [if_pos c45] at H
                                      have c45b0 : decide (ji9 < (x3_1.length : Int)) = true := decide_eq_true c45
                                      clear c45
                                      by_cases c46 : ji9 ≤ (x3_1.length : Int)
                                      · rw [if_pos c46] at H
                                        have c46b0 := eq_true c46
                                        have c46b1 : decide (ji9 ≤ (x3_1.length : Int)) = true := decide_eq_true c46
                                        clear c46
                                        obtain ⟨y125, hy125⟩ : ∃ y_ : List Int, y_ = (x3_1.take (ji9 : Int).toNat) := ⟨_, rfl⟩
                                        replace H : (if y125.length < 17592186044416 then (facts_Size.l0 kj28 (y125 ++ [mn (wrap64 ((wrap64 ((wrap64 (2 + (wrap64 (((rd_T63 l0 x15_1).f3) * (rd x3_1 ji9))))) + ((rd_T63 l0 x15_1).f3))) - ((rd_T63 l0 x15_1).f2))) 1048576]) l0 (l0.length : Int) (wrap64 (x15_1 + 1))) else (none)) = some r := by first | (rw [hy125]; with_reducible exact H) | (have H2_ := (Option.bind_some _ _).symm.trans H; rw [hy125]; with_reducible exact H2_) | (have H2_ := (Option.bind_some _ _).symm.trans H; with_reducible exact H2_) | with_reducible exact H | (rw [hy125]; exact H) | exact H
                                        have Ny125 := Aside0.mk hy125
                                        clear hy125
                                        obtain ⟨ji47, hji47⟩ : ∃ j_ : Int, (mn (wrap64 ((wrap64 ((wrap64 (2 + (wrap64 (((rd_T63 l0 x15_1).f3) * (rd x3_1 ji9))))) + ((rd_T63 l0 x15_1).f3))) - ((rd_T63 l0 x15_1).f2))) 1048576) = j_ := ⟨_, rfl⟩
                                        replace H : (if y125.length < 17592186044416 then (facts_Size.l0 kj28 (y125 ++ [ji47]) l0 (l0.length : Int) (wrap64 (x15_1 + 1))) else (none)) = some r := by first | (rw [hji47] at H; exact H) | (simp only [hji47] at H ⊢; exact H)
                                        have hji47_ : (if 1048576 < (wrap64 ((wrap64 ((wrap64 (2 + (wrap64 (((rd_T63 l0 x15_1).f3) * (rd x3_1 ji9))))) + ((rd_T63 l0 x15_1).f3))) - ((rd_T63 l0 x15_1).f2))) then 1048576 else (wrap64 ((wrap64 ((wrap64 (2 + (wrap64 (((rd_T63 l0 x15_1).f3) * (rd x3_1 ji9))))) + ((rd_T63 l0 x15_1).f3))) - ((rd_T63 l0 x15_1).f2)))) = ji47 := hji47
                                        by_cases c48 : y125.length < 17592186044416
                                        · rw [if_pos c48] at H
                                          have LMc48 := Aside0.mk c48
                                          clear c48
                                          obtain ⟨y128, hy128⟩ : ∃ y_ : List Int, y_ = (y125 ++ [ji47]) := ⟨_, rfl⟩
                                          replace H : (facts_Size.l0 kj28 y128 l0 (l0.length : Int) (wrap64 (x15_1 + 1))) = some r := by first | (rw [hy128]; with_reducible exact H) | (have H2_ := (Option.bind_some _ _).symm.trans H; rw [hy128]; with_reducible exact H2_) | (have H2_ := (Option.bind_some _ _).symm.trans H; with_reducible exact H2_) | with_reducible exact H | (rw [hy128]; exact H) | exact H
                                          have Ny128 := Aside0.mk hy128
                                          clear hy128
                                          have H' := Aside0.mk H
                                          clear H
                                          have hcz49_0 : wc.cell? ⟨gb104, 0, none⟩ = some (.int .i64 ((rd_T63 l0 x15_1).f0)) := (blk_cell BK104.out 0).trans rfl
                                          have hcz49_1 : wc.cell? ⟨gb104, 1, none⟩ = some (.int .u64 ((rd_T63 l0 x15_1).f1.f0)) := (blk_cell BK104.out 1).trans rfl
                                          have hcz49_2 : wc.cell? ⟨gb104, 2, none⟩ = some (.int .u64 ((rd_T63 l0 x15_1).f1.f1)) := (blk_cell BK104.out 2).trans rfl
                                          have hcz49_3 : wc.cell? ⟨gb104, 3, none⟩ = some (.int .u64 ((rd_T63 l0 x15_1).f1.f2)) := (blk_cell BK104.out 3).trans rfl
                                          have hcz49_4 : wc.cell? ⟨gb104, 4, none⟩ = some (.int .u64 ((rd_T63 l0 x15_1).f1.f3)) := (blk_cell BK104.out 4).trans rfl
                                          have hcz49_5 : wc.cell? ⟨gb104, 5, none⟩ = some (.int .i64 ((rd_T63 l0 x15_1).f2)) := (blk_cell BK104.out 5).trans rfl
                                          have hcz49_6 : wc.cell? ⟨gb104, 6, none⟩ = some (.int .i64 ((rd_T63 l0 x15_1).f3)) := (blk_cell BK104.out 6).trans rfl
                                          have hfz49_0 := blk_frozen BK104.out 0
                                          have hfz49_1 := blk_frozen BK104.out 1
                                          have hfz49_2 := blk_frozen BK104.out 2
                                          have hfz49_3 := blk_frozen BK104.out 3
                                          have hfz49_4 := blk_frozen BK104.out 4
                                          have hfz49_5 := blk_frozen BK104.out 5
                                          have hfz49_6 := blk_frozen BK104.out 6
                                          have p124 : 0 ≤ (ji9 : Int) := of_decide_eq_true (by first | (with_reducible assumption) | assumption)
                                          have q124 : ji9 < (x3_1.length : Int) := of_decide_eq_true (by first | (with_reducible assumption) | assumption)
                                          obtain ⟨ad124, e124, hx124_0⟩ := Kd.at_int (Kd.R_reads' HO_3.out).2.2 ji9 p124 q124
                                          cases e124
                                          replace p124 := eq_true p124
                                          replace q124 := eq_true q124
                                          have q50 : (ji9 : Int) ≤ ((x3_1.length : Int) : Int) := of_decide_eq_true (by first | (with_reducible assumption) | assumption)
                                          obtain ⟨i050, hi050, _, hsz50, _⟩ := info_parts info3
                                          have hcut50 := cut_to (P := Try.prog) 52 3 .i64 Try.underlying52 hi050 (some ad124) x3_1.length co15 ji9 (of_decide_eq_true (by first | (with_reducible assumption) | assumption)) q50 (Kd.R_reads' HO_3.out).2.1
                                          have hr50 := Kd.R_take (m := (ji9 : Int).toNat) HO_3.out (by omega)
                                          have hy50 : y125.length = (ji9 : Int).toNat := (by rw [Ny125.out, List.length_take]; omega)
                                          rw [← Ny125.out] at hr50
                                          rw [← hy50] at hr50 hcut50
                                          clear hy50 hi050 hsz50 HO_3
                                          have HO127 := Aside0.mk hr50
                                          clear hr50
                                          replace q50 := eq_true q50
                                          go_wp2_with (first | ((with_reducible refine gate_builtin (b := .append) (xs := #[.tmp 81, .tmp 84]) rfl ?_); at_builtin; refine Kd.R_append (Kd.int .i64) (w0 := w) w.heap.size rfl (.tmp 81) (.tmp 84) 52 3 (.int .i64 0) 8 rfl Try.underlying52 info3 rfl (by decide) (by omega) (.slice (some ad124) y125.length co15) y125 ji47 [.int .i64 ji47] (fun _ => True) (fun _ => False) rfl rfl ?aP (fun _ hk => hk.elim) ?aF ?aO ?aB ?aS ?aL ?_; (case aP => exact rfl); (case aB => exact (by repeat (first | (with_reducible first | exact HB.out | apply below_alloc | apply pw_below_drewN | apply below_drew1 | refine below_set ?_ GE104.out) | exact HB.out))); (case aF => exact (fun _ _ => trivial)); (case aO => exact (by (with_reducible repeat (first | apply Kd.R_alloc | apply Kd.R_drewN | apply Kd.R_drew)); exact HO127.out)); (case aS => exact (below_size (by repeat (first | (with_reducible first | exact HB.out | apply below_alloc | apply pw_below_drewN | apply below_drew1 | refine below_set ?_ GE104.out) | exact HB.out)))); (case aL => have := LMc48.out; omega); intro v129 w51 ho hb hg hat; rw [← Ny128.out] at ho; have n0_ := Aside0.mk (blk_grown (g := gb104) (o := .cells #[.int .i64 ((rd_T63 l0 x15_1).f0), .int .u64 ((rd_T63 l0 x15_1).f1.f0), .int .u64 ((rd_T63 l0 x15_1).f1.f1), .int .u64 ((rd_T63 l0 x15_1).f1.f2), .int .u64 ((rd_T63 l0 x15_1).f1.f3), .int .i64 ((rd_T63 l0 x15_1).f2), .int .i64 ((rd_T63 l0 x15_1).f3)] 63 (0, 0)) (by (with_reducible repeat (first | refine blk_drewN ?_ _ | refine blk_drew ?_ | refine blk_alloc ?_ _)); exact BK104.out) hg (Kd.R_ne HO127.out BK104.out (by decide))); have n1_ := Aside0.mk (hb); have n2_ := Aside0.mk (ho); clear BK104; clear HB; clear HO127; have BK104 := n0_; have HB := n1_; have HO130 := n2_; clear n0_ n1_ n2_; clear ho hb hg hat))
                                          repeat (go_quiet (first | ((with_reducible refine gate_builtin (b := .append) (xs := #[.tmp 81, .tmp 84]) rfl ?_); at_builtin; refine Kd.R_append (Kd.int .i64) (w0 := w) w.heap.size rfl (.tmp 81) (.tmp 84) 52 3 (.int .i64 0) 8 rfl Try.underlying52 info3 rfl (by decide) (by omega) (.slice (some ad124) y125.length co15) y125 ji47 [.int .i64 ji47] (fun _ => True) (fun _ => False) rfl rfl ?aP (fun _ hk => hk.elim) ?aF ?aO ?aB ?aS ?aL ?_; (case aP => exact rfl); (case aB => exact (by repeat (first | (with_reducible first | exact HB.out | apply below_alloc | apply pw_below_drewN | apply below_drew1 | refine below_set ?_ GE104.out) | exact HB.out))); (case aF => exact (fun _ _ => trivial)); (case aO => exact (by (with_reducible repeat (first | apply Kd.R_alloc | apply Kd.R_drewN | apply Kd.R_drew)); exact HO127.out)); (case aS => exact (below_size (by repeat (first | (with_reducible first | exact HB.out | apply below_alloc | apply pw_below_drewN | apply below_drew1 | refine below_set ?_ GE104.out) | exact HB.out)))); (case aL => have := LMc48.out; omega); intro v129 w51 ho hb hg hat; rw [← Ny128.out] at ho; have n0_ := Aside0.mk (blk_grown (g := gb104) (o := .cells #[.int .i64 ((rd_T63 l0 x15_1).f0), .int .u64 ((rd_T63 l0 x15_1).f1.f0), .int .u64 ((rd_T63 l0 x15_1).f1.f1), .int .u64 ((rd_T63 l0 x15_1).f1.f2), .int .u64 ((rd_T63 l0 x15_1).f1.f3), .int .i64 ((rd_T63 l0 x15_1).f2), .int .i64 ((rd_T63 l0 x15_1).f3)] 63 (0, 0)) (by (with_reducible repeat (first | refine blk_drewN ?_ _ | refine blk_drew ?_ | refine blk_alloc ?_ _)); exact BK104.out) hg (Kd.R_ne HO127.out BK104.out (by decide))); have n1_ := Aside0.mk (hb); have n2_ := Aside0.mk (ho); clear BK104; clear HB; clear HO127; have BK104 := n0_; have HB := n1_; have HO130 := n2_; clear n0_ n1_ n2_; clear ho hb hg hat)); try go_wp2_with (first | ((with_reducible refine gate_builtin (b := .append) (xs := #[.tmp 81, .tmp 84]) rfl ?_); at_builtin; refine Kd.R_append (Kd.int .i64) (w0 := w) w.heap.size rfl (.tmp 81) (.tmp 84) 52 3 (.int .i64 0) 8 rfl Try.underlying52 info3 rfl (by decide) (by omega) (.slice (some ad124) y125.length co15) y125 ji47 [.int .i64 ji47] (fun _ => True) (fun _ => False) rfl rfl ?aP (fun _ hk => hk.elim) ?aF ?aO ?aB ?aS ?aL ?_; (case aP => exact rfl); (case aB => exact (by repeat (first | (with_reducible first | exact HB.out | apply below_alloc | apply pw_below_drewN | apply below_drew1 | refine below_set ?_ GE104.out) | exact HB.out))); (case aF => exact (fun _ _ => trivial)); (case aO => exact (by (with_reducible repeat (first | apply Kd.R_alloc | apply Kd.R_drewN | apply Kd.R_drew)); exact HO127.out)); (case aS => exact (below_size (by repeat (first | (with_reducible first | exact HB.out | apply below_alloc | apply pw_below_drewN | apply below_drew1 | refine below_set ?_ GE104.out) | exact HB.out)))); (case aL => have := LMc48.out; omega); intro v129 w51 ho hb hg hat; rw [← Ny128.out] at ho; have n0_ := Aside0.mk (blk_grown (g := gb104) (o := .cells #[.int .i64 ((rd_T63 l0 x15_1).f0), .int .u64 ((rd_T63 l0 x15_1).f1.f0), .int .u64 ((rd_T63 l0 x15_1).f1.f1), .int .u64 ((rd_T63 l0 x15_1).f1.f2), .int .u64 ((rd_T63 l0 x15_1).f1.f3), .int .i64 ((rd_T63 l0 x15_1).f2), .int .i64 ((rd_T63 l0 x15_1).f3)] 63 (0, 0)) (by (with_reducible repeat (first | refine blk_drewN ?_ _ | refine blk_drew ?_ | refine blk_alloc ?_ _)); exact BK104.out) hg (Kd.R_ne HO127.out BK104.out (by decide))); have n1_ := Aside0.mk (hb); have n2_ := Aside0.mk (ho); clear BK104; clear HB; clear HO127; have BK104 := n0_; have HB := n1_; have HO130 := n2_; clear n0_ n1_ n2_; clear ho hb hg hat)))
                                          go_roundg kj28
                                          case measure => have := HK1.out; have := HK2.out; have := HJ28.out; omega
                                          case rel => exact ⟨(y128), (wrap64 (x15_1 + 1)), (by first | rfl | (simp; done) | (simp [*]; done)), H', ⟨by have := HK1.out; have := HK2.out; have := HJ28.out; omega⟩, ⟨by (with_reducible repeat (first | apply Kd.R_alloc | apply Kd.R_drewN | apply Kd.R_drew)); exact HO130.out⟩, ⟨by repeat (first | (with_reducible first | exact HB.out | apply below_alloc | apply pw_below_drewN | apply below_drew1 | refine below_set ?_ GE104.out) | exact HB.out)⟩⟩
                                        · rw [if_neg c48] at H
                                          exact absurd H (by simp)
                                      · rw [if_neg c46] at H
                                        exact absurd H (by simp)
                                    · rw [if_neg c45] at H
                                      exact absurd H (by simp)
                                  · rw [if_neg c44] at H
                                    exact absurd H (by simp)
                                · rw [if_neg c43] at H
                                  have c43b0 : (((rd_T63 l0 x15_1).f0) == 7) = false := beq_eq_false_iff_ne.mpr c43
                                  have c43b1 : (((rd_T63 l0 x15_1).f0) != 7) = true := bne_iff_ne.mpr c43
                                  by_cases c52 : 0 ≤ ji9
                                  · rw [if_pos c52] at H
                                    have c52b0 := eq_true c52
                                    have c52b1 : decide (0 ≤ ji9) = true := decide_eq_true c52
                                    clear c52
                                    by_cases c53 : ji9 ≤ (x3_1.length : Int)
                                    · rw [if_pos c53] at H
                                      have c53b0 := eq_true c53
                                      have c53b1 : decide (ji9 ≤ (x3_1.length : Int)) = true := decide_eq_true c53
                                      clear c53
                                      obtain ⟨y131, hy131⟩ : ∃ y_ : List Int, y_ = (x3_1.take (ji9 : Int).toNat) := ⟨_, rfl⟩
                                      replace H : (if y131.length < 17592186044416 then (facts_Size.l0 kj28 (y131 ++ [mn x7_2 1048576]) l0 (l0.length : Int) (wrap64 (x15_1 + 1))) else (none)) = some r := by first | (rw [hy131]; with_reducible exact H) | (have H2_ := (Option.bind_some _ _).symm.trans H; rw [hy131]; with_reducible exact H2_) | (have H2_ := (Option.bind_some _ _).symm.trans H; with_reducible exact H2_) | with_reducible exact H | (rw [hy131]; exact H) | exact H
                                      have Ny131 := Aside0.mk hy131
                                      clear hy131
                                      obtain ⟨ji54, hji54⟩ : ∃ j_ : Int, (mn x7_2 1048576) = j_ := ⟨_, rfl⟩
                                      replace H : (if y131.length < 17592186044416 then (facts_Size.l0 kj28 (y131 ++ [ji54]) l0 (l0.length : Int) (wrap64 (x15_1 + 1))) else (none)) = some r := by first | (rw [hji54] at H; exact H) | (simp only [hji54] at H ⊢; exact H)
                                      have hji54_ : (if 1048576 < x7_2 then 1048576 else x7_2) = ji54 := hji54
                                      by_cases c55 : y131.length < 17592186044416
                                      · rw [if_pos c55] at H
                                        have LMc55 := Aside0.mk c55
                                        clear c55
                                        obtain ⟨y134, hy134⟩ : ∃ y_ : List Int, y_ = (y131 ++ [ji54]) := ⟨_, rfl⟩
                                        replace H : (facts_Size.l0 kj28 y134 l0 (l0.length : Int) (wrap64 (x15_1 + 1))) = some r := by first | (rw [hy134]; with_reducible exact H) | (have H2_ := (Option.bind_some _ _).symm.trans H; rw [hy134]; with_reducible exact H2_) | (have H2_ := (Option.bind_some _ _).symm.trans H; with_reducible exact H2_) | with_reducible exact H | (rw [hy134]; exact H) | exact H
                                        have Ny134 := Aside0.mk hy134
                                        clear hy134
                                        have H' := Aside0.mk H
                                        clear H
                                        have hcz56_0 : wc.cell? ⟨gb104, 0, none⟩ = some (.int .i64 ((rd_T63 l0 x15_1).f0)) := (blk_cell BK104.out 0).trans rfl
                                        have hcz56_1 : wc.cell? ⟨gb104, 1, none⟩ = some (.int .u64 ((rd_T63 l0 x15_1).f1.f0)) := (blk_cell BK104.out 1).trans rfl
                                        have hcz56_2 : wc.cell? ⟨gb104, 2, none⟩ = some (.int .u64 ((rd_T63 l0 x15_1).f1.f1)) := (blk_cell BK104.out 2).trans rfl
                                        have hcz56_3 : wc.cell? ⟨gb104, 3, none⟩ = some (.int .u64 ((rd_T63 l0 x15_1).f1.f2)) := (blk_cell BK104.out 3).trans rfl
                                        have hcz56_4 : wc.cell? ⟨gb104, 4, none⟩ = some (.int .u64 ((rd_T63 l0 x15_1).f1.f3)) := (blk_cell BK104.out 4).trans rfl
                                        have hcz56_5 : wc.cell? ⟨gb104, 5, none⟩ = some (.int .i64 ((rd_T63 l0 x15_1).f2)) := (blk_cell BK104.out 5).trans rfl
                                        have hcz56_6 : wc.cell? ⟨gb104, 6, none⟩ = some (.int .i64 ((rd_T63 l0 x15_1).f3)) := (blk_cell BK104.out 6).trans rfl
                                        have hfz56_0 := blk_frozen BK104.out 0
                                        have hfz56_1 := blk_frozen BK104.out 1
                                        have hfz56_2 := blk_frozen BK104.out 2
                                        have hfz56_3 := blk_frozen BK104.out 3
                                        have hfz56_4 := blk_frozen BK104.out 4
                                        have hfz56_5 := blk_frozen BK104.out 5
                                        have hfz56_6 := blk_frozen BK104.out 6
                                        have q57 : (ji9 : Int) ≤ ((x3_1.length : Int) : Int) := of_decide_eq_true (by first | (with_reducible assumption) | assumption)
                                        obtain ⟨i057, hi057, _, hsz57, _⟩ := info_parts info3
                                        have hcut57 := cut_to (P := Try.prog) 52 3 .i64 Try.underlying52 hi057 Ao15 x3_1.length co15 ji9 (of_decide_eq_true (by first | (with_reducible assumption) | assumption)) q57 (Kd.R_reads' HO_3.out).2.1
                                        have hr57 := Kd.R_take (m := (ji9 : Int).toNat) HO_3.out (by omega)
                                        have hy57 : y131.length = (ji9 : Int).toNat := (by rw [Ny131.out, List.length_take]; omega)
                                        rw [← Ny131.out] at hr57
                                        rw [← hy57] at hr57 hcut57
                                        clear hy57 hi057 hsz57 HO_3
                                        have HO133 := Aside0.mk hr57
                                        clear hr57
                                        replace q57 := eq_true q57
                                        go_wp2_with (first | ((with_reducible refine gate_builtin (b := .append) (xs := #[.tmp 81, .tmp 84]) rfl ?_); at_builtin; refine Kd.R_append (Kd.int .i64) (w0 := w) w.heap.size rfl (.tmp 81) (.tmp 84) 52 3 (.int .i64 0) 8 rfl Try.underlying52 info3 rfl (by decide) (by omega) (.slice Ao15 y131.length co15) y131 ji54 [.int .i64 ji54] (fun _ => True) (fun _ => False) rfl rfl ?aP (fun _ hk => hk.elim) ?aF ?aO ?aB ?aS ?aL ?_; (case aP => exact rfl); (case aB => exact (by repeat (first | (with_reducible first | exact HB.out | apply below_alloc | apply pw_below_drewN | apply below_drew1 | refine below_set ?_ GE104.out) | exact HB.out))); (case aF => exact (fun _ _ => trivial)); (case aO => exact (by (with_reducible repeat (first | apply Kd.R_alloc | apply Kd.R_drewN | apply Kd.R_drew)); exact HO133.out)); (case aS => exact (below_size (by repeat (first | (with_reducible first | exact HB.out | apply below_alloc | apply pw_below_drewN | apply below_drew1 | refine below_set ?_ GE104.out) | exact HB.out)))); (case aL => have := LMc55.out; omega); intro v135 w58 ho hb hg hat; rw [← Ny134.out] at ho; have n0_ := Aside0.mk (blk_grown (g := gb104) (o := .cells #[.int .i64 ((rd_T63 l0 x15_1).f0), .int .u64 ((rd_T63 l0 x15_1).f1.f0), .int .u64 ((rd_T63 l0 x15_1).f1.f1), .int .u64 ((rd_T63 l0 x15_1).f1.f2), .int .u64 ((rd_T63 l0 x15_1).f1.f3), .int .i64 ((rd_T63 l0 x15_1).f2), .int .i64 ((rd_T63 l0 x15_1).f3)] 63 (0, 0)) (by (with_reducible repeat (first | refine blk_drewN ?_ _ | refine blk_drew ?_ | refine blk_alloc ?_ _)); exact BK104.out) hg (Kd.R_ne HO133.out BK104.out (by decide))); have n1_ := Aside0.mk (hb); have n2_ := Aside0.mk (ho); clear BK104; clear HB; clear HO133; have BK104 := n0_; have HB := n1_; have HO136 := n2_; clear n0_ n1_ n2_; clear ho hb hg hat))
                                        repeat (go_quiet (first | ((with_reducible refine gate_builtin (b := .append) (xs := #[.tmp 81, .tmp 84]) rfl ?_); at_builtin; refine Kd.R_append (Kd.int .i64) (w0 := w) w.heap.size rfl (.tmp 81) (.tmp 84) 52 3 (.int .i64 0) 8 rfl Try.underlying52 info3 rfl (by decide) (by omega) (.slice Ao15 y131.length co15) y131 ji54 [.int .i64 ji54] (fun _ => True) (fun _ => False) rfl rfl ?aP (fun _ hk => hk.elim) ?aF ?aO ?aB ?aS ?aL ?_; (case aP => exact rfl); (case aB => exact (by repeat (first | (with_reducible first | exact HB.out | apply below_alloc | apply pw_below_drewN | apply below_drew1 | refine below_set ?_ GE104.out) | exact HB.out))); (case aF => exact (fun _ _ => trivial)); (case aO => exact (by (with_reducible repeat (first | apply Kd.R_alloc | apply Kd.R_drewN | apply Kd.R_drew)); exact HO133.out)); (case aS => exact (below_size (by repeat (first | (with_reducible first | exact HB.out | apply below_alloc | apply pw_below_drewN | apply below_drew1 | refine below_set ?_ GE104.out) | exact HB.out)))); (case aL => have := LMc55.out; omega); intro v135 w58 ho hb hg hat; rw [← Ny134.out] at ho; have n0_ := Aside0.mk (blk_grown (g := gb104) (o := .cells #[.int .i64 ((rd_T63 l0 x15_1).f0), .int .u64 ((rd_T63 l0 x15_1).f1.f0), .int .u64 ((rd_T63 l0 x15_1).f1.f1), .int .u64 ((rd_T63 l0 x15_1).f1.f2), .int .u64 ((rd_T63 l0 x15_1).f1.f3), .int .i64 ((rd_T63 l0 x15_1).f2), .int .i64 ((rd_T63 l0 x15_1).f3)] 63 (0, 0)) (by (with_reducible repeat (first | refine blk_drewN ?_ _ | refine blk_drew ?_ | refine blk_alloc ?_ _)); exact BK104.out) hg (Kd.R_ne HO133.out BK104.out (by decide))); have n1_ := Aside0.mk (hb); have n2_ := Aside0.mk (ho); clear BK104; clear HB; clear HO133; have BK104 := n0_; have HB := n1_; have HO136 := n2_; clear n0_ n1_ n2_; clear ho hb hg hat)); try go_wp2_with (first | ((with_reducible refine gate_builtin (b := .append) (xs := #[.tmp 81, .tmp 84]) rfl ?_); at_builtin; refine Kd.R_append (Kd.int .i64) (w0 := w) w.heap.size rfl (.tmp 81) (.tmp 84) 52 3 (.int .i64 0) 8 rfl Try.underlying52 info3 rfl (by decide) (by omega) (.slice Ao15 y131.length co15) y131 ji54 [.int .i64 ji54] (fun _ => True) (fun _ => False) rfl rfl ?aP (fun _ hk => hk.elim) ?aF ?aO ?aB ?aS ?aL ?_; (case aP => exact rfl); (case aB => exact (by repeat (first | (with_reducible first | exact HB.out | apply below_alloc | apply pw_below_drewN | apply below_drew1 | refine below_set ?_ GE104.out) | exact HB.out))); (case aF => exact (fun _ _ => trivial)); (case aO => exact (by (with_reducible repeat (first | apply Kd.R_alloc | apply Kd.R_drewN | apply Kd.R_drew)); exact HO133.out)); (case aS => exact (below_size (by repeat (first | (with_reducible first | exact HB.out | apply below_alloc | apply pw_below_drewN | apply below_drew1 | refine below_set ?_ GE104.out) | exact HB.out)))); (case aL => have := LMc55.out; omega); intro v135 w58 ho hb hg hat; rw [← Ny134.out] at ho; have n0_ := Aside0.mk (blk_grown (g := gb104) (o := .cells #[.int .i64 ((rd_T63 l0 x15_1).f0), .int .u64 ((rd_T63 l0 x15_1).f1.f0), .int .u64 ((rd_T63 l0 x15_1).f1.f1), .int .u64 ((rd_T63 l0 x15_1).f1.f2), .int .u64 ((rd_T63 l0 x15_1).f1.f3), .int .i64 ((rd_T63 l0 x15_1).f2), .int .i64 ((rd_T63 l0 x15_1).f3)] 63 (0, 0)) (by (with_reducible repeat (first | refine blk_drewN ?_ _ | refine blk_drew ?_ | refine blk_alloc ?_ _)); exact BK104.out) hg (Kd.R_ne HO133.out BK104.out (by decide))); have n1_ := Aside0.mk (hb); have n2_ := Aside0.mk (ho); clear BK104; clear HB; clear HO133; have BK104 := n0_; have HB := n1_; have HO136 := n2_; clear n0_ n1_ n2_; clear ho hb hg hat)))
                                        go_roundg kj28
                                        case measure => have := HK1.out; have := HK2.out; have := HJ28.out; omega
                                        case rel => exact ⟨(y134), (wrap64 (x15_1 + 1)), (by first | rfl | (simp; done) | (simp [*]; done)), H', ⟨by have := HK1.out; have := HK2.out; have := HJ28.out; omega⟩, ⟨by (with_reducible repeat (first | apply Kd.R_alloc | apply Kd.R_drewN | apply Kd.R_drew)); exact HO136.out⟩, ⟨by repeat (first | (with_reducible first | exact HB.out | apply below_alloc | apply pw_below_drewN | apply below_drew1 | refine below_set ?_ GE104.out) | exact HB.out)⟩⟩
                                      · rw [if_neg c55] at H
                                        exact absurd H (by simp)
                                    · rw [if_neg c53] at H
                                      exact absurd H (by simp)
                                  · rw [if_neg c52] at H
                                    exact absurd H (by simp)
                · rw [if_neg c11] at H
                  exact absurd H (by simp)
              · rw [if_neg c10] at H
                exact absurd H (by simp)
            · rw [if_neg c7] at H
              exact absurd H (by simp)
          · rw [if_neg c6] at H
            exact absurd H (by simp)
        · rw [if_neg c5] at H
          have c5b0 : decide (x15_1 < (l0.length : Int)) = false := decide_eq_false c5
          clear c5
          by_cases c59 : 0 < (x3_1.length : Int)
          · rw [if_pos c59] at H
            have c59b0 : decide (0 < (x3_1.length : Int)) = true := decide_eq_true c59
            have c59b1 : decide (0 < x3_1.length) = true := decide_eq_true (by omega)
            clear c59
            obtain rfl := Option.some.inj H
            obtain ⟨Ao60, co60, eo60⟩ := Kd.R_slice HO_3.out
            subst eo60
            have p102 : 0 ≤ (0 : Int) := (by omega)
            have q102 : 0 < (x3_1.length : Int) := of_decide_eq_true (by first | (with_reducible assumption) | assumption)
            obtain ⟨ad102, e102, hx102_0⟩ := Kd.at_int (Kd.R_reads' HO_3.out).2.2 0 p102 q102
            cases e102
            have qi102 : (0 < x3_1.length) = True := eq_true (by omega)
            (try rw [show ((0 : Int)).toNat = 0 from rfl] at hx102_0)
            (try rw [Addr.add_zero'] at hx102_0)
            replace p102 := eq_true p102
            replace q102 := eq_true q102
            go_wp2
            repeat (go_quiet (fail); try go_wp2)
            go_ret
            exact ⟨by first | rfl | (simp [errW_none, errW_some] <;> rfl) | (simp [*, errW_none, errW_some] <;> rfl), by repeat (first | (with_reducible first | exact HB.out | apply below_alloc | apply pw_below_drewN | apply below_drew1) | exact HB.out)⟩
          · rw [if_neg c59] at H
            exact absurd H (by simp)
  · replace c3 := Bool.eq_false_iff.mpr c3
    subst c3
    have H1 : (some (-1)) = some r := by rw [if_neg (show ¬ (false = true) by decide)] at H; exact H
    clear H
    have H := H1
    clear H1
    obtain rfl := Option.some.inj H
    go_enter Try.func12, Try.ntmps12
    go_wp2_with (first | (go_at_call 35; (with_reducible refine (tree_Right.calls k _ _ l0 false _ ?side1 ?side2 A2.out).mono ?_); (case side1 => repeat (first | exact HR0.out | (with_reducible refine Kd.C_alloc ?_ _) | (with_reducible refine Kd.C_drewN ?_ _) | (with_reducible refine Kd.C_drew ?_))); (case side2 => exact HC0.out); rintro e w61 ⟨rfl, hb⟩; have n0_ := Aside0.mk (below_step (by repeat (first | (with_reducible first | exact HB.out | apply below_alloc | apply pw_below_drewN | apply below_drew1) | exact HB.out)) hb); clear HB; have HB := n0_; clear n0_; (try clear hb); (try clear hb2); (try clear hk); (try clear hi)))
    repeat (go_quiet (first | (go_at_call 35; (with_reducible refine (tree_Right.calls k _ _ l0 false _ ?side1 ?side2 A2.out).mono ?_); (case side1 => repeat (first | exact HR0.out | (with_reducible refine Kd.C_alloc ?_ _) | (with_reducible refine Kd.C_drewN ?_ _) | (with_reducible refine Kd.C_drew ?_))); (case side2 => exact HC0.out); rintro e w61 ⟨rfl, hb⟩; have n0_ := Aside0.mk (below_step (by repeat (first | (with_reducible first | exact HB.out | apply below_alloc | apply pw_below_drewN | apply below_drew1) | exact HB.out)) hb); clear HB; have HB := n0_; clear n0_; (try clear hb); (try clear hb2); (try clear hk); (try clear hi))); try go_wp2_with (first | (go_at_call 35; (with_reducible refine (tree_Right.calls k _ _ l0 false _ ?side1 ?side2 A2.out).mono ?_); (case side1 => repeat (first | exact HR0.out | (with_reducible refine Kd.C_alloc ?_ _) | (with_reducible refine Kd.C_drewN ?_ _) | (with_reducible refine Kd.C_drew ?_))); (case side2 => exact HC0.out); rintro e w61 ⟨rfl, hb⟩; have n0_ := Aside0.mk (below_step (by repeat (first | (with_reducible first | exact HB.out | apply below_alloc | apply pw_below_drewN | apply below_drew1) | exact HB.out)) hb); clear HB; have HB := n0_; clear n0_; (try clear hb); (try clear hb2); (try clear hk); (try clear hi))))
    go_ret
    exact ⟨by first | rfl | (simp [errW_none, errW_some] <;> rfl) | (simp [*, errW_none, errW_some] <;> rfl), by repeat (first | (with_reducible first | exact HB.out | apply below_alloc | apply pw_below_drewN | apply below_drew1) | exact HB.out)⟩

end Go.Proofs.YtibabfgfahlekaaQ
