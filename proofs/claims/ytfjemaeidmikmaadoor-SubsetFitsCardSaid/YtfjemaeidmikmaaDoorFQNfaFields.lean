import Derived.Test.YtfjemaeidmikmaaDoorFM2
namespace Go.Proofs.YtfjemaeidmikmaaDoorQ
open Go.RowKit Go.Proofs.YtfjemaeidmikmaaDoorW.PrintWords Go.Proofs.YtfjemaeidmikmaaDoorW.PrintLast Go.Proofs.YtfjemaeidmikmaaDoorW.PrintMore
attribute [local go_sem] max2_int min2_int max_two min_two max_three min_three max_four min_four
set_option linter.unusedVariables false
set_option linter.unusedSimpArgs false
attribute [local go_sem high] eqA62
def nfa_fields.f (a0_0 : Int) (a0_1 : Int) (a0_2 : Int) (a0_3 : Int) (a0_4 : Int) (a0_5 : Int) (a0_6 : Int) (a1 : Int) : Option (Bool) := if a0_0 < 1 then (some false) else (if a0_0 > 6 then (some false) else (if a0_0 = 1 then (if a0_0 = 3 then (if a0_0 = 6 then (if a0_1 = 0 then (if a0_1 ≥ 0 then (if a0_1 < a1 then (if a0_2 ≥ 0 then (some (decide (a0_2 < a1))) else (some false)) else (some false)) else (some false)) else (some false)) else (if a0_1 ≥ 0 then (if a0_1 < a1 then (if a0_2 ≥ 0 then (some (decide (a0_2 < a1))) else (some false)) else (some false)) else (some false))) else (if a0_2 = 0 then (if a0_0 = 6 then (if a0_1 = 0 then (if a0_1 ≥ 0 then (if a0_1 < a1 then (if a0_2 ≥ 0 then (some (decide (a0_2 < a1))) else (some false)) else (some false)) else (some false)) else (some false)) else (if a0_1 ≥ 0 then (if a0_1 < a1 then (if a0_2 ≥ 0 then (some (decide (a0_2 < a1))) else (some false)) else (some false)) else (some false))) else (some false))) else (if (!(a0_3 == 0) || (!(a0_4 == 0) || (!(a0_5 == 0) || (!(a0_6 == 0))))) = true then (some false) else (if a0_0 = 3 then (if a0_0 = 6 then (if a0_1 = 0 then (if a0_1 ≥ 0 then (if a0_1 < a1 then (if a0_2 ≥ 0 then (some (decide (a0_2 < a1))) else (some false)) else (some false)) else (some false)) else (some false)) else (if a0_1 ≥ 0 then (if a0_1 < a1 then (if a0_2 ≥ 0 then (some (decide (a0_2 < a1))) else (some false)) else (some false)) else (some false))) else (if a0_2 = 0 then (if a0_0 = 6 then (if a0_1 = 0 then (if a0_1 ≥ 0 then (if a0_1 < a1 then (if a0_2 ≥ 0 then (some (decide (a0_2 < a1))) else (some false)) else (some false)) else (some false)) else (some false)) else (if a0_1 ≥ 0 then (if a0_1 < a1 then (if a0_2 ≥ 0 then (some (decide (a0_2 < a1))) else (some false)) else (some false)) else (some false))) else (some false))))))
theorem nfafafieds_t0 {P : Prop} (h : P := by repeat (first | (with_reducible first | exact HB.out | apply below_alloc | apply pw_below_drewN | apply below_drew1) | exact HB.out)) : P := h
theorem nfa_fields_w0 {P : Prop} (h : P := by
 obtain rfl := Option.some.inj H;go_enter Tryd.func46, Tryd.ntmps46;go_wp2_with (first | ((with_reducible refine gate_dst (N := 2) rfl ?_); refine box_event ?hg (N := 2) ?hd (cs := #[.int .i64 a0_0, .int .i64 a0_1, .int .i64 a0_2, .int .u64 a0_3, .int .u64 a0_4, .int .u64 a0_5, .int .u64 a0_6]) (t := 64) ?hr ?_; (case hd => rfl); (case hg => rfl); (case hr => first | (go_simp; done) | (go_simp; rfl)); intro gbz0 hg wz1 hbox hb; have n0_ := Aside0.mk (below_step nfafafieds_t0 hb); have n1_ := Aside0.mk (hbox); have n2_ := Aside0.mk ((by rw [hg]; exact (below_size nfafafieds_t0) : w.heap.size ≤ gbz0)); have n3_ := Aside0.mk ((by rw [hg]; exact (below_size nfafafieds_t0) : w.heap.size ≤ gbz0)); clear HB; have HB := n0_; have BKz2 := n1_; have GWz3 := n2_; have GEz4 := n3_; clear n0_ n1_ n2_ n3_; clear hb hbox hg; have hczz5 : wz1.cell? ⟨gbz0, 0, none⟩ = some (.int .i64 a0_0) := (blk_cell BKz2.out 0).trans rfl; have hczz6 : wz1.cell? ⟨gbz0, 1, none⟩ = some (.int .i64 a0_1) := (blk_cell BKz2.out 1).trans rfl; have hczz7 : wz1.cell? ⟨gbz0, 2, none⟩ = some (.int .i64 a0_2) := (blk_cell BKz2.out 2).trans rfl; have hczz8 : wz1.cell? ⟨gbz0, 3, none⟩ = some (.int .u64 a0_3) := (blk_cell BKz2.out 3).trans rfl; have hczz9 : wz1.cell? ⟨gbz0, 4, none⟩ = some (.int .u64 a0_4) := (blk_cell BKz2.out 4).trans rfl; have hczz10 : wz1.cell? ⟨gbz0, 5, none⟩ = some (.int .u64 a0_5) := (blk_cell BKz2.out 5).trans rfl; have hczz11 : wz1.cell? ⟨gbz0, 6, none⟩ = some (.int .u64 a0_6) := (blk_cell BKz2.out 6).trans rfl; have hfzz12 := blk_frozen BKz2.out 0; have hfzz13 := blk_frozen BKz2.out 1; have hfzz14 := blk_frozen BKz2.out 2; have hfzz15 := blk_frozen BKz2.out 3; have hfzz16 := blk_frozen BKz2.out 4; have hfzz17 := blk_frozen BKz2.out 5; have hfzz18 := blk_frozen BKz2.out 6));go_ret
 exact ⟨by first | rfl | (simp [errW_none, errW_some] <;> rfl) | (simp [*, errW_none, errW_some] <;> rfl), by repeat (first | (with_reducible first | exact HB.out | apply below_alloc | apply pw_below_drewN | apply below_drew1 | refine below_set ?_ GEz4.out) | exact HB.out)⟩) : P := h
set_option maxHeartbeats 80000000 in
set_option maxRecDepth 100000 in
theorem nfa_fields.calls (a0_0 : Int) (a0_1 : Int) (a0_2 : Int) (a0_3 : Int) (a0_4 : Int) (a0_5 : Int) (a0_6 : Int) (a1 : Int) (r : Bool) (w : World) (h : nfa_fields.f a0_0 a0_1 a0_2 a0_3 a0_4 a0_5 a0_6 a1 = some r) :
  Calls Tryd.prog 46 #[.agg #[.int .i64 a0_0, .int .i64 a0_1, .int .i64 a0_2, .int .u64 a0_3, .int .u64 a0_4, .int .u64 a0_5, .int .u64 a0_6], .int .i64 a1] w fun e w' => e = .returned (.bool r) ∧ Below w.heap.size w w' := by
 have hu64 := Tryd.underlying64;have hu62 := Tryd.underlying62;have HB := Aside0.mk (Below.refl w.heap.size w);have H : (if a0_0 < 1 then (some false) else (if a0_0 > 6 then (some false) else (if a0_0 = 1 then (if a0_0 = 3 then (if a0_0 = 6 then (if a0_1 = 0 then (if a0_1 ≥ 0 then (if a0_1 < a1 then (if a0_2 ≥ 0 then (some (decide (a0_2 < a1))) else (some false)) else (some false)) else (some false)) else (some false)) else (if a0_1 ≥ 0 then (if a0_1 < a1 then (if a0_2 ≥ 0 then (some (decide (a0_2 < a1))) else (some false)) else (some false)) else (some false))) else (if a0_2 = 0 then (if a0_0 = 6 then (if a0_1 = 0 then (if a0_1 ≥ 0 then (if a0_1 < a1 then (if a0_2 ≥ 0 then (some (decide (a0_2 < a1))) else (some false)) else (some false)) else (some false)) else (some false)) else (if a0_1 ≥ 0 then (if a0_1 < a1 then (if a0_2 ≥ 0 then (some (decide (a0_2 < a1))) else (some false)) else (some false)) else (some false))) else (some false))) else (if (!(a0_3 == 0) || (!(a0_4 == 0) || (!(a0_5 == 0) || (!(a0_6 == 0))))) = true then (some false) else (if a0_0 = 3 then (if a0_0 = 6 then (if a0_1 = 0 then (if a0_1 ≥ 0 then (if a0_1 < a1 then (if a0_2 ≥ 0 then (some (decide (a0_2 < a1))) else (some false)) else (some false)) else (some false)) else (some false)) else (if a0_1 ≥ 0 then (if a0_1 < a1 then (if a0_2 ≥ 0 then (some (decide (a0_2 < a1))) else (some false)) else (some false)) else (some false))) else (if a0_2 = 0 then (if a0_0 = 6 then (if a0_1 = 0 then (if a0_1 ≥ 0 then (if a0_1 < a1 then (if a0_2 ≥ 0 then (some (decide (a0_2 < a1))) else (some false)) else (some false)) else (some false)) else (some false)) else (if a0_1 ≥ 0 then (if a0_1 < a1 then (if a0_2 ≥ 0 then (some (decide (a0_2 < a1))) else (some false)) else (some false)) else (some false))) else (some false))))))) = some r := h;clear h;by_cases c3 : a0_0 < 1
 ·rw [if_pos c3] at H;have c3b0 := decide_eq_true c3;clear c3;exact nfa_fields_w0
 ·rw [if_neg c3] at H;have c3b0 := decide_eq_false c3;clear c3;by_cases c6 : a0_0 > 6
  ·rw [if_pos c6] at H;have c6b0 := decide_eq_true c6;clear c6;exact nfa_fields_w0
  ·rw [if_neg c6] at H;have c6b0 := decide_eq_false c6;clear c6;by_cases c9 : a0_0 = 1
   ·rw [if_pos c9] at H;have c9b0 : (a0_0 == 1) = true := beq_iff_eq.mpr c9;have c9b1 : (a0_0 != 1) = false := bne_eq_false_iff_eq.mpr c9;clear c9;by_cases c10 : a0_0 = 3
    ·rw [if_pos c10] at H;have c10b0 : (a0_0 == 3) = true := beq_iff_eq.mpr c10;have c10b1 : (a0_0 != 3) = false := bne_eq_false_iff_eq.mpr c10;clear c10;by_cases c11 : a0_0 = 6
     ·rw [if_pos c11] at H;have c11b0 : (a0_0 == 6) = true := beq_iff_eq.mpr c11;have c11b1 : (a0_0 != 6) = false := bne_eq_false_iff_eq.mpr c11;clear c11;by_cases c12 : a0_1 = 0
      ·rw [if_pos c12] at H;have c12b0 : (a0_1 == 0) = true := beq_iff_eq.mpr c12;have c12b1 : (a0_1 != 0) = false := bne_eq_false_iff_eq.mpr c12;clear c12;by_cases c13 : a0_1 ≥ 0
       ·rw [if_pos c13] at H;have c13b0 := decide_eq_true c13;clear c13;by_cases c14 : a0_1 < a1
        ·rw [if_pos c14] at H;have c14b0 := decide_eq_true c14;clear c14;by_cases c15 : a0_2 ≥ 0
         ·rw [if_pos c15] at H;have c15b0 := decide_eq_true c15;clear c15;exact nfa_fields_w0
         ·rw [if_neg c15] at H;have c15b0 := decide_eq_false c15;clear c15;exact nfa_fields_w0
        ·rw [if_neg c14] at H;have c14b0 := decide_eq_false c14;clear c14;exact nfa_fields_w0
       ·rw [if_neg c13] at H;have c13b0 := decide_eq_false c13;clear c13;exact nfa_fields_w0
      ·rw [if_neg c12] at H;have c12b0 : (a0_1 == 0) = false := beq_eq_false_iff_ne.mpr c12;have c12b1 : (a0_1 != 0) = true := bne_iff_ne.mpr c12;exact nfa_fields_w0
     ·rw [if_neg c11] at H;have c11b0 : (a0_0 == 6) = false := beq_eq_false_iff_ne.mpr c11;have c11b1 : (a0_0 != 6) = true := bne_iff_ne.mpr c11;by_cases c26 : a0_1 ≥ 0
      ·rw [if_pos c26] at H;have c26b0 := decide_eq_true c26;clear c26;by_cases c27 : a0_1 < a1
       ·rw [if_pos c27] at H;have c27b0 := decide_eq_true c27;clear c27;by_cases c28 : a0_2 ≥ 0
        ·rw [if_pos c28] at H;have c28b0 := decide_eq_true c28;clear c28;exact nfa_fields_w0
        ·rw [if_neg c28] at H;have c28b0 := decide_eq_false c28;clear c28;exact nfa_fields_w0
       ·rw [if_neg c27] at H;have c27b0 := decide_eq_false c27;clear c27;exact nfa_fields_w0
      ·rw [if_neg c26] at H;have c26b0 := decide_eq_false c26;clear c26;exact nfa_fields_w0
    ·rw [if_neg c10] at H;have c10b0 : (a0_0 == 3) = false := beq_eq_false_iff_ne.mpr c10;have c10b1 : (a0_0 != 3) = true := bne_iff_ne.mpr c10;by_cases c37 : a0_2 = 0
     ·rw [if_pos c37] at H;have c37b0 : (a0_2 == 0) = true := beq_iff_eq.mpr c37;have c37b1 : (a0_2 != 0) = false := bne_eq_false_iff_eq.mpr c37;clear c37;by_cases c38 : a0_0 = 6
      ·rw [if_pos c38] at H;have c38b0 : (a0_0 == 6) = true := beq_iff_eq.mpr c38;have c38b1 : (a0_0 != 6) = false := bne_eq_false_iff_eq.mpr c38;clear c38;by_cases c39 : a0_1 = 0
       ·rw [if_pos c39] at H;have c39b0 : (a0_1 == 0) = true := beq_iff_eq.mpr c39;have c39b1 : (a0_1 != 0) = false := bne_eq_false_iff_eq.mpr c39;clear c39;by_cases c40 : a0_1 ≥ 0
        ·rw [if_pos c40] at H;have c40b0 := decide_eq_true c40;clear c40;by_cases c41 : a0_1 < a1
         ·rw [if_pos c41] at H;have c41b0 := decide_eq_true c41;clear c41;by_cases c42 : a0_2 ≥ 0
          ·rw [if_pos c42] at H;have c42b0 := decide_eq_true c42;clear c42;exact nfa_fields_w0
          ·rw [if_neg c42] at H;have c42b0 := decide_eq_false c42;clear c42;exact nfa_fields_w0
         ·rw [if_neg c41] at H;have c41b0 := decide_eq_false c41;clear c41;exact nfa_fields_w0
        ·rw [if_neg c40] at H;have c40b0 := decide_eq_false c40;clear c40;exact nfa_fields_w0
       ·rw [if_neg c39] at H;have c39b0 : (a0_1 == 0) = false := beq_eq_false_iff_ne.mpr c39;have c39b1 : (a0_1 != 0) = true := bne_iff_ne.mpr c39;exact nfa_fields_w0
      ·rw [if_neg c38] at H;have c38b0 : (a0_0 == 6) = false := beq_eq_false_iff_ne.mpr c38;have c38b1 : (a0_0 != 6) = true := bne_iff_ne.mpr c38;by_cases c53 : a0_1 ≥ 0
       ·rw [if_pos c53] at H;have c53b0 := decide_eq_true c53;clear c53;by_cases c54 : a0_1 < a1
        ·rw [if_pos c54] at H;have c54b0 := decide_eq_true c54;clear c54;by_cases c55 : a0_2 ≥ 0
         ·rw [if_pos c55] at H;have c55b0 := decide_eq_true c55;clear c55;exact nfa_fields_w0
         ·rw [if_neg c55] at H;have c55b0 := decide_eq_false c55;clear c55;exact nfa_fields_w0
        ·rw [if_neg c54] at H;have c54b0 := decide_eq_false c54;clear c54;exact nfa_fields_w0
       ·rw [if_neg c53] at H;have c53b0 := decide_eq_false c53;clear c53;exact nfa_fields_w0
     ·rw [if_neg c37] at H;have c37b0 : (a0_2 == 0) = false := beq_eq_false_iff_ne.mpr c37;have c37b1 : (a0_2 != 0) = true := bne_iff_ne.mpr c37;exact nfa_fields_w0
   ·rw [if_neg c9] at H;have c9b0 : (a0_0 == 1) = false := beq_eq_false_iff_ne.mpr c9;have c9b1 : (a0_0 != 1) = true := bne_iff_ne.mpr c9;by_cases c66 : (!(a0_3 == 0) || (!(a0_4 == 0) || (!(a0_5 == 0) || (!(a0_6 == 0))))) = true
    ·rw [if_pos c66] at H;have c66b0 : (!(a0_3 == 0) || (!(a0_4 == 0) || (!(a0_5 == 0) || (!(a0_6 == 0))))) = true := c66;clear c66;exact nfa_fields_w0
    ·rw [if_neg c66] at H;(have c66b0 : (!(a0_3 == 0) || (!(a0_4 == 0) || (!(a0_5 == 0) || (!(a0_6 == 0))))) = false := by simpa using c66);clear c66;by_cases c69 : a0_0 = 3
     ·rw [if_pos c69] at H;have c69b0 : (a0_0 == 3) = true := beq_iff_eq.mpr c69;have c69b1 : (a0_0 != 3) = false := bne_eq_false_iff_eq.mpr c69;clear c69;by_cases c70 : a0_0 = 6
      ·rw [if_pos c70] at H;have c70b0 : (a0_0 == 6) = true := beq_iff_eq.mpr c70;have c70b1 : (a0_0 != 6) = false := bne_eq_false_iff_eq.mpr c70;clear c70;by_cases c71 : a0_1 = 0
       ·rw [if_pos c71] at H;have c71b0 : (a0_1 == 0) = true := beq_iff_eq.mpr c71;have c71b1 : (a0_1 != 0) = false := bne_eq_false_iff_eq.mpr c71;clear c71;by_cases c72 : a0_1 ≥ 0
        ·rw [if_pos c72] at H;have c72b0 := decide_eq_true c72;clear c72;by_cases c73 : a0_1 < a1
         ·rw [if_pos c73] at H;have c73b0 := decide_eq_true c73;clear c73;by_cases c74 : a0_2 ≥ 0
          ·rw [if_pos c74] at H;have c74b0 := decide_eq_true c74;clear c74;exact nfa_fields_w0
          ·rw [if_neg c74] at H;have c74b0 := decide_eq_false c74;clear c74;exact nfa_fields_w0
         ·rw [if_neg c73] at H;have c73b0 := decide_eq_false c73;clear c73;exact nfa_fields_w0
        ·rw [if_neg c72] at H;have c72b0 := decide_eq_false c72;clear c72;exact nfa_fields_w0
       ·rw [if_neg c71] at H;have c71b0 : (a0_1 == 0) = false := beq_eq_false_iff_ne.mpr c71;have c71b1 : (a0_1 != 0) = true := bne_iff_ne.mpr c71;exact nfa_fields_w0
      ·rw [if_neg c70] at H;have c70b0 : (a0_0 == 6) = false := beq_eq_false_iff_ne.mpr c70;have c70b1 : (a0_0 != 6) = true := bne_iff_ne.mpr c70;by_cases c85 : a0_1 ≥ 0
       ·rw [if_pos c85] at H;have c85b0 := decide_eq_true c85;clear c85;by_cases c86 : a0_1 < a1
        ·rw [if_pos c86] at H;have c86b0 := decide_eq_true c86;clear c86;by_cases c87 : a0_2 ≥ 0
         ·rw [if_pos c87] at H;have c87b0 := decide_eq_true c87;clear c87;exact nfa_fields_w0
         ·rw [if_neg c87] at H;have c87b0 := decide_eq_false c87;clear c87;exact nfa_fields_w0
        ·rw [if_neg c86] at H;have c86b0 := decide_eq_false c86;clear c86;exact nfa_fields_w0
       ·rw [if_neg c85] at H;have c85b0 := decide_eq_false c85;clear c85;exact nfa_fields_w0
     ·rw [if_neg c69] at H;have c69b0 : (a0_0 == 3) = false := beq_eq_false_iff_ne.mpr c69;have c69b1 : (a0_0 != 3) = true := bne_iff_ne.mpr c69;by_cases c96 : a0_2 = 0
      ·rw [if_pos c96] at H;have c96b0 : (a0_2 == 0) = true := beq_iff_eq.mpr c96;have c96b1 : (a0_2 != 0) = false := bne_eq_false_iff_eq.mpr c96;clear c96;by_cases c97 : a0_0 = 6
       ·rw [if_pos c97] at H;have c97b0 : (a0_0 == 6) = true := beq_iff_eq.mpr c97;have c97b1 : (a0_0 != 6) = false := bne_eq_false_iff_eq.mpr c97;clear c97;by_cases c98 : a0_1 = 0
        ·rw [if_pos c98] at H;have c98b0 : (a0_1 == 0) = true := beq_iff_eq.mpr c98;have c98b1 : (a0_1 != 0) = false := bne_eq_false_iff_eq.mpr c98;clear c98;by_cases c99 : a0_1 ≥ 0
         ·rw [if_pos c99] at H;have c99b0 := decide_eq_true c99;clear c99;by_cases c100 : a0_1 < a1
          ·rw [if_pos c100] at H;have c100b0 := decide_eq_true c100;clear c100;by_cases c101 : a0_2 ≥ 0
           ·rw [if_pos c101] at H;have c101b0 := decide_eq_true c101;clear c101;exact nfa_fields_w0
           ·rw [if_neg c101] at H;have c101b0 := decide_eq_false c101;clear c101;exact nfa_fields_w0
          ·rw [if_neg c100] at H;have c100b0 := decide_eq_false c100;clear c100;exact nfa_fields_w0
         ·rw [if_neg c99] at H;have c99b0 := decide_eq_false c99;clear c99;exact nfa_fields_w0
        ·rw [if_neg c98] at H;have c98b0 : (a0_1 == 0) = false := beq_eq_false_iff_ne.mpr c98;have c98b1 : (a0_1 != 0) = true := bne_iff_ne.mpr c98;exact nfa_fields_w0
       ·rw [if_neg c97] at H;have c97b0 : (a0_0 == 6) = false := beq_eq_false_iff_ne.mpr c97;have c97b1 : (a0_0 != 6) = true := bne_iff_ne.mpr c97;by_cases c112 : a0_1 ≥ 0
        ·rw [if_pos c112] at H;have c112b0 := decide_eq_true c112;clear c112;by_cases c113 : a0_1 < a1
         ·rw [if_pos c113] at H;have c113b0 := decide_eq_true c113;clear c113;by_cases c114 : a0_2 ≥ 0
          ·rw [if_pos c114] at H;have c114b0 := decide_eq_true c114;clear c114;exact nfa_fields_w0
          ·rw [if_neg c114] at H;have c114b0 := decide_eq_false c114;clear c114;exact nfa_fields_w0
         ·rw [if_neg c113] at H;have c113b0 := decide_eq_false c113;clear c113;exact nfa_fields_w0
        ·rw [if_neg c112] at H;have c112b0 := decide_eq_false c112;clear c112;exact nfa_fields_w0
      ·rw [if_neg c96] at H;have c96b0 : (a0_2 == 0) = false := beq_eq_false_iff_ne.mpr c96;have c96b1 : (a0_2 != 0) = true := bne_iff_ne.mpr c96;exact nfa_fields_w0
end Go.Proofs.YtfjemaeidmikmaaDoorQ
