import Derived.Test.YtfjemaeidmikmaaDoorFM2
namespace Go.Proofs.YtfjemaeidmikmaaDoorQ
open Go.RowKit Go.Proofs.YtfjemaeidmikmaaDoorW.PrintWords Go.Proofs.YtfjemaeidmikmaaDoorW.PrintLast Go.Proofs.YtfjemaeidmikmaaDoorW.PrintMore
attribute [local go_sem] max2_int min2_int max_two min_two max_three min_three max_four min_four
set_option linter.unusedVariables false
set_option linter.unusedSimpArgs false
def tat07Eiter_b (n m : Nat) : Array Bool := ((List.range n).map m.testBit).toArray
mutual
def tattingref07_Either.l0 : Nat → List (List Bool) → List (List Bool) → Int → List (List Bool) → Int → Option ((List (List Bool)))
 | 0, _, _, _, _, _ => none
 | k + 1, x0, x1, x5, x6, x7 => if x7 ≤ x5 then (tattingref07_Either.l1 k x0 x1 x5 x6 x7 x7) else (some x6)
def tattingref07_Either.l1 : Nat → List (List Bool) → List (List Bool) → Int → List (List Bool) → Int → Int → Option ((List (List Bool)))
 | 0, _, _, _, _, _, _ => none
 | k + 1, x0, x1, x5, x6, x7, x8 => if x8 ≤ x5 then (if 0 ≤ x7 then (if x7 < (x6.length : Int) then (if x7 < (x0.length : Int) then (if 0 ≤ x8 then (if x8 < ((rd_L10 x0 x7).length : Int) then (if rdOf false (rd_L10 x0 x7) x8 = true then (if x8 < ((rd_L10 x6 x7).length : Int) then (tattingref07_Either.l1 k x0 x1 x5 (x6.set (x7 : Int).toNat ((rd_L10 x6 x7).set (x8 : Int).toNat true)) x7 (wrap64 (x8 + 1))) else (none)) else (if x7 < (x1.length : Int) then (if x8 < ((rd_L10 x1 x7).length : Int) then (if x8 < ((rd_L10 x6 x7).length : Int) then (tattingref07_Either.l1 k x0 x1 x5 (x6.set (x7 : Int).toNat ((rd_L10 x6 x7).set (x8 : Int).toNat (rdOf false (rd_L10 x1 x7) x8))) x7 (wrap64 (x8 + 1))) else (none)) else (none)) else (none))) else (none)) else (none)) else (none)) else (none)) else (none)) else (tattingref07_Either.l0 k x0 x1 x5 x6 (wrap64 (x7 + 1)))
end
def tattingref07_Either.f (k : Nat) (l0 : List (List Bool)) (l1 : List (List Bool)) : Option ((List (List Bool))) := (tattingref07_grid.f k (wrap64 ((l0.length : Int) - 1))).bind fun t101 => (tattingref07_Either.l0 k l0 l1 (wrap64 ((l0.length : Int) - 1)) t101 0)
def tattingref07_Either.T9 : Bool × List (List Nat × List Nat) := (true, [([], []), ([], []), ([0, 1], [0, 1]), ([2], [2]), ([], []), ([], []), ([], []), ([5, 6], [5, 6]), ([7], [7]), ([], []), ([8, 9], [8, 9]), ([10], [10]), ([11], [11]), ([12], [12]), ([12], [12]), ([13, 14, 12], [12, 13, 14]), ([15, 12], [12, 15]), ([12], [12]), ([16, 17, 12], [12, 16, 17]), ([18, 12], [12, 18]), ([12, 19], [12, 19]), ([3, 4, 0, 1, 2, 3, 4, 5, 6, 7, 8, 9, 10, 11, 12, 13, 14, 15, 16, 17, 18, 19, 20], [3, 4]), ([21, 20, 12, 0, 1, 2, 3, 4, 5, 6, 7, 8, 9, 10, 11, 12, 13, 14, 15, 16, 17, 18, 19, 20], [20, 21])])
def tattingref07_Either.B9 : List Nat := [0, 0, 3, 7, 0, 0, 0, 96, 224, 0, 992, 2016, 4064, 8160, 8160, 32736, 65504, 8160, 262112, 524256, 1048544, 2097151, 4194303]
theorem tat07Eiter_t0 {P : Prop} (h : P := by first | (with_reducible assumption) | assumption) : P := h
theorem tattingref07_Either.tab9 : rtab .any (opsOf Tryd.f59 9) = tattingref07_Either.T9 := by kernel_rfl
theorem tattingref07_Either.bits9 : waitsOk tattingref07_Either.T9.2 tattingref07_Either.B9 = true := by kernel_rfl
set_option maxHeartbeats 8000000 in
set_option maxRecDepth 100000 in
theorem tattingref07_Either.calls (k : Nat) (A0 : Option Addr) (c0 : Nat) (l0 : List (List Bool)) (A1 : Option Addr) (c1 : Nat) (l1 : List (List Bool)) (r : List (List Bool)) (w : World) (hr0 : Kd.C (Kd.slice 4 Kd.bool) w A0 l0.length l0) (hc0 : l0.length ≤ c0) (hr1 : Kd.C (Kd.slice 4 Kd.bool) w A1 l1.length l1) (hc1 : l1.length ≤ c1) (h : tattingref07_Either.f k l0 l1 = some r) :
  Calls Tryd.prog 59 #[.slice A0 l0.length c0, .slice A1 l1.length c1] w fun e w' => ∃ v0_ : Value, e = .returned (v0_) ∧ Kd.S (Kd.slice 4 Kd.bool) 28 w' w.heap.size (fun _ => True) v0_ r ∧ Below w.heap.size w w' := by
 have HR0 := Aside0.mk hr0;have HC0 := Aside0.mk hc0;clear hr0 hc0;have HR1 := Aside0.mk hr1;have HC1 := Aside0.mk hc1;clear hr1 hc1;have HB := Aside0.mk (Below.refl w.heap.size w);have H : ((tattingref07_grid.f k (wrap64 ((l0.length : Int) - 1))).bind fun t101 => (tattingref07_Either.l0 k l0 l1 (wrap64 ((l0.length : Int) - 1)) t101 0)) = some r := h;clear h;replace H := Option.bind_eq_some_iff.mp H;obtain ⟨t101, A30, H⟩ := H;replace H : (tattingref07_Either.l0 k l0 l1 (wrap64 ((l0.length : Int) - 1)) t101 0) = some r := H;have A3 := Aside0.mk A30;clear A30;have H' := Aside0.mk H;clear H;go_enter Tryd.func59, Tryd.ntmps59;go_wp2_with (first | ((with_reducible refine gate_callee (f := 56) rfl ?_); refine goesL_ (some 13) rfl rfl Tryd.func56 (by kernel_rfl) rfl #[.int .i64 (wrap64 ((l0.length : Int) - 1))] rfl (by (try simp only [List.map_toArray, List.map_cons, List.map_nil]); first | done | rfl | (simp only [List.length_drop, List.length_take]; rfl)) ?_; (with_reducible refine (tattingref07_grid.calls k (wrap64 ((l0.length : Int) - 1)) t101 _ A3.out).mono ?_); rintro e w4 ⟨v102, rfl, ho0, hb⟩; refine ⟨_, rfl, ?_⟩; have n0_ := Aside0.mk (Kd.S_lower ho0 (below_size (by repeat (first | (with_reducible first | exact HB.out | apply below_alloc | apply pw_below_drewN | apply below_drew1) | exact HB.out)))); have n1_ := Aside0.mk (below_step (by repeat (first | (with_reducible first | exact HB.out | apply below_alloc | apply pw_below_drewN | apply below_drew1) | exact HB.out)) hb); clear HB; have HO103 := n0_; have HB := n1_; clear n0_ n1_; (try clear hb); (try clear hb2); (try clear hk); (try clear hi); (try clear ho0)));go_loopg [7] k (fun kq v7 w' => ∃ (x6_1 : List (List Bool)) (x7_1 : Int), v7 = .int .i64 x7_1 ∧ Aside0 (tattingref07_Either.l0 kq l0 l1 (wrap64 ((l0.length : Int) - 1)) x6_1 x7_1 = some r) ∧ Aside0 (kq ≤ k) ∧ Aside0 (Kd.S (Kd.slice 4 Kd.bool) 28 w' w.heap.size (fun _ => True) v102 x6_1) ∧ Aside0 (Below w.heap.size w w'))
 case atStart => exact ⟨(t101), (0), (by first | rfl | (simp; done) | (simp [*]; done)), H', ⟨Nat.le_refl _⟩, ⟨by (with_reducible repeat (first | apply Kd.S_alloc | apply Kd.S_drewN | apply Kd.S_drew)); exact HO103.out⟩, ⟨by repeat (first | (with_reducible first | exact HB.out | apply below_alloc | apply pw_below_drewN | apply below_drew1) | exact HB.out)⟩⟩
 case round =>
  clear H';(try clear c1);(try clear p2);obtain ⟨x6_1, x7_1, rfl, HA, HK1, HO_6, HB⟩ := hrel
  cases gk with
  | zero => exact absurd HA.out (by simp [tattingref07_Either.l0])
  | succ k1 =>
   have H := HA.out;clear HA;simp only [tattingref07_Either.l0] at H;by_cases c5 : x7_1 ≤ (wrap64 ((l0.length : Int) - 1))
   ·rw [if_pos c5] at H;have c5b0 := decide_eq_true c5;clear c5;have H' := Aside0.mk H;clear H;go_wp2;go_loopg [8] k1 (fun kq v8 w' => ∃ (x6_2 : List (List Bool)) (x8_2 : Int), v8 = .int .i64 x8_2 ∧ Aside0 (tattingref07_Either.l1 kq l0 l1 (wrap64 ((l0.length : Int) - 1)) x6_2 x7_1 x8_2 = some r) ∧ Aside0 (kq ≤ k1) ∧ Aside0 (Kd.S (Kd.slice 4 Kd.bool) 28 w' w.heap.size (fun _ => True) v102 x6_2) ∧ Aside0 (Below w.heap.size w w'))
    case atStart => exact ⟨(x6_1), (x7_1), (by first | rfl | (simp; done) | (simp [*]; done)), H', ⟨Nat.le_refl _⟩, ⟨by (with_reducible repeat (first | apply Kd.S_alloc | apply Kd.S_drewN | apply Kd.S_drew)); exact HO_6.out⟩, ⟨by repeat (first | (with_reducible first | exact HB.out | apply below_alloc | apply pw_below_drewN | apply below_drew1) | exact HB.out)⟩⟩
    case round =>
     clear H';(try clear c1);(try clear p2);(try clear c5);(try clear c5b0);(try clear p2);obtain ⟨x6_2, x8_2, rfl, HA, HK2, HO_6, HB⟩ := hrel
     cases gk with
     | zero => exact absurd HA.out (by simp [tattingref07_Either.l1])
     | succ k2 =>
      have H := HA.out;clear HA;simp only [tattingref07_Either.l1] at H;by_cases c6 : x8_2 ≤ (wrap64 ((l0.length : Int) - 1))
      ·rw [if_pos c6] at H;have c6b0 := decide_eq_true c6;clear c6;by_cases c7 : 0 ≤ x7_1
       ·rw [if_pos c7] at H;have c7b0 := decide_eq_true c7;clear c7;by_cases c8 : x7_1 < (x6_2.length : Int)
        ·rw [if_pos c8] at H;have c8b0 := decide_eq_true c8;clear c8;by_cases c9 : x7_1 < (l0.length : Int)
         ·rw [if_pos c9] at H;have c9b0 := decide_eq_true c9;clear c9;by_cases c10 : 0 ≤ x8_2
          ·rw [if_pos c10] at H;have c10b0 := decide_eq_true c10;clear c10;by_cases c11 : x8_2 < ((rd_L10 l0 x7_1).length : Int)
           ·rw [if_pos c11] at H;have c11b0 := decide_eq_true c11;clear c11;obtain ⟨bq12, hbq12⟩ : ∃ b_ : Bool, b_ = (rdOf false (rd_L10 l0 x7_1) x8_2) := ⟨_, rfl⟩;(replace H : (if bq12 = true then (if x8_2 < ((rd_L10 x6_2 x7_1).length : Int) then (tattingref07_Either.l1 k2 l0 l1 (wrap64 ((l0.length : Int) - 1)) (x6_2.set (x7_1 : Int).toNat ((rd_L10 x6_2 x7_1).set (x8_2 : Int).toNat true)) x7_1 (wrap64 (x8_2 + 1))) else (none)) else (if x7_1 < (l1.length : Int) then (if x8_2 < ((rd_L10 l1 x7_1).length : Int) then (if x8_2 < ((rd_L10 x6_2 x7_1).length : Int) then (tattingref07_Either.l1 k2 l0 l1 (wrap64 ((l0.length : Int) - 1)) (x6_2.set (x7_1 : Int).toNat ((rd_L10 x6_2 x7_1).set (x8_2 : Int).toNat (rdOf false (rd_L10 l1 x7_1) x8_2))) x7_1 (wrap64 (x8_2 + 1))) else (none)) else (none)) else (none))) = some r := by rw [← hbq12] at H; exact H);have Nbq12 := Aside0.mk hbq12;clear hbq12;by_cases c13 : bq12 = true
            ·subst c13;(have H1 : (if x8_2 < ((rd_L10 x6_2 x7_1).length : Int) then (tattingref07_Either.l1 k2 l0 l1 (wrap64 ((l0.length : Int) - 1)) (x6_2.set (x7_1 : Int).toNat ((rd_L10 x6_2 x7_1).set (x8_2 : Int).toNat true)) x7_1 (wrap64 (x8_2 + 1))) else (none)) = some r := by rw [if_pos rfl] at H; exact H);clear H;have H := H1;clear H1;by_cases c14 : x8_2 < ((rd_L10 x6_2 x7_1).length : Int)
             ·rw [if_pos c14] at H;have c14b0 := decide_eq_true c14;clear c14;obtain ⟨y107, hy107⟩ : ∃ y_ : List Bool, y_ = ((rd_L10 x6_2 x7_1).set (x8_2 : Int).toNat true) := ⟨_, rfl⟩;(replace H : (tattingref07_Either.l1 k2 l0 l1 (wrap64 ((l0.length : Int) - 1)) (x6_2.set (x7_1 : Int).toNat y107) x7_1 (wrap64 (x8_2 + 1))) = some r := by first | (rw [hy107]; with_reducible exact H) | (have H2_ := (Option.bind_some _ _).symm.trans H; rw [hy107]; with_reducible exact H2_) | (have H2_ := (Option.bind_some _ _).symm.trans H; with_reducible exact H2_) | with_reducible exact H | (rw [hy107]; exact H) | exact H);have Ny107 := Aside0.mk hy107;clear hy107;obtain ⟨y109, hy109⟩ : ∃ y_ : List (List Bool), y_ = (x6_2.set (x7_1 : Int).toNat y107) := ⟨_, rfl⟩;(replace H : (tattingref07_Either.l1 k2 l0 l1 (wrap64 ((l0.length : Int) - 1)) y109 x7_1 (wrap64 (x8_2 + 1))) = some r := by first | (rw [hy109]; with_reducible exact H) | (have H2_ := (Option.bind_some _ _).symm.trans H; rw [hy109]; with_reducible exact H2_) | (have H2_ := (Option.bind_some _ _).symm.trans H; with_reducible exact H2_) | with_reducible exact H | (rw [hy109]; exact H) | exact H);have Ny109 := Aside0.mk hy109;clear hy109;have H' := Aside0.mk H;clear H;(try go_wp2);have n0_ := Aside0.mk (Kd.S_drew HO_6.out);have n1_ := Aside0.mk (below_drew1 HB.out);clear HO_6;clear HB;have HO_6 := n0_;have HB := n1_;clear n0_ n1_;obtain ⟨Ao17, co17, eo17⟩ := Kd.S_slice HO_6.out;(first | subst eo17 | (injection eo17 with f1_ f2_ f3_; have f4_ := f1_.symm; have f5_ := f3_.symm; clear f1_ f2_ f3_; subst f4_; subst f5_));have p104 : 0 ≤ (x7_1 : Int) := of_decide_eq_true tat07Eiter_t0;have q104 : x7_1 < (x6_2.length : Int) := of_decide_eq_true tat07Eiter_t0;obtain ⟨ad104, A104_0, c104_0, e104, hx104_0, hl104_0, hi104_0⟩ := at_L10 (Kd.S_reads' HO_6.out).2.2 x7_1 p104 q104;cases e104;obtain ⟨ce104, hce104, hMe104, hcc104⟩ := Kd.S_get HO_6.out [] x7_1 p104 (by first | exact q104 | exact of_decide_eq_true tat07Eiter_t0 | (have e_ := (Kd.S_reads' HO_6.out).1; omega));obtain ⟨ve104_0, rfl, ge104_0⟩ := hMe104;have hv104_0 := hcc104 0 _ rfl;rw [Nat.add_zero, show ((Kd.slice 4 Kd.bool)).sz = 1 from rfl, Nat.mul_one] at hv104_0;replace hv104_0 := Option.some.inj (hv104_0.symm.trans hx104_0);rw [hv104_0] at ge104_0;have HL104_0 := Aside0.mk (show Kd.R Kd.bool 4 _ _ _ _ (rd_L10 x6_2 x7_1) from ge104_0);clear hv104_0 ge104_0;have HX104_0 := Aside0.mk hx104_0;clear hcc104 hce104;have HR104_0 := Aside0.mk hi104_0;have HC104_0 := Aside0.mk hl104_0;clear hi104_0 hl104_0;replace p104 := eq_true p104;replace q104 := eq_true q104;have p105 : 0 ≤ (x7_1 : Int) := of_decide_eq_true tat07Eiter_t0;have q105 : x7_1 < (l0.length : Int) := of_decide_eq_true tat07Eiter_t0;obtain ⟨ad105, A105_0, c105_0, e105, hx105_0, hl105_0, hi105_0⟩ := at_L10 HR0.out x7_1 p105 q105;have hw105_0 := hx105_0;cases e105;replace hx105_0 := (HB.out.cell (World.block_lt_of_cell? w _ hx105_0)).trans hx105_0;have HR105_0 := Aside0.mk hi105_0;have HC105_0 := Aside0.mk hl105_0;clear hi105_0 hl105_0;replace p105 := eq_true p105;replace q105 := eq_true q105;have p106 : 0 ≤ (x8_2 : Int) := of_decide_eq_true tat07Eiter_t0;have q106 : x8_2 < ((rd_L10 l0 x7_1).length : Int) := of_decide_eq_true tat07Eiter_t0;obtain ⟨ad106, e106, hx106_0⟩ := Kd.at_bool HR105_0.out x8_2 p106 q106;have hw106_0 := hx106_0;(try rw [← Nbq12.out] at hx106_0); (try rw [← Nbq12.out] at hw106_0);cases e106;replace hx106_0 := (HB.out.cell (World.block_lt_of_cell? w _ hx106_0)).trans hx106_0;replace p106 := eq_true p106;replace q106 := eq_true q106;have p15 : 0 ≤ (x8_2 : Int) := of_decide_eq_true tat07Eiter_t0;have q15 : (x8_2 : Int) < (((rd_L10 x6_2 x7_1).length : Int) : Int) := of_decide_eq_true tat07Eiter_t0;obtain ⟨go15, co15, eo15, gb15, gl15, cl15, HG15⟩ := Kd.R_form HL104_0.out (by omega);(first | cases eo15 | (injection eo15 with ea_ en_ ec_; (first | subst ea_ | (injection ea_ with ea_; subst ea_)); subst ec_; clear en_));have GB15 := Aside0.mk gb15;have GG15 := Aside0.mk HG15;clear gb15 gl15 HG15;obtain ⟨hx15_0, hf15_0⟩ := Kd.R_celln false HL104_0.out (x8_2 : Int) p15 q15;replace p15 := eq_true p15;replace q15 := eq_true q15;have hq18 : (x7_1 : Int) < (x6_2.length : Int) := (by have h_ : (x7_1 : Int) < ((x6_2.length : Int) : Int) := of_decide_eq_true tat07Eiter_t0; first | exact h_ | (have e_ := (Kd.S_reads' HO_6.out).1; omega) | simpa only [List.length_set, List.length_set] using h_);obtain ⟨oki18, ce18, hcl18, hM18, hcc18, hok18, hbk18⟩ := Kd.S_borrow HO_6.out [] (x7_1 : Int) (of_decide_eq_true tat07Eiter_t0) hq18;obtain ⟨ve18_0, rfl, ge18_0⟩ := hM18;have hv18 := hcc18 0 _ rfl;rw [Nat.add_zero, show ((Kd.slice 4 Kd.bool)).sz = 1 from rfl, Nat.mul_one] at hv18;replace hv18 := Option.some.inj (hv18.symm.trans HX104_0.out);subst hv18;clear hcc18 hcl18;replace ge18_0 := (show Kd.R Kd.bool 4 _ _ _ _ (rd_L10 x6_2 x7_1) from ge18_0);have HP18 := Kd.R_putg ge18_0 (x8_2 : Int) true;rw [← Ny107.out] at HP18;have HS18 := hbk18 HP18.2 (fun k_ e_ => by injection e_ with e_; subst e_; exact ge18_0.1 _ rfl) (x' := y107) (Kd.M_row HP18.1);rw [← Ny109.out] at HS18;have HQ18 := Aside0.mk HS18;clear HP18 HS18 hbk18 hok18;refine start_ (n := 23) (S := fun w' => w'.cell? (ad104.add (x7_1).toNat) = some (.slice (some ⟨go15, 0, none⟩) (rd_L10 x6_2 x7_1).length c104_0) ∧ w'.cell? (ad105.add (x7_1).toNat) = some (.slice (some ad106) (rd_L10 l0 x7_1).length c105_0) ∧ w'.cell? (ad106.add (x8_2).toNat) = some (.bool true)) (ds := [22]) (tat07Eiter_b 23 0) (by kernel_rfl) rfl rfl ⟨hx104_0, ((HB.out.cell (World.block_lt_of_cell? w _ hw105_0)).trans hw105_0), ((HB.out.cell (World.block_lt_of_cell? w _ hw106_0)).trans hw106_0)⟩ (fun hHeld => ?_); refine with_tabW tattingref07_Either.tab9 tattingref07_Either.bits9 (fun HT_ HW_ => ?_);generalize wr.drew = w16 at HO_6 HB GG15 HL104_0 HQ18 HR104_0 HR105_0 HX104_0 hf15_0 hx104_0 hx105_0 hx106_0 hx15_0 hHeld ⊢;refine pure_ (i := 0) (N := some 25) (v := ?_) (a' := ?_) (tat07Eiter_b 23 1) rfl rfl (any_of HT_.out (by kernel_rfl)) (fun _ _ _ h => h) (Or.inl ⟨by rfl, ?_⟩) ?_ ?_;(rotate_left)
              ·intro w';go_simp;(with_reducible rfl)
              rotate_left
              ·simp only [Act.put, List.setIfInBounds_toArray, List.set_cons_zero, List.set_cons_succ, i64_w, i32_w];rfl
              refine pure_ (i := 1) (N := some 26) (v := ?_) (a' := ?_) (tat07Eiter_b 23 3) rfl rfl (any_of HT_.out (by kernel_rfl)) (fun _ _ _ h => h) (Or.inl ⟨by rfl, ?_⟩) ?_ ?_;(rotate_left)
              ·intro w';go_simp;(with_reducible rfl)
              rotate_left
              ·simp only [Act.put, List.setIfInBounds_toArray, List.set_cons_zero, List.set_cons_succ, i64_w, i32_w];rfl
              refine pure_ (i := 2) (N := some 27) (v := ?_) (a' := ?_) (tat07Eiter_b 23 7) rfl rfl (any_of HT_.out (by kernel_rfl)) (fun _ _ _ h => h) (Or.inl ⟨by rfl, ?_⟩) ?_ ?_;(rotate_left)
              ·intro w';go_simp;(with_reducible rfl)
              rotate_left
              ·simp only [Act.put, List.setIfInBounds_toArray, List.set_cons_zero, List.set_cons_succ, i64_w, i32_w];rfl
              refine pure_ (i := 4) (N := some 29) (v := ?_) (a' := ?_) (tat07Eiter_b 23 23) rfl rfl (any_of HT_.out (by kernel_rfl)) (fun _ _ _ h => h) (Or.inl ⟨by rfl, ?_⟩) ?_ ?_;(rotate_left)
              ·intro w';go_simp;(with_reducible rfl)
              rotate_left
              ·simp only [Act.put, List.setIfInBounds_toArray, List.set_cons_zero, List.set_cons_succ, i64_w, i32_w];rfl
              refine pure_ (i := 5) (N := some 30) (v := ?_) (a' := ?_) (tat07Eiter_b 23 55) rfl rfl (any_of HT_.out (by kernel_rfl)) (fun _ _ _ h => h) (Or.inl ⟨by rfl, ?_⟩) ?_ ?_;(rotate_left)
              ·intro w';go_simp;(with_reducible rfl)
              rotate_left
              ·simp only [Act.put, List.setIfInBounds_toArray, List.set_cons_zero, List.set_cons_succ, i64_w, i32_w];rfl
              refine pure_ (i := 6) (N := some 31) (v := ?_) (a' := ?_) (tat07Eiter_b 23 119) rfl rfl (any_of HT_.out (by kernel_rfl)) (fun _ _ _ h => h) (Or.inl ⟨by rfl, ?_⟩) ?_ ?_;(rotate_left)
              ·intro w';go_simp;(with_reducible rfl)
              rotate_left
              ·simp only [Act.put, List.setIfInBounds_toArray, List.set_cons_zero, List.set_cons_succ, i64_w, i32_w];rfl
              refine pure_ (i := 7) (N := some 32) (v := ?_) (a' := ?_) (tat07Eiter_b 23 247) rfl rfl (any_of HT_.out (by kernel_rfl)) (fun _ _ _ h => h) (Or.inl ⟨by rfl, ?_⟩) ?_ ?_;(rotate_left)
              ·intro w';go_simp;(with_reducible rfl)
              rotate_left
              ·simp only [Act.put, List.setIfInBounds_toArray, List.set_cons_zero, List.set_cons_succ, i64_w, i32_w];rfl
              refine pure_ (i := 9) (N := some 34) (v := ?_) (a' := ?_) (tat07Eiter_b 23 759) rfl rfl (any_of HT_.out (by kernel_rfl)) (fun _ _ _ h => h) (Or.inl ⟨by rfl, ?_⟩) ?_ ?_;(rotate_left)
              ·intro w';go_simp;(with_reducible rfl)
              rotate_left
              ·simp only [Act.put, List.setIfInBounds_toArray, List.set_cons_zero, List.set_cons_succ, i64_w, i32_w];rfl
              refine take_ (i := 3) (N := some 28) (v := ?_) (a' := ?_) (tat07Eiter_b 23 767) rfl rfl (take_ofW HT_.out HW_.out (by kernel_rfl)) (fun _ _ _ h => h) (Or.inl ⟨by rfl, ?_⟩) hHeld ?_ ?_;(rotate_left)
              ·rintro w' ⟨s0, s1, s2⟩;go_simp;(with_reducible rfl)
              rotate_left
              ·simp only [Act.put, List.setIfInBounds_toArray, List.set_cons_zero, List.set_cons_succ, i64_w, i32_w];rfl
              refine take_ (i := 8) (N := some 33) (v := ?_) (a' := ?_) (tat07Eiter_b 23 1023) rfl rfl (take_ofW HT_.out HW_.out (by kernel_rfl)) (fun _ _ _ h => h) (Or.inl ⟨by rfl, ?_⟩) hHeld ?_ ?_;(rotate_left)
              ·rintro w' ⟨s0, s1, s2⟩;go_simp;(with_reducible rfl)
              rotate_left
              ·simp only [Act.put, List.setIfInBounds_toArray, List.set_cons_zero, List.set_cons_succ, i64_w, i32_w];rfl
              refine pure_ (i := 10) (N := some 35) (v := ?_) (a' := ?_) (tat07Eiter_b 23 2047) rfl rfl (any_of HT_.out (by kernel_rfl)) (fun _ _ _ h => h) (Or.inl ⟨by rfl, ?_⟩) ?_ ?_;(rotate_left)
              ·intro w';go_simp;(with_reducible rfl)
              rotate_left
              ·simp only [Act.put, List.setIfInBounds_toArray, List.set_cons_zero, List.set_cons_succ, i64_w, i32_w];rfl
              refine take_ (i := 11) (N := some 36) (v := ?_) (a' := ?_) (tat07Eiter_b 23 4095) rfl rfl (take_ofW HT_.out HW_.out (by kernel_rfl)) (fun _ _ _ h => h) (Or.inl ⟨by rfl, ?_⟩) hHeld ?_ ?_;(rotate_left)
              ·rintro w' ⟨s0, s1, s2⟩;go_simp;(with_reducible rfl)
              rotate_left
              ·simp only [Act.put, List.setIfInBounds_toArray, List.set_cons_zero, List.set_cons_succ, i64_w, i32_w];rfl
              refine pure_ (i := 12) (N := some 37) (v := ?_) (a' := ?_) (tat07Eiter_b 23 8191) rfl rfl (any_of HT_.out (by kernel_rfl)) (fun _ _ _ h => h) (Or.inl ⟨by rfl, ?_⟩) ?_ ?_;(rotate_left)
              ·intro w';go_simp;(with_reducible rfl)
              rotate_left
              ·simp only [Act.put, List.setIfInBounds_toArray, List.set_cons_zero, List.set_cons_succ, i64_w, i32_w];rfl
              refine pure_ (i := 13) (N := some 38) (v := undef) (a' := ?_) (tat07Eiter_b 23 16383) rfl rfl (any_of HT_.out (by kernel_rfl)) (fun _ _ _ h => h) (Or.inr ⟨by rfl, rfl⟩) ?_ ?_;(rotate_left)
              ·simp only [Act.put, List.setIfInBounds_toArray, List.set_cons_zero, List.set_cons_succ, i64_w, i32_w];rfl
              refine pure_ (i := 14) (N := some 39) (v := undef) (a' := ?_) (tat07Eiter_b 23 32767) rfl rfl (any_of HT_.out (by kernel_rfl)) (fun _ _ _ h => h) (Or.inr ⟨by rfl, rfl⟩) ?_ ?_;(rotate_left)
              ·simp only [Act.put, List.setIfInBounds_toArray, List.set_cons_zero, List.set_cons_succ, i64_w, i32_w];rfl
              refine pure_ (i := 15) (N := some 40) (v := undef) (a' := ?_) (tat07Eiter_b 23 65535) rfl rfl (any_of HT_.out (by kernel_rfl)) (fun _ _ _ h => h) (Or.inr ⟨by rfl, rfl⟩) ?_ ?_;(rotate_left)
              ·simp only [Act.put, List.setIfInBounds_toArray, List.set_cons_zero, List.set_cons_succ, i64_w, i32_w];rfl
              refine pure_ (i := 16) (N := some 41) (v := undef) (a' := ?_) (tat07Eiter_b 23 131071) rfl rfl (any_of HT_.out (by kernel_rfl)) (fun _ _ _ h => h) (Or.inr ⟨by rfl, rfl⟩) ?_ ?_;(rotate_left)
              ·simp only [Act.put, List.setIfInBounds_toArray, List.set_cons_zero, List.set_cons_succ, i64_w, i32_w];rfl
              refine pure_ (i := 17) (N := some 42) (v := undef) (a' := ?_) (tat07Eiter_b 23 262143) rfl rfl (any_of HT_.out (by kernel_rfl)) (fun _ _ _ h => h) (Or.inr ⟨by rfl, rfl⟩) ?_ ?_;(rotate_left)
              ·simp only [Act.put, List.setIfInBounds_toArray, List.set_cons_zero, List.set_cons_succ, i64_w, i32_w];rfl
              refine pure_ (i := 18) (N := some 43) (v := undef) (a' := ?_) (tat07Eiter_b 23 524287) rfl rfl (any_of HT_.out (by kernel_rfl)) (fun _ _ _ h => h) (Or.inr ⟨by rfl, rfl⟩) ?_ ?_;(rotate_left)
              ·simp only [Act.put, List.setIfInBounds_toArray, List.set_cons_zero, List.set_cons_succ, i64_w, i32_w];rfl
              refine pure_ (i := 19) (N := some 44) (v := undef) (a' := ?_) (tat07Eiter_b 23 1048575) rfl rfl (any_of HT_.out (by kernel_rfl)) (fun _ _ _ h => h) (Or.inr ⟨by rfl, rfl⟩) ?_ ?_;(rotate_left)
              ·simp only [Act.put, List.setIfInBounds_toArray, List.set_cons_zero, List.set_cons_succ, i64_w, i32_w];rfl
              refine pure_ (i := 20) (N := some 45) (v := ?_) (a' := ?_) (tat07Eiter_b 23 2097151) rfl rfl (any_of HT_.out (by kernel_rfl)) (fun _ _ _ h => h) (Or.inl ⟨by rfl, ?_⟩) ?_ ?_;(rotate_left)
              ·intro w';go_simp;(with_reducible rfl)
              rotate_left
              ·simp only [Act.put, List.setIfInBounds_toArray, List.set_cons_zero, List.set_cons_succ, i64_w, i32_w];rfl
              refine pure_ (i := 21) (N := some 46) (v := ?_) (a' := ?_) (tat07Eiter_b 23 4194303) rfl rfl (any_of HT_.out (by kernel_rfl)) (fun _ _ _ h => h) (Or.inl ⟨by rfl, ?_⟩) ?_ ?_;(rotate_left)
              ·intro w';go_simp;(with_reducible rfl)
              rotate_left
              ·simp only [Act.put, List.setIfInBounds_toArray, List.set_cons_zero, List.set_cons_succ, i64_w, i32_w];rfl
              refine last_ (i := 22) (N := none) (tat07Eiter_b 23 8388607) rfl rfl (one_of HT_.out (by kernel_rfl)) (by decide) (fun K hK => ?_);refine skip_ (w1 := ?_) (by rfl) rfl ?_ ?_;(rotate_left)
              ·go_simp;rfl
              refine hK.out _ _ ?_;clear hK K;refine done_ (done_of HT_.out (by kernel_rfl)) ?_;(try go_wp2);go_roundg k2
              case measure => have := HK1.out; have := HK2.out; omega
              case rel => exact ⟨(y109), (wrap64 (x8_2 + 1)), (by first | rfl | (simp; done) | (simp [*]; done)), H', ⟨by have := HK1.out; have := HK2.out; omega⟩, ⟨by (with_reducible repeat (first | apply Kd.S_alloc | apply Kd.S_drewN | apply Kd.S_drew)); exact HQ18.out⟩, ⟨by repeat (first | (with_reducible first | exact HB.out | apply below_alloc | apply pw_below_drewN | apply below_drew1 | refine below_set ?_ GB15.out) | exact HB.out)⟩⟩
             ·rw [if_neg c14] at H;exact absurd H (by simp)
            ·replace c13 := Bool.eq_false_iff.mpr c13;subst c13;(have H1 : (if x7_1 < (l1.length : Int) then (if x8_2 < ((rd_L10 l1 x7_1).length : Int) then (if x8_2 < ((rd_L10 x6_2 x7_1).length : Int) then (tattingref07_Either.l1 k2 l0 l1 (wrap64 ((l0.length : Int) - 1)) (x6_2.set (x7_1 : Int).toNat ((rd_L10 x6_2 x7_1).set (x8_2 : Int).toNat (rdOf false (rd_L10 l1 x7_1) x8_2))) x7_1 (wrap64 (x8_2 + 1))) else (none)) else (none)) else (none)) = some r := by rw [if_neg (show ¬ (false = true) by decide)] at H; exact H);clear H;have H := H1;clear H1;by_cases c20 : x7_1 < (l1.length : Int)
             ·rw [if_pos c20] at H;have c20b0 := decide_eq_true c20;clear c20;by_cases c21 : x8_2 < ((rd_L10 l1 x7_1).length : Int)
              ·rw [if_pos c21] at H;have c21b0 := decide_eq_true c21;clear c21;by_cases c22 : x8_2 < ((rd_L10 x6_2 x7_1).length : Int)
               ·rw [if_pos c22] at H;have c22b0 := decide_eq_true c22;clear c22;obtain ⟨y112, hy112⟩ : ∃ y_ : List Bool, y_ = ((rd_L10 x6_2 x7_1).set (x8_2 : Int).toNat (rdOf false (rd_L10 l1 x7_1) x8_2)) := ⟨_, rfl⟩;(replace H : (tattingref07_Either.l1 k2 l0 l1 (wrap64 ((l0.length : Int) - 1)) (x6_2.set (x7_1 : Int).toNat y112) x7_1 (wrap64 (x8_2 + 1))) = some r := by first | (rw [hy112]; with_reducible exact H) | (have H2_ := (Option.bind_some _ _).symm.trans H; rw [hy112]; with_reducible exact H2_) | (have H2_ := (Option.bind_some _ _).symm.trans H; with_reducible exact H2_) | with_reducible exact H | (rw [hy112]; exact H) | exact H);have Ny112 := Aside0.mk hy112;clear hy112;obtain ⟨y114, hy114⟩ : ∃ y_ : List (List Bool), y_ = (x6_2.set (x7_1 : Int).toNat y112) := ⟨_, rfl⟩;(replace H : (tattingref07_Either.l1 k2 l0 l1 (wrap64 ((l0.length : Int) - 1)) y114 x7_1 (wrap64 (x8_2 + 1))) = some r := by first | (rw [hy114]; with_reducible exact H) | (have H2_ := (Option.bind_some _ _).symm.trans H; rw [hy114]; with_reducible exact H2_) | (have H2_ := (Option.bind_some _ _).symm.trans H; with_reducible exact H2_) | with_reducible exact H | (rw [hy114]; exact H) | exact H);have Ny114 := Aside0.mk hy114;clear hy114;have H' := Aside0.mk H;clear H;(try go_wp2);have n0_ := Aside0.mk (Kd.S_drew HO_6.out);have n1_ := Aside0.mk (below_drew1 HB.out);clear HO_6;clear HB;have HO_6 := n0_;have HB := n1_;clear n0_ n1_;obtain ⟨Ao25, co25, eo25⟩ := Kd.S_slice HO_6.out;(first | subst eo25 | (injection eo25 with f1_ f2_ f3_; have f4_ := f1_.symm; have f5_ := f3_.symm; clear f1_ f2_ f3_; subst f4_; subst f5_));have p104 : 0 ≤ (x7_1 : Int) := of_decide_eq_true tat07Eiter_t0;have q104 : x7_1 < (x6_2.length : Int) := of_decide_eq_true tat07Eiter_t0;obtain ⟨ad104, A104_0, c104_0, e104, hx104_0, hl104_0, hi104_0⟩ := at_L10 (Kd.S_reads' HO_6.out).2.2 x7_1 p104 q104;cases e104;obtain ⟨ce104, hce104, hMe104, hcc104⟩ := Kd.S_get HO_6.out [] x7_1 p104 (by first | exact q104 | exact of_decide_eq_true tat07Eiter_t0 | (have e_ := (Kd.S_reads' HO_6.out).1; omega));obtain ⟨ve104_0, rfl, ge104_0⟩ := hMe104;have hv104_0 := hcc104 0 _ rfl;rw [Nat.add_zero, show ((Kd.slice 4 Kd.bool)).sz = 1 from rfl, Nat.mul_one] at hv104_0;replace hv104_0 := Option.some.inj (hv104_0.symm.trans hx104_0);rw [hv104_0] at ge104_0;have HL104_0 := Aside0.mk (show Kd.R Kd.bool 4 _ _ _ _ (rd_L10 x6_2 x7_1) from ge104_0);clear hv104_0 ge104_0;have HX104_0 := Aside0.mk hx104_0;clear hcc104 hce104;have HR104_0 := Aside0.mk hi104_0;have HC104_0 := Aside0.mk hl104_0;clear hi104_0 hl104_0;replace p104 := eq_true p104;replace q104 := eq_true q104;have p105 : 0 ≤ (x7_1 : Int) := of_decide_eq_true tat07Eiter_t0;have q105 : x7_1 < (l0.length : Int) := of_decide_eq_true tat07Eiter_t0;obtain ⟨ad105, A105_0, c105_0, e105, hx105_0, hl105_0, hi105_0⟩ := at_L10 HR0.out x7_1 p105 q105;have hw105_0 := hx105_0;cases e105;replace hx105_0 := (HB.out.cell (World.block_lt_of_cell? w _ hx105_0)).trans hx105_0;have HR105_0 := Aside0.mk hi105_0;have HC105_0 := Aside0.mk hl105_0;clear hi105_0 hl105_0;replace p105 := eq_true p105;replace q105 := eq_true q105;have p106 : 0 ≤ (x8_2 : Int) := of_decide_eq_true tat07Eiter_t0;have q106 : x8_2 < ((rd_L10 l0 x7_1).length : Int) := of_decide_eq_true tat07Eiter_t0;obtain ⟨ad106, e106, hx106_0⟩ := Kd.at_bool HR105_0.out x8_2 p106 q106;have hw106_0 := hx106_0;(try rw [← Nbq12.out] at hx106_0); (try rw [← Nbq12.out] at hw106_0);cases e106;replace hx106_0 := (HB.out.cell (World.block_lt_of_cell? w _ hx106_0)).trans hx106_0;replace p106 := eq_true p106;replace q106 := eq_true q106;have p110 : 0 ≤ (x7_1 : Int) := of_decide_eq_true tat07Eiter_t0;have q110 : x7_1 < (l1.length : Int) := of_decide_eq_true tat07Eiter_t0;obtain ⟨ad110, A110_0, c110_0, e110, hx110_0, hl110_0, hi110_0⟩ := at_L10 HR1.out x7_1 p110 q110;have hw110_0 := hx110_0;cases e110;replace hx110_0 := (HB.out.cell (World.block_lt_of_cell? w _ hx110_0)).trans hx110_0;have HR110_0 := Aside0.mk hi110_0;have HC110_0 := Aside0.mk hl110_0;clear hi110_0 hl110_0;replace p110 := eq_true p110;replace q110 := eq_true q110;have p111 : 0 ≤ (x8_2 : Int) := of_decide_eq_true tat07Eiter_t0;have q111 : x8_2 < ((rd_L10 l1 x7_1).length : Int) := of_decide_eq_true tat07Eiter_t0;obtain ⟨ad111, e111, hx111_0⟩ := Kd.at_bool HR110_0.out x8_2 p111 q111;have hw111_0 := hx111_0;(try rw [← Nbq12.out] at hx111_0); (try rw [← Nbq12.out] at hw111_0);cases e111;replace hx111_0 := (HB.out.cell (World.block_lt_of_cell? w _ hx111_0)).trans hx111_0;replace p111 := eq_true p111;replace q111 := eq_true q111;have p23 : 0 ≤ (x8_2 : Int) := of_decide_eq_true tat07Eiter_t0;have q23 : (x8_2 : Int) < (((rd_L10 x6_2 x7_1).length : Int) : Int) := of_decide_eq_true tat07Eiter_t0;obtain ⟨go23, co23, eo23, gb23, gl23, cl23, HG23⟩ := Kd.R_form HL104_0.out (by omega);(first | cases eo23 | (injection eo23 with ea_ en_ ec_; (first | subst ea_ | (injection ea_ with ea_; subst ea_)); subst ec_; clear en_));have GB23 := Aside0.mk gb23;have GG23 := Aside0.mk HG23;clear gb23 gl23 HG23;obtain ⟨hx23_0, hf23_0⟩ := Kd.R_celln false HL104_0.out (x8_2 : Int) p23 q23;replace p23 := eq_true p23;replace q23 := eq_true q23;have hq26 : (x7_1 : Int) < (x6_2.length : Int) := (by have h_ : (x7_1 : Int) < ((x6_2.length : Int) : Int) := of_decide_eq_true tat07Eiter_t0; first | exact h_ | (have e_ := (Kd.S_reads' HO_6.out).1; omega) | simpa only [List.length_set, List.length_set] using h_);obtain ⟨oki26, ce26, hcl26, hM26, hcc26, hok26, hbk26⟩ := Kd.S_borrow HO_6.out [] (x7_1 : Int) (of_decide_eq_true tat07Eiter_t0) hq26;obtain ⟨ve26_0, rfl, ge26_0⟩ := hM26;have hv26 := hcc26 0 _ rfl;rw [Nat.add_zero, show ((Kd.slice 4 Kd.bool)).sz = 1 from rfl, Nat.mul_one] at hv26;replace hv26 := Option.some.inj (hv26.symm.trans HX104_0.out);subst hv26;clear hcc26 hcl26;replace ge26_0 := (show Kd.R Kd.bool 4 _ _ _ _ (rd_L10 x6_2 x7_1) from ge26_0);have HP26 := Kd.R_putg ge26_0 (x8_2 : Int) (rdOf false (rd_L10 l1 x7_1) x8_2);rw [← Ny112.out] at HP26;have HS26 := hbk26 HP26.2 (fun k_ e_ => by injection e_ with e_; subst e_; exact ge26_0.1 _ rfl) (x' := y112) (Kd.M_row HP26.1);rw [← Ny114.out] at HS26;have HQ26 := Aside0.mk HS26;clear HP26 HS26 hbk26 hok26;refine start_ (n := 23) (S := fun w' => w'.cell? (ad104.add (x7_1).toNat) = some (.slice (some ⟨go23, 0, none⟩) (rd_L10 x6_2 x7_1).length c104_0) ∧ w'.cell? (ad105.add (x7_1).toNat) = some (.slice (some ad106) (rd_L10 l0 x7_1).length c105_0) ∧ w'.cell? (ad106.add (x8_2).toNat) = some (.bool false) ∧ w'.cell? (ad110.add (x7_1).toNat) = some (.slice (some ad111) (rd_L10 l1 x7_1).length c110_0) ∧ w'.cell? (ad111.add (x8_2).toNat) = some (.bool (rdOf false (rd_L10 l1 x7_1) x8_2))) (ds := [22]) (tat07Eiter_b 23 0) (by kernel_rfl) rfl rfl ⟨hx104_0, ((HB.out.cell (World.block_lt_of_cell? w _ hw105_0)).trans hw105_0), ((HB.out.cell (World.block_lt_of_cell? w _ hw106_0)).trans hw106_0), ((HB.out.cell (World.block_lt_of_cell? w _ hw110_0)).trans hw110_0), ((HB.out.cell (World.block_lt_of_cell? w _ hw111_0)).trans hw111_0)⟩ (fun hHeld => ?_); refine with_tabW tattingref07_Either.tab9 tattingref07_Either.bits9 (fun HT_ HW_ => ?_);generalize wr.drew = w24 at HO_6 HB GG23 HL104_0 HQ26 HR104_0 HR105_0 HR110_0 HX104_0 hf23_0 hx104_0 hx105_0 hx106_0 hx110_0 hx111_0 hx23_0 hHeld ⊢;refine pure_ (i := 0) (N := some 25) (v := ?_) (a' := ?_) (tat07Eiter_b 23 1) rfl rfl (any_of HT_.out (by kernel_rfl)) (fun _ _ _ h => h) (Or.inl ⟨by rfl, ?_⟩) ?_ ?_;(rotate_left)
                ·intro w';go_simp;(with_reducible rfl)
                rotate_left
                ·simp only [Act.put, List.setIfInBounds_toArray, List.set_cons_zero, List.set_cons_succ, i64_w, i32_w];rfl
                refine pure_ (i := 1) (N := some 26) (v := ?_) (a' := ?_) (tat07Eiter_b 23 3) rfl rfl (any_of HT_.out (by kernel_rfl)) (fun _ _ _ h => h) (Or.inl ⟨by rfl, ?_⟩) ?_ ?_;(rotate_left)
                ·intro w';go_simp;(with_reducible rfl)
                rotate_left
                ·simp only [Act.put, List.setIfInBounds_toArray, List.set_cons_zero, List.set_cons_succ, i64_w, i32_w];rfl
                refine pure_ (i := 2) (N := some 27) (v := ?_) (a' := ?_) (tat07Eiter_b 23 7) rfl rfl (any_of HT_.out (by kernel_rfl)) (fun _ _ _ h => h) (Or.inl ⟨by rfl, ?_⟩) ?_ ?_;(rotate_left)
                ·intro w';go_simp;(with_reducible rfl)
                rotate_left
                ·simp only [Act.put, List.setIfInBounds_toArray, List.set_cons_zero, List.set_cons_succ, i64_w, i32_w];rfl
                refine pure_ (i := 4) (N := some 29) (v := ?_) (a' := ?_) (tat07Eiter_b 23 23) rfl rfl (any_of HT_.out (by kernel_rfl)) (fun _ _ _ h => h) (Or.inl ⟨by rfl, ?_⟩) ?_ ?_;(rotate_left)
                ·intro w';go_simp;(with_reducible rfl)
                rotate_left
                ·simp only [Act.put, List.setIfInBounds_toArray, List.set_cons_zero, List.set_cons_succ, i64_w, i32_w];rfl
                refine pure_ (i := 5) (N := some 30) (v := ?_) (a' := ?_) (tat07Eiter_b 23 55) rfl rfl (any_of HT_.out (by kernel_rfl)) (fun _ _ _ h => h) (Or.inl ⟨by rfl, ?_⟩) ?_ ?_;(rotate_left)
                ·intro w';go_simp;(with_reducible rfl)
                rotate_left
                ·simp only [Act.put, List.setIfInBounds_toArray, List.set_cons_zero, List.set_cons_succ, i64_w, i32_w];rfl
                refine pure_ (i := 6) (N := some 31) (v := ?_) (a' := ?_) (tat07Eiter_b 23 119) rfl rfl (any_of HT_.out (by kernel_rfl)) (fun _ _ _ h => h) (Or.inl ⟨by rfl, ?_⟩) ?_ ?_;(rotate_left)
                ·intro w';go_simp;(with_reducible rfl)
                rotate_left
                ·simp only [Act.put, List.setIfInBounds_toArray, List.set_cons_zero, List.set_cons_succ, i64_w, i32_w];rfl
                refine pure_ (i := 7) (N := some 32) (v := ?_) (a' := ?_) (tat07Eiter_b 23 247) rfl rfl (any_of HT_.out (by kernel_rfl)) (fun _ _ _ h => h) (Or.inl ⟨by rfl, ?_⟩) ?_ ?_;(rotate_left)
                ·intro w';go_simp;(with_reducible rfl)
                rotate_left
                ·simp only [Act.put, List.setIfInBounds_toArray, List.set_cons_zero, List.set_cons_succ, i64_w, i32_w];rfl
                refine pure_ (i := 9) (N := some 34) (v := ?_) (a' := ?_) (tat07Eiter_b 23 759) rfl rfl (any_of HT_.out (by kernel_rfl)) (fun _ _ _ h => h) (Or.inl ⟨by rfl, ?_⟩) ?_ ?_;(rotate_left)
                ·intro w';go_simp;(with_reducible rfl)
                rotate_left
                ·simp only [Act.put, List.setIfInBounds_toArray, List.set_cons_zero, List.set_cons_succ, i64_w, i32_w];rfl
                refine take_ (i := 3) (N := some 28) (v := ?_) (a' := ?_) (tat07Eiter_b 23 767) rfl rfl (take_ofW HT_.out HW_.out (by kernel_rfl)) (fun _ _ _ h => h) (Or.inl ⟨by rfl, ?_⟩) hHeld ?_ ?_;(rotate_left)
                ·rintro w' ⟨s0, s1, s2, s3, s4⟩;go_simp;(with_reducible rfl)
                rotate_left
                ·simp only [Act.put, List.setIfInBounds_toArray, List.set_cons_zero, List.set_cons_succ, i64_w, i32_w];rfl
                refine take_ (i := 8) (N := some 33) (v := ?_) (a' := ?_) (tat07Eiter_b 23 1023) rfl rfl (take_ofW HT_.out HW_.out (by kernel_rfl)) (fun _ _ _ h => h) (Or.inl ⟨by rfl, ?_⟩) hHeld ?_ ?_;(rotate_left)
                ·rintro w' ⟨s0, s1, s2, s3, s4⟩;go_simp;(with_reducible rfl)
                rotate_left
                ·simp only [Act.put, List.setIfInBounds_toArray, List.set_cons_zero, List.set_cons_succ, i64_w, i32_w];rfl
                refine pure_ (i := 10) (N := some 35) (v := ?_) (a' := ?_) (tat07Eiter_b 23 2047) rfl rfl (any_of HT_.out (by kernel_rfl)) (fun _ _ _ h => h) (Or.inl ⟨by rfl, ?_⟩) ?_ ?_;(rotate_left)
                ·intro w';go_simp;(with_reducible rfl)
                rotate_left
                ·simp only [Act.put, List.setIfInBounds_toArray, List.set_cons_zero, List.set_cons_succ, i64_w, i32_w];rfl
                refine take_ (i := 11) (N := some 36) (v := ?_) (a' := ?_) (tat07Eiter_b 23 4095) rfl rfl (take_ofW HT_.out HW_.out (by kernel_rfl)) (fun _ _ _ h => h) (Or.inl ⟨by rfl, ?_⟩) hHeld ?_ ?_;(rotate_left)
                ·rintro w' ⟨s0, s1, s2, s3, s4⟩;go_simp;(with_reducible rfl)
                rotate_left
                ·simp only [Act.put, List.setIfInBounds_toArray, List.set_cons_zero, List.set_cons_succ, i64_w, i32_w];rfl
                refine pure_ (i := 12) (N := some 37) (v := ?_) (a' := ?_) (tat07Eiter_b 23 8191) rfl rfl (any_of HT_.out (by kernel_rfl)) (fun _ _ _ h => h) (Or.inl ⟨by rfl, ?_⟩) ?_ ?_;(rotate_left)
                ·intro w';go_simp;(with_reducible rfl)
                rotate_left
                ·simp only [Act.put, List.setIfInBounds_toArray, List.set_cons_zero, List.set_cons_succ, i64_w, i32_w];rfl
                refine pure_ (i := 13) (N := some 38) (v := ?_) (a' := ?_) (tat07Eiter_b 23 16383) rfl rfl (any_of HT_.out (by kernel_rfl)) (fun _ _ _ h => h) (Or.inl ⟨by rfl, ?_⟩) ?_ ?_;(rotate_left)
                ·intro w';go_simp;(with_reducible rfl)
                rotate_left
                ·simp only [Act.put, List.setIfInBounds_toArray, List.set_cons_zero, List.set_cons_succ, i64_w, i32_w];rfl
                refine pure_ (i := 14) (N := some 39) (v := ?_) (a' := ?_) (tat07Eiter_b 23 32767) rfl rfl (any_of HT_.out (by kernel_rfl)) (fun _ _ _ h => h) (Or.inl ⟨by rfl, ?_⟩) ?_ ?_;(rotate_left)
                ·intro w';go_simp;(with_reducible rfl)
                rotate_left
                ·simp only [Act.put, List.setIfInBounds_toArray, List.set_cons_zero, List.set_cons_succ, i64_w, i32_w];rfl
                refine pure_ (i := 15) (N := some 40) (v := ?_) (a' := ?_) (tat07Eiter_b 23 65535) rfl rfl (any_of HT_.out (by kernel_rfl)) (fun _ _ _ h => h) (Or.inl ⟨by rfl, ?_⟩) ?_ ?_;(rotate_left)
                ·intro w';go_simp;(with_reducible rfl)
                rotate_left
                ·simp only [Act.put, List.setIfInBounds_toArray, List.set_cons_zero, List.set_cons_succ, i64_w, i32_w];rfl
                refine pure_ (i := 17) (N := some 42) (v := ?_) (a' := ?_) (tat07Eiter_b 23 196607) rfl rfl (any_of HT_.out (by kernel_rfl)) (fun _ _ _ h => h) (Or.inl ⟨by rfl, ?_⟩) ?_ ?_;(rotate_left)
                ·intro w';go_simp;(with_reducible rfl)
                rotate_left
                ·simp only [Act.put, List.setIfInBounds_toArray, List.set_cons_zero, List.set_cons_succ, i64_w, i32_w];rfl
                refine take_ (i := 16) (N := some 41) (v := ?_) (a' := ?_) (tat07Eiter_b 23 262143) rfl rfl (take_ofW HT_.out HW_.out (by kernel_rfl)) (fun _ _ _ h => h) (Or.inl ⟨by rfl, ?_⟩) hHeld ?_ ?_;(rotate_left)
                ·rintro w' ⟨s0, s1, s2, s3, s4⟩;go_simp;(with_reducible rfl)
                rotate_left
                ·simp only [Act.put, List.setIfInBounds_toArray, List.set_cons_zero, List.set_cons_succ, i64_w, i32_w];rfl
                refine pure_ (i := 18) (N := some 43) (v := ?_) (a' := ?_) (tat07Eiter_b 23 524287) rfl rfl (any_of HT_.out (by kernel_rfl)) (fun _ _ _ h => h) (Or.inl ⟨by rfl, ?_⟩) ?_ ?_;(rotate_left)
                ·intro w';go_simp;(with_reducible rfl)
                rotate_left
                ·simp only [Act.put, List.setIfInBounds_toArray, List.set_cons_zero, List.set_cons_succ, i64_w, i32_w];rfl
                refine take_ (i := 19) (N := some 44) (v := ?_) (a' := ?_) (tat07Eiter_b 23 1048575) rfl rfl (take_ofW HT_.out HW_.out (by kernel_rfl)) (fun _ _ _ h => h) (Or.inl ⟨by rfl, ?_⟩) hHeld ?_ ?_;(rotate_left)
                ·rintro w' ⟨s0, s1, s2, s3, s4⟩;go_simp;(with_reducible rfl)
                rotate_left
                ·simp only [Act.put, List.setIfInBounds_toArray, List.set_cons_zero, List.set_cons_succ, i64_w, i32_w];rfl
                refine pure_ (i := 20) (N := some 45) (v := ?_) (a' := ?_) (tat07Eiter_b 23 2097151) rfl rfl (any_of HT_.out (by kernel_rfl)) (fun _ _ _ h => h) (Or.inl ⟨by rfl, ?_⟩) ?_ ?_;(rotate_left)
                ·intro w';go_simp;(with_reducible rfl)
                rotate_left
                ·simp only [Act.put, List.setIfInBounds_toArray, List.set_cons_zero, List.set_cons_succ, i64_w, i32_w];rfl
                refine pure_ (i := 21) (N := some 46) (v := ?_) (a' := ?_) (tat07Eiter_b 23 4194303) rfl rfl (any_of HT_.out (by kernel_rfl)) (fun _ _ _ h => h) (Or.inl ⟨by rfl, ?_⟩) ?_ ?_;(rotate_left)
                ·intro w';go_simp;(with_reducible rfl)
                rotate_left
                ·simp only [Act.put, List.setIfInBounds_toArray, List.set_cons_zero, List.set_cons_succ, i64_w, i32_w];rfl
                refine last_ (i := 22) (N := none) (tat07Eiter_b 23 8388607) rfl rfl (one_of HT_.out (by kernel_rfl)) (by decide) (fun K hK => ?_);refine skip_ (w1 := ?_) (by rfl) rfl ?_ ?_;(rotate_left)
                ·go_simp;rfl
                refine hK.out _ _ ?_;clear hK K;refine done_ (done_of HT_.out (by kernel_rfl)) ?_;(try go_wp2);go_roundg k2
                case measure => have := HK1.out; have := HK2.out; omega
                case rel => exact ⟨(y114), (wrap64 (x8_2 + 1)), (by first | rfl | (simp; done) | (simp [*]; done)), H', ⟨by have := HK1.out; have := HK2.out; omega⟩, ⟨by (with_reducible repeat (first | apply Kd.S_alloc | apply Kd.S_drewN | apply Kd.S_drew)); exact HQ26.out⟩, ⟨by repeat (first | (with_reducible first | exact HB.out | apply below_alloc | apply pw_below_drewN | apply below_drew1 | refine below_set ?_ GB23.out) | exact HB.out)⟩⟩
               ·rw [if_neg c22] at H;exact absurd H (by simp)
              ·rw [if_neg c21] at H;exact absurd H (by simp)
             ·rw [if_neg c20] at H;exact absurd H (by simp)
           ·rw [if_neg c11] at H;exact absurd H (by simp)
          ·rw [if_neg c10] at H;exact absurd H (by simp)
         ·rw [if_neg c9] at H;exact absurd H (by simp)
        ·rw [if_neg c8] at H;exact absurd H (by simp)
       ·rw [if_neg c7] at H;exact absurd H (by simp)
      ·rw [if_neg c6] at H;have c6b0 := decide_eq_false c6;clear c6;have H' := Aside0.mk H;clear H;go_wp2;go_roundg k2
       case measure => have := HK1.out; have := HK2.out; omega
       case rel => exact ⟨(x6_2), (wrap64 (x7_1 + 1)), (by first | rfl | (simp; done) | (simp [*]; done)), H', ⟨by have := HK1.out; have := HK2.out; omega⟩, ⟨by (with_reducible repeat (first | apply Kd.S_alloc | apply Kd.S_drewN | apply Kd.S_drew)); exact HO_6.out⟩, ⟨by repeat (first | (with_reducible first | exact HB.out | apply below_alloc | apply pw_below_drewN | apply below_drew1) | exact HB.out)⟩⟩
   ·rw [if_neg c5] at H;have c5b0 := decide_eq_false c5;clear c5;obtain rfl := Option.some.inj H;go_wp2;go_ret;exact ⟨_, by first | rfl | (simp [errW_none, errW_some] <;> rfl) | (simp [*, errW_none, errW_some] <;> rfl), by (with_reducible repeat (first | apply Kd.S_alloc | apply Kd.S_drewN | apply Kd.S_drew)); exact HO_6.out, by repeat (first | (with_reducible first | exact HB.out | apply below_alloc | apply pw_below_drewN | apply below_drew1) | exact HB.out)⟩
end Go.Proofs.YtfjemaeidmikmaaDoorQ
