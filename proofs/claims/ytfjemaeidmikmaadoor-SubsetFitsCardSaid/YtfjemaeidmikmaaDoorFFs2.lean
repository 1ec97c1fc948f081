import Derived.Test.YtfjemaeidmikmaaDoorFFs1
set_option linter.unusedVariables false
set_option linter.unusedSimpArgs false
namespace Go.Proofs.YtfjemaeidmikmaaDoor
open Go.RowKit Go.Proofs.Bs
theorem fsize_no (A : Option Addr) (n c : Nat) (l : List Nd) (w : World) (h : Reads w 7 A n (l.flatMap Nd.cells)) (hn : n ≤ 1000000) (hr : rightB l = false) :
    Calls Tryd.prog 34 #[.slice A n c] w fun e w' => e = .returned (.int .i64 (-1)) ∧ Below w.heap.size w w' := by
  have HR := Lib.hid hr;clear hr;go_enter Tryd.func34, Tryd.ntmps34;go_wp2_with fail;refine (right_any A n c l _ h (by omega)).mono ?_;rw [HR.out];rintro e w1 ⟨rfl, hb1⟩;go_wp2_with fail;go_ret;exact ⟨rfl, hb1⟩
theorem kids_len {x : Nd} (ha : 0 ≤ arity x.kind) {ks : List Int} (h : ks.length = (arity x.kind).toNat) : (x.kind = 1 ∨ x.kind = 2 ∨ x.kind = 3 ∨ x.kind = 4) ∧ ks = [] ∨ (x.kind = 5 ∨ x.kind = 6) ∧ ks.length = 2 ∨ x.kind = 7 ∧ ∃ y, ks = [y] := by
  rcases kind_cases ha with ⟨hk, h0⟩ | ⟨hk, h0⟩ | ⟨hk, h0⟩
  · rw [h0] at h; exact .inl ⟨hk, List.eq_nil_of_length_eq_zero h⟩
  · rw [h0] at h; exact .inr (.inl ⟨hk, h⟩)
  · rw [h0] at h;refine .inr (.inr ⟨hk, ?_⟩)
    match ks, h with
    | [y], _ => exact ⟨y, rfl⟩
set_option maxRecDepth 100000 in
set_option maxHeartbeats 6400000 in
theorem fsize_yes (A : Option Addr) (n c : Nat) (l : List Nd) (w : World) (h : Reads w 7 A n (l.flatMap Nd.cells)) (hn : n ≤ 1000000) (hr : rightB l = true) :
    Calls Tryd.prog 34 #[.slice A n c] w fun e w' => e = .returned (.int .i64 (attr fSize l (n - 1))) ∧ Below w.heap.size w w' := by
  have hl := h.length Nd.cells Nd.cells_length (by omega);have hend := aStack_end fSize l hr;rw [hl] at hend;have HL := Lib.hid hl;have HR := Lib.hid hr;have HEND := Lib.hid hend;clear hr hl hend;go_enter Tryd.func34, Tryd.ntmps34;go_wp2_with fail;refine (right_any A n c l _ h (by omega)).mono ?_;rw [HR.out];rintro e w1 ⟨rfl, hb1⟩;have h1 := h.below hb1;go_wp2_with fail;go_loopw [3, 15] (fun s i wr => ∃ (A1 : Option Addr) (c1 q k : Nat) (ds : List Int), s = .slice A1 q c1 ∧ wr.ownsRow w1.heap.size 3 1 (.slice A1 q c1) q (ints ds) ∧ i = .int .i64 k ∧ k ≤ n ∧ q ≤ k ∧ aStack fSize l k = ds ∧ (∀ d ∈ ds, 1 ≤ d ∧ d ≤ 1048576) ∧ Below w1.heap.size w1 wr) (fun _ i _ => n - (intOf i).toNat)
  case atStart => exact ⟨none, 0, 0, 0, [], rfl, own_new, rfl, by omega, by omega, rfl, (fun d hd => by cases hd), Below.refl _ _⟩
  case round =>
    obtain ⟨A1, c1, q, k, ds, rfl, HO, rfl, hk, hqk, hs, hds, hb⟩ := hrel;(have hq : ds.length = q := by have := HO.1; rw [ints_length] at this; omega);have HS := Lib.hid hs;have HD := Lib.hid hds;have HQ := Lib.hid hq;clear hs hds hq;by_cases hlt : k < n
    · obtain ⟨ad, x, hA, hx, c0, c1_, c2, c3, c4, c5, c6⟩ := (h1.below hb).nd hlt;subst hA;have hst := stack_room l HR.out k x hx;rw [← aStack_length fSize, HS.out, HQ.out] at hst;obtain ⟨ha0, haq⟩ := hst
      have hfl : fieldsB x = true := by
        have := (((rightB_iff l).1 HR.out).2.1 k (by rw [HL.out]; exact hlt)).2;rw [List.getD_eq_getElem?_getD, hx] at this;exact this
      have hstep : aStack fSize l (k + 1) = ds.take (q - (arity x.kind).toNat) ++ [fSize x (ds.drop (q - (arity x.kind).toNat))] := by
        (have hg : l.getD k zNd = x := by rw [List.getD_eq_getElem?_getD, hx]; rfl);rw [aStack, hg, aStep, HS.out, HQ.out]
      (have hdl : (ds.drop (q - (arity x.kind).toNat)).length = (arity x.kind).toNat := by rw [List.length_drop, HQ.out]; omega);(have hdb : ∀ d ∈ ds.drop (q - (arity x.kind).toNat), 1 ≤ d ∧ d ≤ 1048576 := fun d hd => HD.out d (List.mem_of_mem_drop hd));have hpos := fSize_pos x _ hfl ha0 (by rw [hdl]; omega) hdb;have hle := fSize_le x (ds.drop (q - (arity x.kind).toNat));have hkl := kids_len ha0 hdl;obtain ⟨av, hav⟩ := Int.eq_ofNat_of_zero_le ha0;rw [hav] at hstep hdl hdb hpos hle hkl haq;rw [Int.toNat_natCast] at hstep hdl hdb hpos hle hkl haq;(have ha2 : av ≤ 2 := by have := arity_hi x.kind; omega);have HX := Lib.hid hx;have HF := Lib.hid hfl;have HST := Lib.hid hstep;have HDL := Lib.hid hdl;have HDB := Lib.hid hdb;have HKL := Lib.hid hkl;have HAV := Lib.hid hav;have HPO := Lib.hid hpos;have HLE := Lib.hid hle;clear hx hfl hstep hdl hdb hkl ha0 hpos hle hav;obtain ⟨r, rfl⟩ : ∃ r, q = r + av := ⟨q - av, by omega⟩;rw [Nat.add_sub_cancel] at HST HDL HDB HKL HPO HLE;obtain ⟨Ac, hcut, hrc⟩ := cut_from (P := Tryd.prog) 27 3 .i64 Tryd.underlying27 info_int A1 (r + av) c1 (r : Int) r rfl (by omega) (own_le HO).2;have hqc := (own_le HO).2;rw [Nat.add_sub_cancel_left] at hcut hrc;have HRC := Lib.hid hrc;clear hrc haq;go_wp2_with fail;refine (args_any _ _).mono ?_;rw [HAV.out];rintro e w2 ⟨rfl, hw2⟩;subst hw2;(have b0 : (wr.alloc (.cells #[.int .i64 x.kind, .int .u64 x.set.a, .int .u64 x.set.b, .int .u64 x.set.c, .int .u64 x.set.d, .int .i64 x.lo, .int .i64 x.hi] 71)).cell? ⟨wr.heap.size, 0, none⟩ = some (.int .i64 x.kind) := by go_simp);(have b5 : (wr.alloc (.cells #[.int .i64 x.kind, .int .u64 x.set.a, .int .u64 x.set.b, .int .u64 x.set.c, .int .u64 x.set.d, .int .i64 x.lo, .int .i64 x.hi] 71)).cell? ⟨wr.heap.size, 5, none⟩ = some (.int .i64 x.lo) := by go_simp);(have b6 : (wr.alloc (.cells #[.int .i64 x.kind, .int .u64 x.set.a, .int .u64 x.set.b, .int .u64 x.set.c, .int .u64 x.set.d, .int .i64 x.lo, .int .i64 x.hi] 71)).cell? ⟨wr.heap.size, 6, none⟩ = some (.int .i64 x.hi) := by go_simp);have hb2 := bel_alloc hb (.cells #[.int .i64 x.kind, .int .u64 x.set.a, .int .u64 x.set.b, .int .u64 x.set.c, .int .u64 x.set.d, .int .i64 x.lo, .int .i64 x.hi] 71);have HO2 := HO.alloc (.cells #[.int .i64 x.kind, .int .u64 x.set.a, .int .u64 x.set.b, .int .u64 x.set.c, .int .u64 x.set.d, .int .i64 x.lo, .int .i64 x.hi] 71);have hrd := HRC.out _ _ (Reads.of_own HO2);have htk := own_take HO2 r (by omega);rw [Nat.mul_one] at hrd htk;(have e1 : (ints ds).drop r = ints (ds.drop r) := by simp [ints, List.map_drop]);(have e2 : (ints ds).take r = ints (ds.take r) := by simp [ints, List.map_take]);rw [e1] at hrd;rw [e2] at htk;have hrs := Reads.of_own HO2;clear HRC e1 e2 HO HO2 hb c0 c1_ c2 c3 c4 c5 c6;generalize wr.alloc (.cells #[.int .i64 x.kind, .int .u64 x.set.a, .int .u64 x.set.b, .int .u64 x.set.c, .int .u64 x.set.d, .int .i64 x.lo, .int .i64 x.hi] 71) = W2 at *;go_wp2_with fail;clear hcut;go_loop [7, 29] (fun d_ j_ => ∃ (sv : Int) (j : Nat), d_ = .int .i64 sv ∧ j_ = .int .i64 j ∧ j ≤ av ∧ 2 ≤ sv ∧ sv ≤ 2 + 1048576 * j ∧ sumOf ((ds.drop r).drop j) sv = sumOf (ds.drop r) 2) (fun _ j_ => av - (intOf j_).toNat)
      case atStart => exact ⟨2, 0, rfl, rfl, by omega, by omega, by omega, rfl⟩
      case round =>
        obtain ⟨sv, j, rfl, rfl, hj, hs0, hs1, hm⟩ := hrel;have HM := Lib.hid hm;clear hm;by_cases hjl : j < av
        · obtain ⟨ad2, y, rfl, hy, cy⟩ := hrd.int hjl;have hyb := HDB.out y (List.mem_of_getElem? hy);have hy0 := hyb.1;have hy1 := hyb.2;have HY := Lib.hid hy;clear hy hyb;go_wp2_with fail;go_round
          case rel =>
            refine ⟨sv + y, j + 1, by go_num, by go_num, by omega, by omega, by omega, ?_⟩;rw [← HM.out, drop_get HY.out];rfl
          case measure => simp [intOf] <;> omega
        · (obtain rfl : j = av := by omega)
          have hsv : sv = sumOf (ds.drop r) 2 := by
            rw [← HM.out, List.drop_eq_nil_of_le (by rw [HDL.out]; omega)];rfl
          have HSV := Lib.hid hsv;clear hsv HM hj hjl;have hkl := HKL.out;rcases hkl with ⟨hk1, hdd⟩ | ⟨hk1, hdd⟩ | ⟨hk1, y, hdd⟩
          · rcases hk1 with e | e | e | e
            all_goals
              have hz0 : fSize x (ds.drop r) = min sv 1048576 := by
                rw [hdd, fSize_leaf x (by omega), HSV.out, hdd]; rfl
              have HZ := Lib.hid hz0
              rw [e] at b0
              clear hz0 hdd e
              rcases (show sv ≤ 1048576 ∨ 1048576 < sv by omega) with hz | hz
              · have hzv : fSize x (ds.drop r) = sv := by rw [HZ.out]; omega
                have HZV := Lib.hid hzv
                clear hzv
                go_wp2_with (at_builtin; refine app_lit rfl (.tmp 81) (.tmp 84) 27 rfl w1.heap.size 3 Tryd.underlying27 info_int rfl (by omega) (by omega) _ r (ints (ds.take r)) rfl htk [.int .i64 _] 1 1 rfl rfl rfl (by omega) hb2 (Nat.le_refl _) hb2.size ?_; intro A3 c3 w3 HO3 hg3 hb3)
                go_roundw
                case rel =>
                  refine ⟨A3, c3, r + 1, k + 1, ds.take r ++ [fSize x (ds.drop r)], rfl, by rw [HZV.out]; simpa [ints] using HO3, by go_num, by omega, by omega, HST.out, fun d hd => ?_, hb3⟩;rcases List.mem_append.1 hd with hd | hd
                  · exact HD.out d (List.mem_of_mem_take hd)
                  · rw [List.mem_singleton.1 hd]; exact ⟨HPO.out, HLE.out⟩
                case measure => simp [intOf] <;> omega
              · have hzv : fSize x (ds.drop r) = 1048576 := by rw [HZ.out]; omega
                have HZV := Lib.hid hzv
                clear hzv
                go_wp2_with (at_builtin; refine app_lit rfl (.tmp 81) (.tmp 84) 27 rfl w1.heap.size 3 Tryd.underlying27 info_int rfl (by omega) (by omega) _ r (ints (ds.take r)) rfl htk [.int .i64 _] 1 1 rfl rfl rfl (by omega) hb2 (Nat.le_refl _) hb2.size ?_; intro A3 c3 w3 HO3 hg3 hb3)
                go_roundw
                case rel =>
                  refine ⟨A3, c3, r + 1, k + 1, ds.take r ++ [fSize x (ds.drop r)], rfl, by rw [HZV.out]; simpa [ints] using HO3, by go_num, by omega, by omega, HST.out, fun d hd => ?_, hb3⟩;rcases List.mem_append.1 hd with hd | hd
                  · exact HD.out d (List.mem_of_mem_take hd)
                  · rw [List.mem_singleton.1 hd]; exact ⟨HPO.out, HLE.out⟩
                case measure => simp [intOf] <;> omega
          · rcases hk1 with e | e
            · have hz0 : fSize x (ds.drop r) = min (sv - 2) 1048576 := by
                rw [HSV.out]; unfold fSize; rw [if_pos e]
              have HZ := Lib.hid hz0;rw [e] at b0;clear hz0 hdd e;rcases (show sv - 2 ≤ 1048576 ∨ 1048576 < sv - 2 by omega) with hz | hz
              · (have hzv : fSize x (ds.drop r) = sv - 2 := by rw [HZ.out]; omega);have HZV := Lib.hid hzv;clear hzv;go_wp2_with (at_builtin; refine app_lit rfl (.tmp 81) (.tmp 84) 27 rfl w1.heap.size 3 Tryd.underlying27 info_int rfl (by omega) (by omega) _ r (ints (ds.take r)) rfl htk [.int .i64 _] 1 1 rfl rfl rfl (by omega) hb2 (Nat.le_refl _) hb2.size ?_; intro A3 c3 w3 HO3 hg3 hb3);go_roundw
                case rel =>
                  refine ⟨A3, c3, r + 1, k + 1, ds.take r ++ [fSize x (ds.drop r)], rfl, by rw [HZV.out]; simpa [ints] using HO3, by go_num, by omega, by omega, HST.out, fun d hd => ?_, hb3⟩;rcases List.mem_append.1 hd with hd | hd
                  · exact HD.out d (List.mem_of_mem_take hd)
                  · rw [List.mem_singleton.1 hd]; exact ⟨HPO.out, HLE.out⟩
                case measure => simp [intOf] <;> omega
              · (have hzv : fSize x (ds.drop r) = 1048576 := by rw [HZ.out]; omega);have HZV := Lib.hid hzv;clear hzv;go_wp2_with (at_builtin; refine app_lit rfl (.tmp 81) (.tmp 84) 27 rfl w1.heap.size 3 Tryd.underlying27 info_int rfl (by omega) (by omega) _ r (ints (ds.take r)) rfl htk [.int .i64 _] 1 1 rfl rfl rfl (by omega) hb2 (Nat.le_refl _) hb2.size ?_; intro A3 c3 w3 HO3 hg3 hb3);go_roundw
                case rel =>
                  refine ⟨A3, c3, r + 1, k + 1, ds.take r ++ [fSize x (ds.drop r)], rfl, by rw [HZV.out]; simpa [ints] using HO3, by go_num, by omega, by omega, HST.out, fun d hd => ?_, hb3⟩;rcases List.mem_append.1 hd with hd | hd
                  · exact HD.out d (List.mem_of_mem_take hd)
                  · rw [List.mem_singleton.1 hd]; exact ⟨HPO.out, HLE.out⟩
                case measure => simp [intOf] <;> omega
            · have hz0 : fSize x (ds.drop r) = min sv 1048576 := by
                rw [HSV.out]; unfold fSize; rw [if_neg (by omega), if_neg (by omega), if_neg (by omega)]
              have HZ := Lib.hid hz0;rw [e] at b0;clear hz0 hdd e;rcases (show sv ≤ 1048576 ∨ 1048576 < sv by omega) with hz | hz
              · (have hzv : fSize x (ds.drop r) = sv := by rw [HZ.out]; omega);have HZV := Lib.hid hzv;clear hzv;go_wp2_with (at_builtin; refine app_lit rfl (.tmp 81) (.tmp 84) 27 rfl w1.heap.size 3 Tryd.underlying27 info_int rfl (by omega) (by omega) _ r (ints (ds.take r)) rfl htk [.int .i64 _] 1 1 rfl rfl rfl (by omega) hb2 (Nat.le_refl _) hb2.size ?_; intro A3 c3 w3 HO3 hg3 hb3);go_roundw
                case rel =>
                  refine ⟨A3, c3, r + 1, k + 1, ds.take r ++ [fSize x (ds.drop r)], rfl, by rw [HZV.out]; simpa [ints] using HO3, by go_num, by omega, by omega, HST.out, fun d hd => ?_, hb3⟩;rcases List.mem_append.1 hd with hd | hd
                  · exact HD.out d (List.mem_of_mem_take hd)
                  · rw [List.mem_singleton.1 hd]; exact ⟨HPO.out, HLE.out⟩
                case measure => simp [intOf] <;> omega
              · (have hzv : fSize x (ds.drop r) = 1048576 := by rw [HZ.out]; omega);have HZV := Lib.hid hzv;clear hzv;go_wp2_with (at_builtin; refine app_lit rfl (.tmp 81) (.tmp 84) 27 rfl w1.heap.size 3 Tryd.underlying27 info_int rfl (by omega) (by omega) _ r (ints (ds.take r)) rfl htk [.int .i64 _] 1 1 rfl rfl rfl (by omega) hb2 (Nat.le_refl _) hb2.size ?_; intro A3 c3 w3 HO3 hg3 hb3);go_roundw
                case rel =>
                  refine ⟨A3, c3, r + 1, k + 1, ds.take r ++ [fSize x (ds.drop r)], rfl, by rw [HZV.out]; simpa [ints] using HO3, by go_num, by omega, by omega, HST.out, fun d hd => ?_, hb3⟩;rcases List.mem_append.1 hd with hd | hd
                  · exact HD.out d (List.mem_of_mem_take hd)
                  · rw [List.mem_singleton.1 hd]; exact ⟨HPO.out, HLE.out⟩
                case measure => simp [intOf] <;> omega
          · obtain ⟨f1, f2, f3⟩ := rep_fields HF.out hk1;(have hj1 : j = 1 := by have := HDL.out; rw [hdd] at this; exact this.symm);subst hj1;obtain ⟨ad2, y', rfl, hy', cy⟩ := hrs.int (show r < r + 1 by omega)
            have hyy : y' = y := by
              (have e1 : (ds.drop r)[0]? = ds[r]? := by rw [List.getElem?_drop]; simp);rw [hdd, hy'] at e1;injection e1 with e1;exact e1.symm
            subst hyy;have hyb := HDB.out y' (by rw [hdd]; simp);have hy0 := hyb.1;have hy1 := hyb.2;have hz1 := fSize_rep x hk1 y';rw [← hdd] at hz1;have HZ1 := Lib.hid hz1;rw [hk1] at b0;clear hyb hz1 hdd hy' hk1;rcases f3 with e | ⟨e1, e2⟩
            · (have hz0 : fSize x (ds.drop r) = min (3 + (x.lo + 1) * y') 1048576 := by rw [HZ1.out, if_pos (by omega)]);have HZ := Lib.hid hz0;have hp1 : 0 ≤ (x.lo + 1) * y' := Int.mul_nonneg (by omega) (by omega);have hp2 : (x.lo + 1) * y' ≤ 33 * 1048576 := Int.mul_le_mul (by omega) hy1 (by omega) (by omega);have wr0 : IntKind.i64.wrap (x.lo + 1) = x.lo + 1 := IntWalk.i64_in _ (by omega);have wr1 : IntKind.i64.wrap ((x.lo + 1) * y') = (x.lo + 1) * y' := IntWalk.i64_in _ (by omega);have wr2 : IntKind.i64.wrap (3 + (x.lo + 1) * y') = 3 + (x.lo + 1) * y' := IntWalk.i64_in _ (by omega);rw [e] at b6;clear hz0 e;rcases (show 3 + (x.lo + 1) * y' ≤ 1048576 ∨ 1048576 < 3 + (x.lo + 1) * y' by omega) with hz | hz
              · (have hzv : fSize x (ds.drop r) = 3 + (x.lo + 1) * y' := by rw [HZ.out]; omega);have HZV := Lib.hid hzv;clear hzv;go_wp2_with fail;go_quiet (fail);go_wp2_with (at_builtin; refine app_lit rfl (.tmp 81) (.tmp 84) 27 rfl w1.heap.size 3 Tryd.underlying27 info_int rfl (by omega) (by omega) _ r (ints (ds.take r)) rfl (own_below htk (bel_drewN (Below.refl _ _) _)) [.int .i64 _] 1 1 rfl rfl rfl (by omega) (bel_drewN hb2 _) (Nat.le_refl _) (bel_drewN hb2 0).size ?_; intro A3 c3 w3 HO3 hg3 hb3);go_roundw
                case rel =>
                  refine ⟨A3, c3, r + 1, k + 1, ds.take r ++ [fSize x (ds.drop r)], rfl, by rw [HZV.out]; simpa [ints] using HO3, by go_num, by omega, by omega, HST.out, fun d hd => ?_, hb3⟩;rcases List.mem_append.1 hd with hd | hd
                  · exact HD.out d (List.mem_of_mem_take hd)
                  · rw [List.mem_singleton.1 hd]; exact ⟨HPO.out, HLE.out⟩
                case measure => simp [intOf] <;> omega
              · (have hzv : fSize x (ds.drop r) = 1048576 := by rw [HZ.out]; omega);have HZV := Lib.hid hzv;clear hzv;go_wp2_with fail;go_quiet (fail);go_wp2_with (at_builtin; refine app_lit rfl (.tmp 81) (.tmp 84) 27 rfl w1.heap.size 3 Tryd.underlying27 info_int rfl (by omega) (by omega) _ r (ints (ds.take r)) rfl (own_below htk (bel_drewN (Below.refl _ _) _)) [.int .i64 _] 1 1 rfl rfl rfl (by omega) (bel_drewN hb2 _) (Nat.le_refl _) (bel_drewN hb2 0).size ?_; intro A3 c3 w3 HO3 hg3 hb3);go_roundw
                case rel =>
                  refine ⟨A3, c3, r + 1, k + 1, ds.take r ++ [fSize x (ds.drop r)], rfl, by rw [HZV.out]; simpa [ints] using HO3, by go_num, by omega, by omega, HST.out, fun d hd => ?_, hb3⟩;rcases List.mem_append.1 hd with hd | hd
                  · exact HD.out d (List.mem_of_mem_take hd)
                  · rw [List.mem_singleton.1 hd]; exact ⟨HPO.out, HLE.out⟩
                case measure => simp [intOf] <;> omega
            · (have hz0 : fSize x (ds.drop r) = min (2 + x.hi * y' + x.hi - x.lo) 1048576 := by rw [HZ1.out, if_neg (by omega)]);have HZ := Lib.hid hz0;have hp1 : 0 ≤ x.hi * y' := Int.mul_nonneg (by omega) (by omega);have hp2 : x.hi * y' ≤ 32 * 1048576 := Int.mul_le_mul (by omega) hy1 (by omega) (by omega);(have hp3 : ¬ x.hi < 0 := by omega);have wr1 : IntKind.i64.wrap (x.hi * y') = x.hi * y' := IntWalk.i64_in _ (by omega);have wr2 : IntKind.i64.wrap (2 + x.hi * y') = 2 + x.hi * y' := IntWalk.i64_in _ (by omega);have wr3 : IntKind.i64.wrap (2 + x.hi * y' + x.hi) = 2 + x.hi * y' + x.hi := IntWalk.i64_in _ (by omega);have wr4 : IntKind.i64.wrap (2 + x.hi * y' + x.hi - x.lo) = 2 + x.hi * y' + x.hi - x.lo := IntWalk.i64_in _ (by omega);clear hz0;rcases (show 2 + x.hi * y' + x.hi - x.lo ≤ 1048576 ∨ 1048576 < 2 + x.hi * y' + x.hi - x.lo by omega) with hz | hz
              · (have hzv : fSize x (ds.drop r) = 2 + x.hi * y' + x.hi - x.lo := by rw [HZ.out]; omega);have HZV := Lib.hid hzv;clear hzv;go_wp2_with fail;go_quiet (fail);go_wp2_with (at_builtin; refine app_lit rfl (.tmp 81) (.tmp 84) 27 rfl w1.heap.size 3 Tryd.underlying27 info_int rfl (by omega) (by omega) _ r (ints (ds.take r)) rfl (own_below htk (bel_drewN (Below.refl _ _) _)) [.int .i64 _] 1 1 rfl rfl rfl (by omega) (bel_drewN hb2 _) (Nat.le_refl _) (bel_drewN hb2 0).size ?_; intro A3 c3 w3 HO3 hg3 hb3);go_roundw
                case rel =>
                  refine ⟨A3, c3, r + 1, k + 1, ds.take r ++ [fSize x (ds.drop r)], rfl, by rw [HZV.out]; simpa [ints] using HO3, by go_num, by omega, by omega, HST.out, fun d hd => ?_, hb3⟩;rcases List.mem_append.1 hd with hd | hd
                  · exact HD.out d (List.mem_of_mem_take hd)
                  · rw [List.mem_singleton.1 hd]; exact ⟨HPO.out, HLE.out⟩
                case measure => simp [intOf] <;> omega
              · (have hzv : fSize x (ds.drop r) = 1048576 := by rw [HZ.out]; omega);have HZV := Lib.hid hzv;clear hzv;go_wp2_with fail;go_quiet (fail);go_wp2_with (at_builtin; refine app_lit rfl (.tmp 81) (.tmp 84) 27 rfl w1.heap.size 3 Tryd.underlying27 info_int rfl (by omega) (by omega) _ r (ints (ds.take r)) rfl (own_below htk (bel_drewN (Below.refl _ _) _)) [.int .i64 _] 1 1 rfl rfl rfl (by omega) (bel_drewN hb2 _) (Nat.le_refl _) (bel_drewN hb2 0).size ?_; intro A3 c3 w3 HO3 hg3 hb3);go_roundw
                case rel =>
                  refine ⟨A3, c3, r + 1, k + 1, ds.take r ++ [fSize x (ds.drop r)], rfl, by rw [HZV.out]; simpa [ints] using HO3, by go_num, by omega, by omega, HST.out, fun d hd => ?_, hb3⟩;rcases List.mem_append.1 hd with hd | hd
                  · exact HD.out d (List.mem_of_mem_take hd)
                  · rw [List.mem_singleton.1 hd]; exact ⟨HPO.out, HLE.out⟩
                case measure => simp [intOf] <;> omega
    · (obtain rfl : k = n := by omega);have hse := HEND.out;rw [HS.out] at hse;(have hq1 : q = 1 := by rw [← HQ.out, hse]; rfl);subst hq1;rw [hse] at HO;obtain ⟨ad2, y, rfl, hy, cy⟩ := (Reads.of_own HO).int (show 0 < 1 by omega);(obtain rfl : y = attr fSize l (k - 1) := by injection hy with h; exact h.symm);rw [show ad2.add 0 = ad2 from rfl] at cy;have HSE := Lib.hid hse;clear hse hy;go_wp2_with fail;go_ret;exact ⟨rfl, bel_then hb1 hb⟩
end Go.Proofs.YtfjemaeidmikmaaDoor
