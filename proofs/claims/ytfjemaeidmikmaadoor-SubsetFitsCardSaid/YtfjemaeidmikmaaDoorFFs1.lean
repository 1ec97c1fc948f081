import Derived.Test.YtfjemaeidmikmaaDoorFM2
import Derived.Deep.RegionHeld3
set_option linter.unusedVariables false
set_option linter.unusedSimpArgs false
namespace Go.Proofs.YtfjemaeidmikmaaDoor
open Go.RowKit Go.Proofs.Bs
theorem cap20_any (a : Int) (w : World) (h0 : -9223372036854775808 ≤ a) (h1 : a ≤ 9223372036854775807) : Calls Tryd.prog 33 #[.int .i64 a] w fun e w' => e = .returned (.int .i64 (min a 1048576)) ∧ w = w' := by
  rcases (show 1048576 < a ∨ a ≤ 1048576 by omega) with h | h
  · rw [Int.min_eq_right (by omega)];go_enter Tryd.func33, Tryd.ntmps33;go_wp2;go_ret;exact ⟨rfl, rfl⟩
  · rw [Int.min_eq_left h];go_enter Tryd.func33, Tryd.ntmps33;go_wp2;go_ret;exact ⟨rfl, rfl⟩
theorem kids_two {l : List Nd} {i : Nat} {x : Nd} (hx : l[i]? = some x) (hi : i < l.length) (hf : 0 ≤ fst1 l i) (ha : arity x.kind = 2) : ∃ a b : Nat, kidsP l i = [(a : Int), (b : Int)] ∧ a < i ∧ b < i := by
  (have hlen : (kidsP l i).length = 2 := by rw [kidsP_eq l i _ hx hf, List.length_reverse, kidsDown_length, ha]; rfl);have hok := kidsP_ok l i hi hf
  match hk : kidsP l i, hlen with
  | [a, b], _ =>
    rw [hk] at hok;have h1 := hok a (by simp);have h2 := hok b (by simp);obtain ⟨a', rfl⟩ := Int.eq_ofNat_of_zero_le h1.1;obtain ⟨b', rfl⟩ := Int.eq_ofNat_of_zero_le h2.1;exact ⟨a', b', rfl, by omega, by omega⟩
theorem kids_one {l : List Nd} {i : Nat} {x : Nd} (hx : l[i]? = some x) (hi : i < l.length) (hf : 0 ≤ fst1 l i) (ha : arity x.kind = 1) : ∃ a : Nat, kidsP l i = [(a : Int)] ∧ a < i := by
  (have hlen : (kidsP l i).length = 1 := by rw [kidsP_eq l i _ hx hf, List.length_reverse, kidsDown_length, ha]; rfl);have hok := kidsP_ok l i hi hf
  match hk : kidsP l i, hlen with
  | [a], _ =>
    rw [hk] at hok;have h1 := hok a (by simp);obtain ⟨a', rfl⟩ := Int.eq_ofNat_of_zero_le h1.1;exact ⟨a', rfl, by omega⟩
theorem kids_none {l : List Nd} {i : Nat} {x : Nd} (hx : l[i]? = some x) (hf : 0 ≤ fst1 l i) (ha : arity x.kind = 0) : kidsP l i = [] := by
  (have hlen : (kidsP l i).length = 0 := by rw [kidsP_eq l i _ hx hf, List.length_reverse, kidsDown_length, ha]; rfl);exact List.eq_nil_of_length_eq_zero hlen
set_option maxRecDepth 100000 in
set_option maxHeartbeats 3200000 in
theorem rsize_any (A : Option Addr) (n c : Nat) (l : List Nd) (hn : n ≤ 1000000) (hR : rightB l = true) (i : Nat) : ∀ (w : World) (h : Reads w 7 A n (l.flatMap Nd.cells)) (hi : i < n),
    Calls Tryd.prog 14 #[.slice A n c, .int .i64 i] w fun e w' => e = .returned (.int .i64 (attr fSize l i)) ∧ Below w.heap.size w w' := by
  induction i using Nat.strongRecOn with
  | ind i ih =>
    intro w h hi;have hl := h.length Nd.cells Nd.cells_length (by omega);have hall := ((rightB_iff l).1 hR).2.1;have hf := (hall i (by omega)).1;have hfields := (hall i (by omega)).2;have hx : l[i]? = some l[i] := List.getElem?_eq_getElem (by omega);(have hg : l.getD i zNd = l[i] := by rw [List.getD_eq_getElem?_getD, hx]; rfl);have ha := (stack_room l hR i _ hx).1;have hae := attr_eq fSize l i (by omega) hf;(have hbd := fun j hj => size_bound l hR j hj);rw [hg] at hae hfields;obtain ⟨ad, y, rfl, hy, c0, c1, c2, c3, c4, c5, c6⟩ := h.nd hi;generalize l[i] = x at hx hg ha hae hfields;obtain rfl : x = y := Option.some.inj (hx.symm.trans hy);(have HI : i < l.length := by omega);rcases kind_cases ha with ⟨hk, h0⟩ | ⟨hk, h0⟩ | ⟨hk, h0⟩
    · have hks := kids_none hx hf h0;rw [hks, List.map_nil, fSize_leaf x hk] at hae;rw [hae];have HF := Lib.hid hf;have HKS := Lib.hid hks;clear hl hall hf hfields hx hg ha hae hbd hy h0 hR ih hks c1 c2 c3 c4 c5 c6;rcases hk with e | e | e | e
      all_goals
        rw [e] at c0
        go_enter Tryd.func14, Tryd.ntmps14
        go_wp2_with fail
        refine (rkids_any _ n c l i _ h hn hi HF.out).mono ?_
        rintro e w1 ⟨A1, c1, rfl, HO, hb1⟩
        have d0 := cell_below hb1 c0
        go_wp2_with fail
        go_ret
        exact ⟨rfl, hb1⟩
    · obtain ⟨a, b, hks, hai, hbi⟩ := kids_two hx HI hf h0
      have hae5 : x.kind = 5 → attr fSize l i = min (attr fSize l a + attr fSize l b) 1048576 := fun e => by
        rw [hae, hks]; exact fSize_cat x e _ _
      have hae6 : x.kind = 6 → attr fSize l i = min (attr fSize l a + attr fSize l b + 2) 1048576 := fun e => by
        rw [hae, hks]; exact fSize_or x e _ _
      (have Ia := fun w h => ih a hai w h (by omega));(have Ib := fun w h => ih b hbi w h (by omega));obtain ⟨sa1, sa2⟩ := hbd a (by omega);obtain ⟨sb1, sb2⟩ := hbd b (by omega);(have hrk := fun w h => rkids_any (some ad) n c l i w h hn hi hf);rw [hks] at hrk;generalize attr fSize l i = R at *;generalize attr fSize l a = sa at *;generalize attr fSize l b = sb at *;have HIA := Lib.hid Ia;have HIB := Lib.hid Ib;have HK := Lib.hid hrk;have HE5 := Lib.hid hae5;have HE6 := Lib.hid hae6;clear hl hall hf hfields hx hg ha hae hbd hy h0 hR ih hks c1 c2 c3 c4 c5 c6 Ia Ib hrk hae5 hae6 HI;have wr1 : IntKind.i64.wrap (sa + sb) = sa + sb := IntWalk.i64_in _ (by omega);have wr2 : IntKind.i64.wrap (sa + sb + 2) = sa + sb + 2 := IntWalk.i64_in _ (by omega);rcases hk with e | e
      all_goals
        rw [e] at c0
        go_enter Tryd.func14, Tryd.ntmps14
        go_wp2_with fail
        refine (HK.out _ h).mono ?_
        rintro e w1 ⟨A1, c1, rfl, HO, hb1⟩
        have d0 := cell_below hb1 c0
        have h1 := h.below hb1
        obtain ⟨bd, y0, rfl, hy0, cy0⟩ := (Reads.of_own HO).int (show 0 < [(a : Int), (b : Int)].length by simp)
        obtain ⟨bd', y1, hbd, hy1, cy1⟩ := (Reads.of_own HO).int (show 1 < [(a : Int), (b : Int)].length by simp)
        injection hbd with hbd
        subst hbd
        obtain rfl : y0 = a := by injection hy0 with q; exact q.symm
        obtain rfl : y1 = b := by injection hy1 with q; exact q.symm
        rw [show bd.add 0 = bd from rfl] at cy0
        rw [show bd.add 1 = ⟨bd.block, bd.off + 1, none⟩ from rfl] at cy1
        clear hy0 hy1 HO
        have CA : ∀ W, Below w1.heap.size w1 W → Calls Tryd.prog 14 #[.slice (some ad) n c, .int .i64 (a : Int)] W fun e w' => e = .returned (.int .i64 sa) ∧ Below W.heap.size W w' := fun W hW => HIA.out W (h1.below hW)
        have CB : ∀ W, Below w1.heap.size w1 W → Calls Tryd.prog 14 #[.slice (some ad) n c, .int .i64 (b : Int)] W fun e w' => e = .returned (.int .i64 sb) ∧ Below W.heap.size W w' := fun W hW => HIB.out W (h1.below hW)
        have keepS : ∀ w', Below w1.heap.size w1 w' → (w'.cell? bd = some (.int .i64 (a : Int)) ∧ w'.cell? ⟨bd.block, bd.off + 1, none⟩ = some (.int .i64 (b : Int)) ∧ Below w1.heap.size w1 w') := fun w' hX => ⟨cell_below hX cy0, cell_below hX cy1, hX⟩
        have HCA := Lib.hid CA
        have HCB := Lib.hid CB
        clear CA CB h c0
        go_wp2_with fail
        go_region_held3 (fun w' => w'.cell? bd = some (.int .i64 (a : Int)) ∧ w'.cell? ⟨bd.block, bd.off + 1, none⟩ = some (.int .i64 (b : Int)) ∧ Below w1.heap.size w1 w')
          (first | exact keepS _ hX | exact keepS _ (bel_drew (Below.refl _ _)))
          (first
            | (go_at_call_of 14 (Value.int .i64 (a : Int)); refine (HCA.out _ (by first | assumption | exact bel_drew (Below.refl _ _))).mono ?_; rintro e w' ⟨rfl, hb⟩; have hX : Below w1.heap.size w1 w' := (by first | exact bel_then (show Below w1.heap.size w1 _ by assumption) hb | exact bel_then (bel_drew (Below.refl _ _)) hb))
            | (go_at_call_of 14 (Value.int .i64 (b : Int)); refine (HCB.out _ (by first | assumption | exact bel_drew (Below.refl _ _))).mono ?_; rintro e w' ⟨rfl, hb⟩; have hX : Below w1.heap.size w1 w' := (by first | exact bel_then (show Below w1.heap.size w1 _ by assumption) hb | exact bel_then (bel_drew (Below.refl _ _)) hb))
            | (go_at_call 33; refine (cap20_any _ _ (by omega) (by omega)).mono ?_; rintro e w' ⟨rfl, hw⟩; subst hw))
        all_goals
          go_wp2_with fail
          go_ret
          first
          | exact ⟨ret_int (HE5.out (by assumption)).symm, bel_then hb1 hX⟩
          | exact ⟨ret_int (HE6.out (by assumption)).symm, bel_then hb1 hX⟩
    · obtain ⟨a, hks, hai⟩ := kids_one hx HI hf h0
      have hae7 : attr fSize l i = min (if x.hi < 0 then 3 + (x.lo + 1) * attr fSize l a else 2 + x.hi * attr fSize l a + x.hi - x.lo) 1048576 := by
        rw [hae, hks]; exact fSize_rep x hk _
      (have Ia := fun w h => ih a hai w h (by omega));obtain ⟨sa1, sa2⟩ := hbd a (by omega);(have hrk := fun w h => rkids_any (some ad) n c l i w h hn hi hf);obtain ⟨f1, f2, f3⟩ := rep_fields hfields hk;rw [hks] at hrk;rw [hk] at c0;generalize attr fSize l i = R at *;generalize attr fSize l a = s at *;have HIA := Lib.hid Ia;have HK := Lib.hid hrk;clear hl hall hf hfields hg ha hae hbd hy h0 hR ih hks c1 c2 c3 c4 Ia hrk HI hx hk;obtain ⟨k, xs, lo, hv⟩ := x;simp only at f1 f2 f3 hae7 c5 c6;obtain ⟨q, rfl⟩ := Int.eq_ofNat_of_zero_le f1
      have mulb : ∀ j : Nat, j ≤ 32 → 0 ≤ (j : Int) * s ∧ (j : Int) * s ≤ 33554432 := fun j hj => by
        refine ⟨Int.mul_nonneg (by omega) (by omega), ?_⟩;have := Int.mul_le_mul (show (j : Int) ≤ 32 by omega) sa2 (by omega) (by omega);omega
      (have mula : ∀ j : Nat, ((j + 1 : Nat) : Int) * s = j * s + s := fun j => by rw [Int.natCast_add, Int.add_mul]; simp);have HB := Lib.hid mulb;have HA := Lib.hid mula;have HE := Lib.hid hae7;clear mulb mula hae7;have hqm := HB.out q (by omega);have hq1 := hqm.1;have hq2 := hqm.2;clear hqm;rcases f3 with rfl | ⟨f3, f4⟩
      · go_enter Tryd.func14, Tryd.ntmps14;go_wp2_with fail;refine (HK.out _ h).mono ?_;rintro e w1 ⟨A1, c1, rfl, HO, hb1⟩;have d0 := cell_below hb1 c0;have h1 := h.below hb1;obtain ⟨bd, y0, rfl, hy0, cy0⟩ := (Reads.of_own HO).int (show 0 < [(a : Int)].length by simp);(obtain rfl : y0 = a := by injection hy0 with q; exact q.symm);rw [show bd.add 0 = bd from rfl] at cy0;clear hy0 HO;go_wp2_with fail;refine (HIA.out _ h1).mono ?_;rintro e w2 ⟨rfl, hb2⟩;have hb02 := bel_then hb1 hb2;have d5 := cell_below hb02 c5;have d6 := cell_below hb02 c6;clear h h1 c0 c5 c6 d0 cy0 hb1 hb2;go_wp2_with fail;go_loop [7, 8] (fun n_ j_ => ∃ (j : Nat) (nv : Int), n_ = .int .i64 nv ∧ j_ = .int .i64 j ∧ j ≤ q ∧ nv = 2 + j * s) (fun _ j_ => q - (intOf j_).toNat)
        case atStart => exact ⟨0, 2, rfl, rfl, by omega, by simp⟩
        case round =>
          obtain ⟨j, nv, rfl, rfl, hj, hnv⟩ := hrel;have hjm := HB.out j (by omega);(have hn1 : 2 ≤ nv := by omega);(have hn2 : nv ≤ 33554434 := by omega);have HN := Lib.hid hnv;clear hnv hjm;by_cases hjq : j < q
          · go_wp2_with fail;go_round
            case rel =>
              refine ⟨j + 1, nv + s, by go_num, by go_num, by omega, ?_⟩;rw [HA.out, HN.out]; omega
            case measure => simp [intOf] <;> omega
          · (obtain rfl : j = q := by omega);go_wp2_with fail;go_loop [7, 9] (fun n_ j_ => n_ = .int .i64 (nv + s + 1) ∧ j_ = .int .i64 (j : Int)) (fun _ _ => 0)
            case atStart => exact ⟨by first | rfl | go_num, rfl⟩
            case round =>
              obtain ⟨rfl, rfl⟩ := hrel;go_wp2_with fail;refine (cap20_any _ _ (by omega) (by omega)).mono ?_;rintro e w' ⟨rfl, hw⟩;subst hw;go_wp2_with fail;go_ret;refine ⟨ret_int ?_, hb02⟩;rw [HE.out, if_pos (by omega), HN.out, Int.add_mul];congr 1;omega
      · obtain ⟨r, rfl⟩ := Int.eq_ofNat_of_zero_le (show 0 ≤ hv by omega);go_enter Tryd.func14, Tryd.ntmps14;go_wp2_with fail;refine (HK.out _ h).mono ?_;rintro e w1 ⟨A1, c1, rfl, HO, hb1⟩;have d0 := cell_below hb1 c0;have h1 := h.below hb1;obtain ⟨bd, y0, rfl, hy0, cy0⟩ := (Reads.of_own HO).int (show 0 < [(a : Int)].length by simp);(obtain rfl : y0 = a := by injection hy0 with q; exact q.symm);rw [show bd.add 0 = bd from rfl] at cy0;clear hy0 HO;go_wp2_with fail;refine (HIA.out _ h1).mono ?_;rintro e w2 ⟨rfl, hb2⟩;have hb02 := bel_then hb1 hb2;have d5 := cell_below hb02 c5;have d6 := cell_below hb02 c6;(have hm1 : ((r : Int) == -1) = false := by rw [beq_eq_false_iff_ne]; omega);(have hm2 : ¬ ((r : Int) = -1) := by omega);clear h h1 c0 c5 c6 d0 cy0 hb1 hb2;go_wp2_with fail;go_loop [7, 8] (fun n_ j_ => ∃ (j : Nat) (nv : Int), n_ = .int .i64 nv ∧ j_ = .int .i64 j ∧ j ≤ q ∧ nv = 2 + j * s) (fun _ j_ => q - (intOf j_).toNat)
        case atStart => exact ⟨0, 2, rfl, rfl, by omega, by simp⟩
        case round =>
          obtain ⟨j, nv, rfl, rfl, hj, hnv⟩ := hrel;have hjm := HB.out j (by omega);(have hn1 : 2 ≤ nv := by omega);(have hn2 : nv ≤ 33554434 := by omega);have HN := Lib.hid hnv;clear hnv hjm;by_cases hjq : j < q
          · go_wp2_with fail;go_round
            case rel =>
              refine ⟨j + 1, nv + s, by go_num, by go_num, by omega, ?_⟩;rw [HA.out, HN.out]; omega
            case measure => simp [intOf] <;> omega
          · (obtain rfl : j = q := by omega);go_wp2_with fail;go_loop [7, 9] (fun n_ j_ => ∃ (m : Nat) (mv : Int), n_ = .int .i64 mv ∧ j_ = .int .i64 m ∧ j ≤ m ∧ m ≤ r ∧ mv = 2 + m * s + (m - j)) (fun _ j_ => r - (intOf j_).toNat)
            case atStart => exact ⟨j, nv, rfl, rfl, by omega, by omega, by rw [HN.out]; omega⟩
            case round =>
              clear HN hn1 hn2;obtain ⟨m, mv, rfl, rfl, hjm, hmr, hmv⟩ := hrel;have hjb := HB.out m (by omega);(have hn1 : 2 ≤ mv := by omega);(have hn2 : mv ≤ 33554500 := by omega);have HN := Lib.hid hmv;clear hmv hjb;by_cases hmq : m < r
              · go_wp2_with fail;go_round
                case rel =>
                  refine ⟨m + 1, mv + s + 1, by go_num, by go_num, by omega, by omega, ?_⟩;rw [HA.out, HN.out]; omega
                case measure => simp [intOf] <;> omega
              · (obtain rfl : m = r := by omega);go_wp2_with fail;refine (cap20_any _ _ (by omega) (by omega)).mono ?_;rintro e w' ⟨rfl, hw⟩;subst hw;go_wp2_with fail;go_ret;refine ⟨ret_int ?_, hb02⟩;rw [HE.out, if_neg (by omega), HN.out];congr 1;omega
end Go.Proofs.YtfjemaeidmikmaaDoor
