/- Several short texts of this proof, one behind the other. -/
import Derived.Test.YtibabfgfahlekaaHCore
import Derived.Test.YtibabfgfahlekaaHTree0
import Derived.RegionTactic
import Derived.BigRegion
import Derived.ChangeAlike
section
/- Pruned from its seat's text: what the theorem hangs on. -/
/- What the walks share: sets and nodes as values. -/
set_option linter.unusedVariables false
set_option linter.unusedSimpArgs false
namespace Go.Proofs.Ytibabfgfahlekaa
open Go.RowKit Go.Proofs.Bs

theorem isAggU64 (w : World) : (isAgg 27).run Try.prog w = .ok false w := by kernel_rfl
theorem range'_four : List.range' 0 4 = [0, 1, 2, 3] := rfl
theorem eqSet (D : Nat) (w : World) (a b c d a' b' c' d' : Int) :
    (Op.equalIn (D + 2) 29 (.agg #[.int .u64 a, .int .u64 b, .int .u64 c, .int .u64 d]) (.agg #[.int .u64 a', .int .u64 b', .int .u64 c', .int .u64 d'])).run Try.prog w = .ok (a == a' && (b == b' && (c == c' && d == d'))) w := by
  unfold Op.equalIn
  simp only [Sem.run_bind, run_underlying Try.underlying29, Result.andThen_ok]
  simp [go_sem, range'_four, isAggU64]
  by_cases h1 : a = a' <;> by_cases h2 : b = b' <;> by_cases h3 : c = c' <;> by_cases h4 : d = d' <;> simp [go_sem, isAggU64, h1, h2, h3, h4]

def Nd.cells (n : Nd) : List Value := [.int .i64 n.kind, .int .u64 n.set.a, .int .u64 n.set.b, .int .u64 n.set.c, .int .u64 n.set.d, .int .i64 n.lo, .int .i64 n.hi]
theorem Nd.cells_length (n : Nd) : n.cells.length = 7 := rfl
theorem add_field (ad : Addr) (x j : Nat) (hj : j ≠ 0) : (⟨(ad.add x).block, (ad.add x).off + j, none⟩ : Addr) = ad.add (x + j) := by
  unfold Addr.add
  by_cases hx : x = 0 <;> simp [hx, hj, Nat.add_assoc]
theorem Reads.nd {w : World} {A : Option Addr} {n : Nat} {l : List Nd} (h : Reads w 7 A n (l.flatMap Nd.cells)) {k : Nat} (hk : k < n) :
    ∃ ad x, A = some ad ∧ l[k]? = some x ∧ w.cell? (ad.add (k * 7)) = some (.int .i64 x.kind) ∧
      w.cell? ⟨(ad.add (k * 7)).block, (ad.add (k * 7)).off + 1, none⟩ = some (.int .u64 x.set.a) ∧ w.cell? ⟨(ad.add (k * 7)).block, (ad.add (k * 7)).off + 2, none⟩ = some (.int .u64 x.set.b) ∧
      w.cell? ⟨(ad.add (k * 7)).block, (ad.add (k * 7)).off + 3, none⟩ = some (.int .u64 x.set.c) ∧ w.cell? ⟨(ad.add (k * 7)).block, (ad.add (k * 7)).off + 4, none⟩ = some (.int .u64 x.set.d) ∧
      w.cell? ⟨(ad.add (k * 7)).block, (ad.add (k * 7)).off + 5, none⟩ = some (.int .i64 x.lo) ∧ w.cell? ⟨(ad.add (k * 7)).block, (ad.add (k * 7)).off + 6, none⟩ = some (.int .i64 x.hi) := by
  obtain ⟨ad, x, e, hx, hc⟩ := h.elem Nd.cells Nd.cells_length (by omega) hk
  refine ⟨ad, x, e, hx, hc 0 _ rfl, ?_, ?_, ?_, ?_, ?_, ?_⟩ <;> rw [add_field _ _ _ (by omega)]
  · exact hc 1 _ rfl
  · exact hc 2 _ rfl
  · exact hc 3 _ rfl
  · exact hc 4 _ rfl
  · exact hc 5 _ rfl
  · exact hc 6 _ rfl

end Go.Proofs.Ytibabfgfahlekaa
end
section
/- Pruned from its seat's text: what the theorem hangs on. -/
/- The walks of package tree: Args, fields, Right. -/
set_option linter.unusedVariables false
set_option linter.unusedSimpArgs false
namespace Go.Proofs.Ytibabfgfahlekaa
open Go.RowKit Go.Proofs.Bs
attribute [local go_sem] eqSet

set_option maxHeartbeats 400000 in
theorem args_any (k : Int) (w : World) : Calls Try.prog 36 #[.int .i64 k] w fun e w' => e = .returned (.int .i64 (arity k)) ∧ w = w' := by
  go_enter Try.func36, Try.ntmps36
  go_wp2
  all_goals (go_ret; exact ⟨by simp_all [arity], rfl⟩)

set_option maxHeartbeats 400000 in
theorem fields_any (n : Nd) (w : World) : Calls Try.prog 46 #[.agg #[.int .i64 n.kind, .int .u64 n.set.a, .int .u64 n.set.b, .int .u64 n.set.c, .int .u64 n.set.d, .int .i64 n.lo, .int .i64 n.hi]] w fun e w' => e = .returned (.bool (fieldsB n)) ∧ Below w.heap.size w w' := by
  go_enter Try.func46, Try.ntmps46
  go_wp2
  all_goals (go_ret; refine ⟨ret_bool ?_, (Below.refl _ _).alloc (Nat.le_refl _) _⟩)
  all_goals (unfold fieldsB; grind)

set_option maxHeartbeats 800000 in
theorem right_any (A : Option Addr) (n c : Nat) (l : List Nd) (w : World) (h : Reads w 7 A n (l.flatMap Nd.cells)) (hn : n ≤ 140737488351232) :
    Calls Try.prog 35 #[.slice A n c] w fun e w' => e = .returned (.bool (rightB l)) ∧ Below w.heap.size w w' := by
  have hl := h.length Nd.cells Nd.cells_length (by omega)
  by_cases h5 : 512 < n
  · go_enter Try.func35, Try.ntmps35
    go_wp2
    go_ret
    exact ⟨ret_bool (by unfold rightB; rw [if_pos (by omega)]), Below.refl _ _⟩
  · have HL := Lib.hid hl
    clear hl
    go_enter Try.func35, Try.ntmps35
    go_wp2
    go_loopw [2, 3, 12] (fun r o i wr => ∃ (k : Nat) (m : Int), k ≤ n ∧ r = .bool false ∧ i = .int .i64 k ∧ o = .int .i64 m ∧ 0 ≤ m ∧ m ≤ k ∧ rightFrom (l.drop k) m = rightFrom l 0 ∧ Below w.heap.size w wr) (fun _ _ i _ => n - (intOf i).toNat)
    case atStart => exact ⟨0, 0, Nat.zero_le _, rfl, rfl, rfl, by omega, by omega, rfl, Below.refl _ _⟩
    case round =>
      obtain ⟨k, m, hk, rfl, rfl, rfl, hm0, hmk, hr, hb⟩ := hrel
      have HR := Lib.hid hr
      clear hr
      by_cases hlt : k < n
      · obtain ⟨ad, x, rfl, hx, c0, c1, c2, c3, c4, c5, c6⟩ := (h.below hb).nd hlt
        have HX := Lib.hid hx
        clear hx
        have a1 := arity_lo x.kind
        have a2 := arity_hi x.kind
        go_wp2_with (first
          | (go_at_call 36; refine (args_any _ _).mono ?_; rintro e w1 ⟨rfl, rfl⟩)
          | (go_at_call 46; refine (fields_any x _).mono ?_; rintro e w1 ⟨rfl, hb1⟩))
        · go_ret
          refine ⟨ret_bool ?_, bel_then (bel_alloc hb _) hb1⟩
          have hr := HR.out
          rw [right_step HX.out, if_pos (by grind)] at hr
          unfold rightB
          rw [← hr, ite_self]
        · go_roundw
          case rel =>
            refine ⟨k + 1, m + (1 - arity x.kind), by omega, rfl, by go_num, rfl, by omega, by omega, ?_, bel_then (bel_alloc hb _) hb1⟩
            have hr := HR.out
            rw [right_step HX.out, if_neg (by grind)] at hr
            exact hr
          case measure => simp [intOf]; omega
        all_goals
          go_ret
          refine ⟨ret_bool ?_, bel_alloc hb _⟩
          have hr := HR.out
          rw [right_step HX.out, if_pos (by grind)] at hr
          unfold rightB
          rw [← hr, ite_self]
      · go_wp2_with fail
        go_ret
        refine ⟨ret_bool ?_, hb⟩
        have : k = n := by omega
        subst this
        have hr := HR.out
        rw [List.drop_eq_nil_of_le (by rw [HL.out]; omega)] at hr
        unfold rightB
        rw [if_neg (by rw [HL.out]; omega), ← hr]
        rfl

end Go.Proofs.Ytibabfgfahlekaa
end
section
/- Pruned from its seat's text: what the theorem hangs on. -/
/- The walks of package tree: First. -/
set_option linter.unusedVariables false
set_option linter.unusedSimpArgs false
namespace Go.Proofs.Ytibabfgfahlekaa
open Go.RowKit Go.Proofs.Bs

set_option maxHeartbeats 800000 in
theorem first_any (A : Option Addr) (n c : Nat) (l : List Nd) (i : Int) (w : World) (h : Reads w 7 A n (l.flatMap Nd.cells)) (hn : n ≤ 140737488351232) :
    Calls Try.prog 66 #[.slice A n c, .int .i64 i] w fun e w' => e = .returned (.int .i64 (firstI l i)) ∧ w = w' := by
  have hl := h.length Nd.cells Nd.cells_length (by omega)
  by_cases h0 : i < 0
  · have HL := Lib.hid hl
    clear hl
    go_enter Try.func66, Try.ntmps66
    go_wp2
    go_ret
    exact ⟨ret_int (by unfold firstI; rw [if_pos (by omega)]), rfl⟩
  by_cases h1 : (n : Int) ≤ i
  · have HL := Lib.hid hl
    clear hl
    go_enter Try.func66, Try.ntmps66
    go_wp2
    go_ret
    exact ⟨ret_int (by unfold firstI; rw [if_pos (by rw [HL.out]; omega)]), rfl⟩
  obtain ⟨i0, rfl⟩ := Int.eq_ofNat_of_zero_le (show 0 ≤ i by omega)
  have hi : i0 < n := by omega
  have hF : firstI l (i0 : Int) = scanDown l (i0 + 1) 1 := by unfold firstI; rw [if_neg (by rw [hl]; omega), Int.toNat_natCast]
  have HF := Lib.hid hF
  clear hF hl
  go_enter Try.func66, Try.ntmps66
  go_wp2
  go_loop [1, 5] (fun i m => ∃ (k : Nat) (q : Int), k ≤ i0 + 1 ∧ ((k = 0 ∧ i = .int .i64 (-1)) ∨ ∃ j : Nat, k = j + 1 ∧ i = .int .i64 j) ∧ m = .int .i64 q ∧ 1 ≤ q ∧ q + k ≤ i0 + 2 ∧ scanDown l k q = scanDown l (i0 + 1) 1) (fun i _ => (intOf i + 1).toNat)
  case atStart => exact ⟨i0 + 1, 1, by omega, .inr ⟨i0, rfl, rfl⟩, rfl, by omega, by omega, rfl⟩
  case round =>
    obtain ⟨k, q, hk, hi', rfl, hq, hqk, hs⟩ := hrel
    have HS := Lib.hid hs
    clear hs
    rcases hi' with ⟨hk0, rfl⟩ | ⟨j, hkj, rfl⟩
    · go_wp2
      go_ret
      subst hk0
      exact ⟨ret_int (by rw [HF.out, ← HS.out]; rfl), rfl⟩
    · have hjn : j < n := by omega
      obtain ⟨ad, x, rfl, hx, c0, c1, c2, c3, c4, c5, c6⟩ := h.nd hjn
      have HX := Lib.hid hx
      have HK := Lib.hid hkj
      clear hx hkj c1 c2 c3 c4 c5 c6
      have a1 := arity_lo x.kind
      have a2 := arity_hi x.kind
      by_cases ha : arity x.kind < 0
      · go_wp2_with (go_at_call 36; refine (args_any _ _).mono ?_; rintro e w1 ⟨rfl, rfl⟩)
        go_ret
        exact ⟨ret_int (by rw [HF.out, ← HS.out, HK.out, scan_step HX.out, if_pos ha]), rfl⟩
      · by_cases hz : q + (arity x.kind - 1) = 0
        · have HZ := Lib.hid hz
          have hz' : (q + (arity x.kind - 1) == 0) = true := by rw [beq_iff_eq]; exact hz
          clear hz
          go_wp2_with (go_at_call 36; refine (args_any _ _).mono ?_; rintro e w1 ⟨rfl, rfl⟩)
          go_ret
          exact ⟨ret_int (by rw [HF.out, ← HS.out, HK.out, scan_step HX.out, if_neg (by omega), if_pos HZ.out]), rfl⟩
        · go_wp2_with (go_at_call 36; refine (args_any _ _).mono ?_; rintro e w1 ⟨rfl, rfl⟩)
          go_round
          case rel =>
            have hk' := HK.out
            refine ⟨j, q + (arity x.kind - 1), by omega, ?_, rfl, by omega, by omega, ?_⟩
            · cases j with
              | zero => exact .inl ⟨rfl, by go_num⟩
              | succ j => exact .inr ⟨j, rfl, by go_num⟩
            · rw [← HS.out, hk', scan_step HX.out, if_neg (by omega), if_neg hz]
          case measure => simp [intOf] <;> omega

end Go.Proofs.Ytibabfgfahlekaa
end
section
/- Pruned from its seat's text: what the theorem hangs on. -/
/- The walks of package tree: Reverse of at most two, Kids. -/
set_option linter.unusedVariables false
set_option linter.unusedSimpArgs false
namespace Go.Proofs.Ytibabfgfahlekaa
open Go.RowKit Go.Proofs.Bs

set_option maxHeartbeats 800000 in
theorem rev_two (g c : Nat) (x y : Int) (w : World) (hx : w.cell? ⟨g, 0, none⟩ = some (.int .i64 x)) (hy : w.cell? ⟨g, 1, none⟩ = some (.int .i64 y)) (fx : w.frozen? ⟨g, 0, none⟩ = false) (fy : w.frozen? ⟨g, 1, none⟩ = false) :
    Calls Try.prog 67 #[.slice (some ⟨g, 0, none⟩) 2 c] w fun e w' => e = .returned (.tuple #[]) ∧ SameAs ((w.setCell ⟨g, 0, none⟩ (.int .i64 y)).setCell ⟨g, 1, none⟩ (.int .i64 x)) w' := by
  go_enter Try.func67, Try.ntmps67
  go_wp2
  go_loopw [2, 3] (fun i j wr => (i = .int .i64 0 ∧ j = .int .i64 1 ∧ wr = w) ∨ (i = .int .i64 1 ∧ j = .int .i64 0 ∧ SameAs ((w.setCell ⟨g, 0, none⟩ (.int .i64 y)).setCell ⟨g, 1, none⟩ (.int .i64 x)) wr)) (fun i _ _ => (1 - intOf i).toNat)
  case atStart => exact .inl ⟨rfl, rfl, rfl⟩
  case round =>
    rcases hrel with ⟨rfl, rfl, rfl⟩ | ⟨rfl, rfl, ha⟩
    · go_wp2
      go_region
      go_wp2
      go_roundw
      case rel => exact .inr ⟨by go_num, by go_num, rfl, rfl, rfl, rfl⟩
      case measure => simp [intOf]
    · go_wp2
      go_end0
      exact ⟨rfl, ha⟩

set_option maxHeartbeats 800000 in
theorem rev_few (n c : Nat) (A : Option Addr) (w : World) (hn : n ≤ 1) :
    Calls Try.prog 67 #[.slice A n c] w fun e w' => e = .returned (.tuple #[]) ∧ w = w' := by
  go_enter Try.func67, Try.ntmps67
  go_wp2
  go_loop [2, 3] (fun i j => i = .int .i64 0 ∧ j = .int .i64 ((n : Int) - 1)) (fun i _ => 0)
  case atStart => exact ⟨rfl, rfl⟩
  case round =>
    obtain ⟨rfl, rfl⟩ := hrel
    go_wp2
    go_end0
    exact ⟨rfl, rfl⟩

theorem rev_own (base : Nat) (xs : List Int) (A : Option Addr) (n c : Nat) (w : World) (hn : n ≤ 2) (HO : w.ownsRow base 3 1 (.slice A n c) n (ints xs)) :
    Calls Try.prog 67 #[.slice A n c] w fun e w' => e = .returned (.tuple #[]) ∧ w'.ownsRow base 3 1 (.slice A n c) n (ints xs.reverse) ∧ w.grownBy w' ((Value.slice A n c).ownBlock) := by
  have hl : xs.length = n := by have := HO.1; rw [ints_length] at this; omega
  by_cases h1 : n ≤ 1
  · refine (rev_few n c A w h1).mono ?_
    rintro e w' ⟨rfl, rfl⟩
    have : xs.reverse = xs := by
      match xs, hl with
      | [], _ => rfl
      | [x], _ => rfl
      | _ :: _ :: _, hl => simp at hl; omega
    rw [this]
    exact ⟨rfl, HO, World.grownBy.refl _ _⟩
  · obtain rfl : n = 2 := by omega
    obtain ⟨g, cap, hv, hb, hg⟩ := HO.form (by omega)
    injection hv with hv1 _ hv2
    subst hv1 hv2
    match xs, hl with
    | [x, y], _ =>
      have c0 := HO.cellAt 0 (by omega)
      have c1 := HO.cellAt 1 (by omega)
      refine (rev_two g c x y w c0 c1 (HO.frozenAt 0) (HO.frozenAt 1)).mono ?_
      rintro e w' ⟨rfl, hs⟩
      have s1 := HO.stored 0 (.int .i64 y)
      have s2 := s1.1.stored 1 (.int .i64 x)
      exact ⟨rfl, hs.row s2.1, hs.grown (s1.2.trans s2.2)⟩

end Go.Proofs.Ytibabfgfahlekaa
end
section
/- Pruned from its seat's text: what the theorem hangs on. -/
/- The walks of package tree: Kids. -/
set_option linter.unusedVariables false
set_option linter.unusedSimpArgs false
namespace Go.Proofs.Ytibabfgfahlekaa
open Go.RowKit Go.Proofs.Bs

set_option maxHeartbeats 1600000 in
theorem kids_any (A : Option Addr) (n c : Nat) (l : List Nd) (i : Int) (w : World) (h : Reads w 7 A n (l.flatMap Nd.cells)) (hn : n ≤ 140737488351232) :
    Calls Try.prog 54 #[.slice A n c, .int .i64 i] w fun e w' => ∃ A1 c1, e = .returned (.slice A1 (kidsP l i).length c1) ∧ w'.ownsRow w.heap.size 3 1 (.slice A1 (kidsP l i).length c1) (kidsP l i).length (ints (kidsP l i)) ∧ Below w.heap.size w w' := by
  have hl := h.length Nd.cells Nd.cells_length (by omega)
  by_cases hf : firstI l i < 0
  · have hk : kidsP l i = [] := by unfold kidsP; rw [if_pos hf]
    rw [hk]
    go_enter Try.func54, Try.ntmps54
    go_wp2_with (go_at_call 66; refine (first_any A n c l i _ h hn).mono ?_; rintro e w1 ⟨rfl, rfl⟩)
    go_ret
    exact ⟨none, 0, rfl, own_new, Below.refl _ _⟩
  · have hr := first_range l i
    have hi0 : 0 ≤ i := by unfold firstI at hf; split at hf <;> omega
    have hi1 : i < n := by unfold firstI at hf; split at hf <;> omega
    obtain ⟨i0, rfl⟩ := Int.eq_ofNat_of_zero_le hi0
    obtain ⟨ad, x, hA, hx, c0, c1, c2, c3, c4, c5, c6⟩ := h.nd (show i0 < n by omega)
    subst hA
    have ha0 : 0 ≤ arity x.kind := by
      unfold firstI at hf
      rw [if_neg (by omega), Int.toNat_natCast, scan_step hx] at hf
      split at hf <;> omega
    have ha2 := arity_hi x.kind
    have hkk : kidsP l (i0 : Int) = (kidsDown l (arity x.kind).toNat ((i0 : Int) - 1)).reverse := by
      unfold kidsP
      rw [if_neg hf, Int.toNat_natCast, hx]
    have HK := Lib.hid hkk
    have HX := Lib.hid hx
    have HL := Lib.hid hl
    clear hkk hx hl c1 c2 c3 c4 c5 c6
    go_enter Try.func54, Try.ntmps54
    go_wp2_with (first
      | (go_at_call 66; refine (first_any (some ad) n c l _ _ h hn).mono ?_; rintro e w1 ⟨rfl, rfl⟩)
      | (go_at_call 36; refine (args_any _ _).mono ?_; rintro e w1 ⟨rfl, rfl⟩))
    go_loopw [5, 6, 7] (fun o a r wr => ∃ (A1 : Option Addr) (c1 q m : Nat) (at_ : Int) (ys : List Int), o = .slice A1 q c1 ∧ wr.ownsRow w.heap.size 3 1 (.slice A1 q c1) q (ints ys) ∧ a = .int .i64 at_ ∧ r = .int .i64 m ∧ q + m ≤ 2 ∧ -2 ≤ at_ ∧ at_ ≤ n ∧ ys ++ kidsDown l m at_ = kidsDown l (arity x.kind).toNat ((i0 : Int) - 1) ∧ Below w.heap.size w wr) (fun _ _ r _ => (intOf r).toNat)
    case atStart => exact ⟨none, 0, 0, (arity x.kind).toNat, (i0 : Int) - 1, [], rfl, own_new, rfl, by rw [Int.toNat_of_nonneg ha0], by omega, by omega, by omega, rfl, Below.refl _ _⟩
    case round =>
      obtain ⟨A1, c1, q, m, at_, ys, rfl, HO, rfl, rfl, hqm, hat0, hat1, hys, hb⟩ := hrel
      have hq : ys.length = q := by have := HO.1; rw [ints_length] at this; omega
      have HY := Lib.hid hys
      have HQ := Lib.hid hq
      clear hys hq
      have hfr0 := (first_range l at_).1
      have hfr1 : firstI l at_ ≤ n := by have := (first_range l at_).2; have hl := HL.out; omega
      cases m with
      | zero =>
        have hk2 : kidsP l (i0 : Int) = ys.reverse := by rw [HK.out, ← HY.out]; simp [kidsDown]
        have HK2 := Lib.hid hk2
        clear hk2
        go_wp2_with (go_at_call 67; refine (rev_own w.heap.size ys A1 q c1 _ (by omega) HO).mono ?_; rintro e w1 ⟨rfl, HO1, hg1⟩)
        go_ret
        rw [HK2.out, List.length_reverse, HQ.out]
        exact ⟨A1, c1, rfl, HO1, bel_grown hb HO (Nat.le_refl _) hg1⟩
      | succ m =>
        go_wp2_with (first
          | (at_builtin; refine app_lit rfl (.tmp 24) (.tmp 26) 52 rfl w.heap.size 3 Try.underlying52 info_int rfl (by omega) (by omega) _ q (ints ys) rfl HO [.int .i64 at_] 1 1 rfl rfl rfl (by omega) hb (Nat.le_refl _) hb.size ?_; intro A2 c2 w2 HO2 hg2 hb2)
          | (go_at_call 66; refine (first_any (some ad) n c l _ _ (h.below hb2) hn).mono ?_; rintro e w3 ⟨rfl, rfl⟩))
        go_roundw
        case rel =>
          have hl := HL.out
          refine ⟨A2, c2, q + 1, m, firstI l at_ - 1, ys ++ [at_], rfl, by simpa [ints] using HO2, rfl, by go_num, by omega, by omega, by omega, ?_, hb2⟩
          have := HY.out
          rw [List.append_assoc]
          exact this
        case measure => simp [intOf] <;> omega

end Go.Proofs.Ytibabfgfahlekaa
end
