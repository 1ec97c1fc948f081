/- The walks of package tree: Kids. -/
import Derived.Test.YtghkkganbhpbhaaTree3
set_option linter.unusedVariables false
set_option linter.unusedSimpArgs false
namespace Go.Proofs.Ytghkkganbhpbhaa
open Go.RowKit Go.Proofs.Bs

set_option maxHeartbeats 1600000 in
theorem kids_any (A : Option Addr) (n c : Nat) (l : List Nd) (i : Int) (w : World) (h : Reads w 7 A n (l.flatMap Nd.cells)) (hn : n ≤ 140737488351232) :
    Calls Try.prog 27 #[.slice A n c, .int .i64 i] w fun e w' => ∃ A1 c1, e = .returned (.slice A1 (kidsP l i).length c1) ∧ w'.ownsRow w.heap.size 3 1 (.slice A1 (kidsP l i).length c1) (kidsP l i).length (ints (kidsP l i)) ∧ Below w.heap.size w w' := by
  have hl := h.length Nd.cells Nd.cells_length (by omega)
  by_cases hf : firstI l i < 0
  · have hk : kidsP l i = [] := by unfold kidsP; rw [if_pos hf]
    rw [hk]
    go_enter Try.func27, Try.ntmps27
    go_wp2_with (go_at_call 29; refine (first_any A n c l i _ h hn).mono ?_; rintro e w1 ⟨rfl, rfl⟩)
    go_ret
    exact ⟨none, 0, rfl, own_new, Below.refl _ _⟩
  · have hr := first_range l i
    have hi0 : 0 ≤ i := by unfold firstI at hf; split at hf <;> omega
    have hi1 : i < n := by unfold firstI at hf; split at hf <;> omega
    obtain ⟨i0, rfl⟩ := Int.eq_ofNat_of_zero_le hi0
    obtain ⟨ad, x, hA, hx, c0, c1, c2, c3, c4, c5, c6⟩ := h.nd (show i0 < n by omega)
    subst hA
    have ha0 : 0 ≤ arity x.kind := by
      unfold firstI at hf
      rw [if_neg (by omega), Int.toNat_natCast, scan_step hx] at hf
      split at hf <;> omega
    have ha2 := arity_hi x.kind
    have hkk : kidsP l (i0 : Int) = (kidsDown l (arity x.kind).toNat ((i0 : Int) - 1)).reverse := by
      unfold kidsP
      rw [if_neg hf, Int.toNat_natCast, hx]
    have HK := Lib.hid hkk
    have HX := Lib.hid hx
    have HL := Lib.hid hl
    clear hkk hx hl c1 c2 c3 c4 c5 c6
    go_enter Try.func27, Try.ntmps27
    go_wp2_with (first
      | (go_at_call 29; refine (first_any (some ad) n c l _ _ h hn).mono ?_; rintro e w1 ⟨rfl, rfl⟩)
      | (go_at_call 24; refine (args_any _ _).mono ?_; rintro e w1 ⟨rfl, rfl⟩))
    go_loopw [5, 6, 7] (fun o a r wr => ∃ (A1 : Option Addr) (c1 q m : Nat) (at_ : Int) (ys : List Int), o = .slice A1 q c1 ∧ wr.ownsRow w.heap.size 3 1 (.slice A1 q c1) q (ints ys) ∧ a = .int .i64 at_ ∧ r = .int .i64 m ∧ q + m ≤ 2 ∧ -2 ≤ at_ ∧ at_ ≤ n ∧ ys ++ kidsDown l m at_ = kidsDown l (arity x.kind).toNat ((i0 : Int) - 1) ∧ Below w.heap.size w wr) (fun _ _ r _ => (intOf r).toNat)
    case atStart => exact ⟨none, 0, 0, (arity x.kind).toNat, (i0 : Int) - 1, [], rfl, own_new, rfl, by rw [Int.toNat_of_nonneg ha0], by omega, by omega, by omega, rfl, Below.refl _ _⟩
    case round =>
      obtain ⟨A1, c1, q, m, at_, ys, rfl, HO, rfl, rfl, hqm, hat0, hat1, hys, hb⟩ := hrel
      have hq : ys.length = q := by have := HO.1; rw [ints_length] at this; omega
      have HY := Lib.hid hys
      have HQ := Lib.hid hq
      clear hys hq
      have hfr0 := (first_range l at_).1
      have hfr1 : firstI l at_ ≤ n := by have := (first_range l at_).2; have hl := HL.out; omega
      cases m with
      | zero =>
        have hk2 : kidsP l (i0 : Int) = ys.reverse := by rw [HK.out, ← HY.out]; simp [kidsDown]
        have HK2 := Lib.hid hk2
        clear hk2
        go_wp2_with (go_at_call 55; refine (rev_own w.heap.size ys A1 q c1 _ (by omega) HO).mono ?_; rintro e w1 ⟨rfl, HO1, hg1⟩)
        go_ret
        rw [HK2.out, List.length_reverse, HQ.out]
        exact ⟨A1, c1, rfl, HO1, bel_grown hb HO (Nat.le_refl _) hg1⟩
      | succ m =>
        go_wp2_with (first
          | (at_builtin; refine app_lit rfl (.tmp 24) (.tmp 26) 22 rfl w.heap.size 3 Try.underlying22 info_int rfl (by omega) (by omega) _ q (ints ys) rfl HO [.int .i64 at_] 1 1 rfl rfl rfl (by omega) hb (Nat.le_refl _) hb.size ?_; intro A2 c2 w2 HO2 hg2 hb2)
          | (go_at_call 29; refine (first_any (some ad) n c l _ _ (h.below hb2) hn).mono ?_; rintro e w3 ⟨rfl, rfl⟩))
        go_roundw
        case rel =>
          have hl := HL.out
          refine ⟨A2, c2, q + 1, m, firstI l at_ - 1, ys ++ [at_], rfl, by simpa [ints] using HO2, rfl, by go_num, by omega, by omega, by omega, ?_, hb2⟩
          have := HY.out
          rw [List.append_assoc]
          exact this
        case measure => simp [intOf] <;> omega

end Go.Proofs.Ytghkkganbhpbhaa
