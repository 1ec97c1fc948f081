/- The walks of package alpha: Firsts. -/
import Derived.Test.YtklmkkoccpobpaaAl2
set_option linter.unusedVariables false
set_option linter.unusedSimpArgs false
namespace Go.Proofs.Ytklmkkoccpobpaa
open Go.RowKit

theorem add_head (g k : Nat) : (⟨g, 0, none⟩ : Addr).add k = ⟨g, k, none⟩ := by unfold Addr.add; split <;> simp_all
theorem ints_set (l : List Int) (k : Nat) (x : Int) : (ints l).set k (.int .i64 x) = ints (l.set k x) := by simp [ints, List.map_set]

set_option maxRecDepth 100000 in
set_option maxHeartbeats 3200000 in
theorem afirsts_any (A : Option Addr) (n c : Nat) (l : List Int) (k : Int) (w : World) (h : Reads w 1 A n (ints l)) (hn : n ≤ 1000000) (hk0 : -9223372036854775808 ≤ k) (hk : k ≤ 9223372036854775807) :
    Calls Try.prog 9 #[.slice A n c, .int .i64 k] w fun e w' => ∃ A1 c1, e = .returned (.slice A1 (min k.toNat 259) c1) ∧ w'.ownsRow w.heap.size 3 1 (.slice A1 (min k.toNat 259) c1) (min k.toNat 259) (ints (Al.firstsRow (min k.toNat 259) l)) ∧ Below w.heap.size w w' := by
  have hl : l.length = n := by have := h.1; rw [ints_length] at this; omega
  have HL := Lib.hid hl
  clear hl
  generalize hM : min k.toNat 259 = M
  obtain ⟨r, hr, hrM, hr2⟩ : ∃ r : Int, (if (259 : Int) < k then 259 else k) = r ∧ (M = r.toNat) ∧ r ≤ 259 := ⟨_, rfl, by split <;> omega, by split <;> omega⟩
  have hM1 : M ≤ 259 := by omega
  have ht : (k ≤ 259 ∧ k = r) ∨ ((259 : Int) < k ∧ r = 259) := by
    by_cases c : (259 : Int) < k
    · rw [if_pos c] at hr; exact .inr ⟨c, hr.symm⟩
    · rw [if_neg c] at hr; exact .inl ⟨by omega, hr⟩
  have hA : (M : Int) ≤ max r 0 := by omega
  have hB : r ≤ M := by omega
  clear hM hr hrM
  rcases ht with ⟨c1_, rfl⟩ | ⟨c1_, rfl⟩
  all_goals
    go_enter Try.func9, Try.ntmps9
    go_wp2_with fail
    go_loopw [5, 10] (fun o i wr => ∃ (A1 : Option Addr) (c1 q : Nat), o = .slice A1 q c1 ∧ wr.ownsRow w.heap.size 3 1 (.slice A1 q c1) q (ints (List.replicate q (-1))) ∧ i = .int .i64 q ∧ q ≤ M ∧ Below w.heap.size w wr) (fun _ i _ => M - (intOf i).toNat)
    case atStart => exact ⟨none, 0, 0, rfl, own_new, rfl, by omega, Below.refl _ _⟩
    case round =>
      obtain ⟨A1, c1, q, rfl, HO, rfl, hq, hb⟩ := hrel
      by_cases hlt : q < M
      · have c2_ : (q : Int) < k := by omega
        have c3_ : (q : Int) < 259 := by omega
        go_wp2_with (at_builtin; refine app_lit rfl (.tmp 12) (.tmp 13) 22 rfl w.heap.size 3 Try.underlying22 info_int rfl (by omega) (by omega) _ q (ints (List.replicate q (-1))) rfl HO [.int .i64 (-1)] 1 1 rfl rfl rfl (by omega) hb (Nat.le_refl _) hb.size ?_; intro A3 c3 w3 HO3 hg3 hb3)
        go_roundw
        case rel =>
          refine ⟨A3, c3, q + 1, rfl, ?_, by go_num, by omega, hb3⟩
          rw [List.replicate_succ']
          simpa [ints] using HO3
        case measure => simp [intOf] <;> omega
      · obtain rfl : q = M := by omega
        clear hA
        rw [← Al.firstsRow_nil] at HO
        clear hlt hq
        go_wp2_with fail
        go_loopw [6, 7, 18] (fun _ _ k_ wx => ∃ j : Nat, k_ = .int .i64 j ∧ j ≤ n ∧ wx.ownsRow w.heap.size 3 1 (.slice A1 q c1) q (ints (Al.firstsRow q (l.take j))) ∧ Below w.heap.size w wx) (fun _ _ k_ _ => n - (intOf k_).toNat)
        case atStart => exact ⟨0, rfl, by omega, HO, hb⟩
        case round =>
          clear HO hb
          obtain ⟨j, rfl, hj, HO, hb⟩ := hrel
          by_cases hlt : j < n
          · obtain ⟨ad, x, rfl, hx, cx⟩ := (h.below hb).int hlt
            have htk := Al.take_snoc hx
            have HT := Lib.hid htk
            clear hx htk
            rcases (show x < 0 ∨ (q : Int) ≤ x ∨ (0 ≤ x ∧ x < q) by omega) with e | e | ⟨e, e'⟩
            · go_wp2_with fail
              go_roundw
              case rel =>
                refine ⟨j + 1, by go_num, by omega, ?_, hb⟩
                rw [HT.out, Al.firstsRow_same _ _ _ (.inl e)]
                exact HO
              case measure => simp [intOf] <;> omega
            · have e0 : 0 ≤ x := by omega
              go_wp2_with fail
              go_roundw
              case rel =>
                refine ⟨j + 1, by go_num, by omega, ?_, hb⟩
                rw [HT.out, Al.firstsRow_same _ _ _ (.inr (.inl e))]
                exact HO
              case measure => simp [intOf] <;> omega
            · obtain ⟨xn, rfl⟩ := Int.eq_ofNat_of_zero_le e
              have hxq : xn < q := by omega
              obtain ⟨g, cap, hv, hgb, hgl⟩ := HO.form (by omega)
              injection hv with hv1 hv2 hv3
              subst hv1 hv3
              obtain ⟨ad1, y, had, hy, cy⟩ := (Reads.of_own HO).int hxq
              injection had with had
              subst had
              have hyv : y = Al.firstAt (l.take j) xn := by
                have := Al.firstsRow_get q (l.take j) xn hxq
                rw [List.getD_eq_getElem?_getD, hy] at this
                exact this
              have fz := HO.frozenAt xn
              rw [add_head] at cy
              have HYV := Lib.hid hyv
              clear hy hyv
              rcases (show y < 0 ∨ 0 ≤ y by omega) with e2 | e2
              · have hnm : (xn : Int) ∉ l.take j := (Al.firstAt_neg _ _).1 (by rw [← HYV.out]; exact e2)
                have HN := Lib.hid hnm
                clear hnm
                go_wp2_with fail
                go_roundw
                case rel =>
                  have hjl : (l.take j).length = j := by rw [List.length_take, HL.out]; omega
                  refine ⟨j + 1, by go_num, by omega, ?_, ?_⟩
                  · rw [HT.out, Al.firstsRow_set _ _ _ HN.out, hjl, ← ints_set]
                    exact (HO.stored xn (.int .i64 (j : Int))).1
                  · exact bel_grown hb HO (Nat.le_refl _) (HO.stored xn (.int .i64 (j : Int))).2
                case measure => simp [intOf] <;> omega
              · have hm : (xn : Int) ∈ l.take j := by
                  apply Classical.byContradiction
                  intro k
                  have := (Al.firstAt_neg _ _).2 k
                  rw [← HYV.out] at this
                  omega
                have HN := Lib.hid hm
                clear hm
                go_wp2_with fail
                go_roundw
                case rel =>
                  refine ⟨j + 1, by go_num, by omega, ?_, hb⟩
                  rw [HT.out, Al.firstsRow_same _ _ _ (.inr (.inr HN.out))]
                  exact HO
                case measure => simp [intOf] <;> omega
          · obtain rfl : j = n := by omega
            go_wp2_with fail
            go_ret
            rw [List.take_of_length_le (by rw [HL.out]; omega)] at HO
            exact ⟨A1, c1, rfl, HO, hb⟩
end Go.Proofs.Ytklmkkoccpobpaa
