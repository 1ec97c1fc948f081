/- Pruned from its seat's text: what the theorem hangs on. -/
import Derived.Test.YtibabfgfahlekaaZTree6
import Derived.Test.YtibabfgfahlekaaZBase
/- The walks of the document's answer for trees: Right. -/
set_option linter.unusedVariables false
set_option linter.unusedSimpArgs false
namespace Go.Proofs.Ytibabfgfahlekaa
open Go.RowKit Go.Proofs.Bs
attribute [local go_sem] eqSet

set_option maxHeartbeats 3200000 in
set_option maxRecDepth 100000 in
theorem rright_any (A : Option Addr) (n c : Nat) (l : List Nd) (w : World) (h : Reads w 7 A n (l.flatMap Nd.cells)) (hn : n ≤ 1000000) :
    Calls Try.prog 10 #[.slice A n c] w fun e w' => e = .returned (.bool (rightB l)) ∧ Below w.heap.size w w' := by
  have hl := h.length Nd.cells Nd.cells_length (by omega)
  have HL := Lib.hid hl
  clear hl
  by_cases h0 : n = 0
  · subst h0
    go_enter Try.func10, Try.ntmps10
    go_wp2
    go_ret
    exact ⟨ret_bool (right_size l (.inl HL.out)).symm, Below.refl _ _⟩
  by_cases h5 : 512 < n
  · have hz : ((n : Int) == 0) = false := by rw [beq_eq_false_iff_ne]; omega
    go_enter Try.func10, Try.ntmps10
    go_wp2
    go_ret
    exact ⟨ret_bool (right_size l (.inr (by rw [HL.out]; exact h5))).symm, Below.refl _ _⟩
  have hz : ((n : Int) == 0) = false := by rw [beq_eq_false_iff_ne]; omega
  go_enter Try.func10, Try.ntmps10
  go_wp2_with fail
  refine (rfirsts_any A n c l _ h hn).mono ?_
  rintro e w1 ⟨Af, cf, rfl, HOf, hb1⟩
  have h1 := h.below hb1
  have hRf := Reads.of_own HOf
  go_wp2_with fail
  go_loopw [2, 4] (fun r i wr => ∃ k : Nat, r = .bool false ∧ i = .int .i64 k ∧ k ≤ n ∧ (∀ j, j < k → 0 ≤ fst1 l j ∧ fieldsB (l.getD j zNd) = true) ∧ Below w1.heap.size w1 wr) (fun _ i _ => n - (intOf i).toNat)
  case atStart => exact ⟨0, rfl, rfl, by omega, fun j hj => by omega, Below.refl _ _⟩
  case round =>
    obtain ⟨k, rfl, rfl, hk, hall, hb⟩ := hrel
    have HA := Lib.hid hall
    clear hall
    by_cases hlt : k < n
    · obtain ⟨ad, x, hA, hx, c0, c1, c2, c3, c4, c5, c6⟩ := (h1.below hb).nd hlt
      subst hA
      obtain ⟨adf, y, hAf, hy, cy⟩ := (hRf.below hb).int hlt
      subst hAf
      have hy' : y = fst1 l k := by rw [firstsTo_at l n k hlt] at hy; injection hy with hy; exact hy.symm
      have HX := Lib.hid hx
      have HY := Lib.hid hy'
      have cy' := fun o => cell_alloc cy o
      clear hx hy hy' cy
      go_wp2_with fail
      all_goals first
        | (go_ret
           have key : y < 0 ∨ fieldsB x = false := by go_light; unfold fieldsB; grind
           refine ⟨ret_bool ?_, bel_then hb1 (bel_alloc hb _)⟩
           rw [right_no l k x HX.out (by rw [← HY.out]; exact key)])
        | (go_roundw
           case rel =>
             have key : 0 ≤ y ∧ fieldsB x = true := by go_light; unfold fieldsB; grind
             refine ⟨k + 1, rfl, by go_num, by omega, fun j hj => ?_, bel_alloc hb _⟩
             rcases Nat.lt_or_ge j k with h9 | h9
             · exact HA.out j h9
             · obtain rfl : j = k := by omega
               rw [← HY.out, List.getD_eq_getElem?_getD, HX.out]
               exact key
           case measure => simp [intOf] <;> omega)
    · have hkn : k = n := by omega
      obtain ⟨adf, y, hAf, hy, cy⟩ := (hRf.below hb).int (show n - 1 < n by omega)
      subst hAf
      have hy' : y = fst1 l (n - 1) := by rw [firstsTo_at l n _ (by omega)] at hy; injection hy with hy; exact hy.symm
      have HY := Lib.hid hy'
      have HK := Lib.hid hkn
      clear hy hy' hkn
      have h1n : 1 ≤ n := by omega
      go_wp2_with fail
      go_ret
      refine ⟨ret_bool ?_, bel_then hb1 hb⟩
      have hl := HL.out
      rw [right_yes l (by omega) (by omega) (fun j hj => HA.out j (by rw [HK.out]; omega)), hl, ← HY.out]
      rfl

end Go.Proofs.Ytibabfgfahlekaa
