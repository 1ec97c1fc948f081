/- Pruned from its seat's text: what the theorem hangs on. -/
import Derived.Test.YtjgdpcblenahkaaDoorSQXBytesetOr
import Derived.Test.YtjgdpcblenahkaaDoorSQG
/- math/bits.OnesCount64, walked. -/
set_option linter.unusedVariables false
set_option linter.unusedSimpArgs false
namespace Go.Proofs.YtjgdpcblenahkaaDoorQ
open Go.RowKit Go.Proofs.Bs Go.Proofs.YtjgdpcblenahkaaDoor
theorem odd_part (x : Nat) (h : x ≠ 0) : ∃ k m, x = 2 ^ k * (2 * m + 1) := by
  induction x using Nat.strongRecOn with
  | _ x ih =>
    by_cases hx : x % 2 = 1
    · exact ⟨0, x / 2, by omega⟩
    · obtain ⟨k, m, e⟩ := ih (x / 2) (by omega) (by omega)
      exact ⟨k + 1, m, by rw [Nat.pow_succ]; have : x = 2 * (x / 2) := by omega
                          rw [this, e, Nat.mul_comm (2 ^ k) 2, Nat.mul_assoc]⟩
theorem odd_lt {x k m : Nat} (h : x = 2 ^ k * (2 * m + 1)) (hx : x < W) : k < 64 := by
  rcases Nat.lt_or_ge k 64 with h1 | h1
  · exact h1
  · have h2 : (2 : Nat) ^ 64 ≤ 2 ^ k := Nat.pow_le_pow_right (by decide) h1
    have h3 : 2 ^ k * 1 ≤ 2 ^ k * (2 * m + 1) := Nat.mul_le_mul_left _ (by omega)
    rw [W_eq] at hx
    omega
theorem low_one (x k m : Nat) (h : x = 2 ^ k * (2 * m + 1)) (hx : x < W) : x &&& (18446744073709551616 - x) = 2 ^ k := by
  have hk := odd_lt h hx
  have hp : 0 < 2 ^ k := Nat.two_pow_pos k
  have h1 : 1 ≤ x := by rw [h]; exact Nat.mul_pos hp (by omega)
  have e : 18446744073709551616 - x = 18446744073709551615 - (x - 1) := by omega
  have hx1 : x - 1 < W := by omega
  have e1 : x - 1 = 2 ^ k * (2 * m) + (2 ^ k - 1) := by rw [h, Nat.mul_add, Nat.mul_one]; omega
  have hlt : 18446744073709551616 - x < 18446744073709551616 := by omega
  apply Nat.eq_of_testBit_eq
  intro i
  rw [Nat.testBit_and, Nat.testBit_two_pow]
  by_cases hi : i < 64
  · rw [e, testBit_compl hx1 i hi, e1, Nat.testBit_two_pow_mul_add _ (by omega), h, low_bits]
    by_cases c : i < k
    · simp [show ¬ k ≤ i by omega, show ¬ k = i by omega]
    · rw [if_neg c]
      by_cases c2 : i = k
      · subst c2
        simp
      · obtain ⟨d, rfl⟩ : ∃ d, i = k + 1 + d := ⟨i - (k + 1), by omega⟩
        rw [show k + 1 + d - k = d + 1 by omega, Nat.testBit_succ, Nat.testBit_succ, show (2 * m + 1) / 2 = m by omega, show 2 * m / 2 = m by omega]
        simp [show ¬ k = k + 1 + d by omega]
  · have hp : (2 : Nat) ^ 64 ≤ 2 ^ i := Nat.pow_le_pow_right (by decide) (by omega)
    rw [Nat.testBit_lt_two_pow (show 18446744073709551616 - x < 2 ^ i by omega), Bool.and_false]
    simp; omega
theorem tab_all : ∀ k : Fin 64, deTab.getD (2 ^ k.val * 285870213051353865 % 18446744073709551616 / 288230376151711744) 0 = (k.val : Int) := by decide +kernel
set_option maxRecDepth 100000 in
theorem trail_walk (x k m : Nat) (h : x = 2 ^ k * (2 * m + 1)) (hx : x < W) (w : World) (hG : TabG w) : Calls Tryd.prog 55 #[.int .u64 x] w fun e w' => e = .returned (.int .i64 k) ∧ w = w' := by
  have hk := odd_lt h hx
  have hx' : x < 18446744073709551616 := hx
  have h0 : ((x : Int) == 0) = false := by
    have hp : 0 < 2 ^ k := Nat.two_pow_pos k
    have h1 : 1 ≤ x := by rw [h]; exact Nat.mul_pos hp (by omega)
    simp; omega
  have hpk : 2 ^ k < 18446744073709551616 := Nat.lt_of_lt_of_le (Nat.pow_lt_pow_right (by decide) hk) (by decide)
  obtain ⟨j, hj⟩ : ∃ j, j = 2 ^ k * 285870213051353865 % 18446744073709551616 / 288230376151711744 := ⟨_, rfl⟩
  have hj64 : j < 64 := by omega
  have ht := tab_all ⟨k, hk⟩
  simp only at ht
  rw [← hj] at ht
  have e1 : IntKind.u64.wrap (-(x : Int)) = ((18446744073709551616 - x : Nat) : Int) := by
    rw [IntKind.wrap_u64]
    simp at h0
    omega
  have e2 : bits .and .u64 (x : Int) (IntKind.u64.wrap (-(x : Int))) = ((2 ^ k : Nat) : Int) := by
    simp at h0
    rw [e1, u64_and_nat x _ hx' (by omega), low_one x k m h hx]
  have e3 : IntKind.u64.wrap (bits .and .u64 (x : Int) (IntKind.u64.wrap (-(x : Int))) * 285870213051353865) / 288230376151711744 = (j : Int) := by
    rw [e2, IntKind.wrap_u64, hj, show ((2 ^ k : Nat) : Int) * 285870213051353865 = ((2 ^ k * 285870213051353865 : Nat) : Int) by simp]
    generalize 2 ^ k * 285870213051353865 = q
    omega
  have hc := hG j hj64
  rw [ht] at hc
  have hw : wrap64 (k : Int) = k := by unfold wrap64; omega
  clear e1 e2 hj ht hpk h
  go_enter Tryd.func55, Tryd.ntmps55
  go_wp2
  go_ret
  exact ⟨rfl, rfl⟩
end Go.Proofs.YtjgdpcblenahkaaDoorQ
