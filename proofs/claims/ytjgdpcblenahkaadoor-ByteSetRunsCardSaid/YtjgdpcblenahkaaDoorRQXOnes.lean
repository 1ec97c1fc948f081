/- Pruned from its seat's text: what the theorem hangs on. -/
import Derived.Test.YtjgdpcblenahkaaDoorRQXBytesetOr
import Derived.Test.YtjgdpcblenahkaaDoorRBsCount
import Derived.Test.YtjgdpcblenahkaaDoorRQG
/- math/bits.OnesCount64, walked. -/
set_option linter.unusedVariables false
set_option linter.unusedSimpArgs false
namespace Go.Proofs.YtjgdpcblenahkaaDoorQ
open Go.RowKit Go.Proofs.Bs Go.Proofs.YtjgdpcblenahkaaDoor
theorem ofInt_wrap (n : Nat) (hn : n < 18446744073709551616) : (BitVec.ofInt 64 (IntKind.i64.wrap (n : Int))).toNat = n := by
  rw [BitVec.toNat_ofInt]
  simp only [IntKind.wrap, IntKind.bits, IntKind.signed, Bool.true_and, decide_eq_true_eq, Nat.reducePow, Int.reducePow, Nat.reduceSub]
  split <;> omega
theorem i64_low7 (n : Nat) (hn : n < 18446744073709551616) : bits .and .i64 (IntKind.i64.wrap (n : Int)) 127 = ((n &&& 127 : Nat) : Int) := by
  have hx : n &&& 127 < 2 ^ 7 := Nat.and_lt_two_pow _ (by omega)
  show IntKind.i64.wrap ((BitVec.ofInt 64 (IntKind.i64.wrap (n : Int)) &&& BitVec.ofInt 64 127).toNat : Int) = _
  have h2 : (BitVec.ofInt 64 127).toNat = 127 := by decide
  rw [BitVec.toNat_and, ofInt_wrap n hn, h2]
  generalize n &&& 127 = m at *
  have hx : m < 128 := hx
  rw [IntKind.wrap_i64]
  omega
theorem u64_and_lit (x m : Nat) (hx : x < 18446744073709551616) (hm : m < 18446744073709551616) (a b : Int) (ha : a = x) (hb : b = m) : bits .and .u64 a b = ((x &&& m : Nat) : Int) := by
  rw [ha, hb]; exact u64_and_nat x m hx hm
theorem u64_wrap_nat (x : Nat) (hx : x < 18446744073709551616) (a : Int) (h : a = x) : IntKind.u64.wrap a = (x : Int) := by
  rw [h, IntKind.wrap_u64]; omega
theorem shr_le (x n : Nat) : x >>> n ≤ x := by rw [Nat.shiftRight_eq_div_pow]; exact Nat.div_le_self _ _
set_option maxRecDepth 100000 in
theorem ones_walk (x : Nat) (hx : x < W) (w : World) : Calls Tryd.prog 57 #[.int .u64 x] w fun e w' => e = .returned (.int .i64 (cnt 64 x : Nat)) ∧ w = w' := by
  obtain ⟨x1, h1⟩ : ∃ y, y = (x >>> 1 &&& 6148914691236517205) + (x &&& 6148914691236517205) := ⟨_, rfl⟩
  obtain ⟨x2, h2⟩ : ∃ y, y = (x1 >>> 2 &&& 3689348814741910323) + (x1 &&& 3689348814741910323) := ⟨_, rfl⟩
  obtain ⟨x3, h3⟩ : ∃ y, y = (x2 >>> 4 + x2) &&& 1085102592571150095 := ⟨_, rfl⟩
  obtain ⟨x4, h4⟩ : ∃ y, y = x3 + x3 >>> 8 := ⟨_, rfl⟩
  obtain ⟨x5, h5⟩ : ∃ y, y = x4 + x4 >>> 16 := ⟨_, rfl⟩
  have hx' : x < 18446744073709551616 := hx
  obtain ⟨hc, b1, b2, b3, b4, b5, b6⟩ := count64 x hx' x1 x2 x3 x4 x5 h1 h2 h3 h4 h5
  have s1 := shr_le x 1
  have s2 := shr_le x1 2
  have s3 := shr_le x2 4
  have e1 : IntKind.u64.wrap (bits .and .u64 ((x : Int) / 2) 6148914691236517205 + bits .and .u64 (x : Int) 6148914691236517205) = (x1 : Int) := by
    rw [u64_and_lit (x >>> 1) 6148914691236517205 (by omega) (by decide) ((x : Int) / 2) 6148914691236517205 (by rw [Nat.shiftRight_eq_div_pow]; simp) rfl, u64_and_lit x 6148914691236517205 hx' (by decide) (x : Int) 6148914691236517205 rfl rfl]
    exact u64_wrap_nat x1 b1 _ (by rw [h1]; omega)
  have e2 : IntKind.u64.wrap (bits .and .u64 ((x1 : Int) / 4) 3689348814741910323 + bits .and .u64 (x1 : Int) 3689348814741910323) = (x2 : Int) := by
    rw [u64_and_lit (x1 >>> 2) 3689348814741910323 (by omega) (by decide) ((x1 : Int) / 4) 3689348814741910323 (by rw [Nat.shiftRight_eq_div_pow]; simp) rfl, u64_and_lit x1 3689348814741910323 b1 (by decide) (x1 : Int) 3689348814741910323 rfl rfl]
    exact u64_wrap_nat x2 b2 _ (by rw [h2]; omega)
  have e3 : bits .and .u64 (IntKind.u64.wrap ((x2 : Int) / 16 + (x2 : Int))) 1085102592571150095 = (x3 : Int) := by
    rw [u64_and_lit (x2 >>> 4 + x2) 1085102592571150095 b3 (by decide) (IntKind.u64.wrap ((x2 : Int) / 16 + (x2 : Int))) 1085102592571150095 (u64_wrap_nat _ b3 _ (by rw [Nat.shiftRight_eq_div_pow]; simp)) rfl, h3]
  have e4 : IntKind.u64.wrap ((x3 : Int) + (x3 : Int) / 256) = (x4 : Int) := u64_wrap_nat _ b4 _ (by rw [h4, Nat.shiftRight_eq_div_pow]; simp)
  have e5 : IntKind.u64.wrap ((x4 : Int) + (x4 : Int) / 65536) = (x5 : Int) := u64_wrap_nat _ b5 _ (by rw [h5, Nat.shiftRight_eq_div_pow]; simp)
  have e6 : IntKind.u64.wrap ((x5 : Int) + (x5 : Int) / 4294967296) = ((x5 + x5 >>> 32 : Nat) : Int) := u64_wrap_nat _ b6 _ (by rw [Nat.shiftRight_eq_div_pow]; simp)
  have e7 := i64_low7 _ b6
  rw [hc] at e7
  rw [Go.Proofs.YtjgdpcblenahkaaDoorW.PrintLast.i64_w] at e7
  have E1 := Lib.hid e1
  have E2 := Lib.hid e2
  have E3 := Lib.hid e3
  have E4 := Lib.hid e4
  have E5 := Lib.hid e5
  have E6 := Lib.hid e6
  have E7 := Lib.hid e7
  clear e1 e2 e3 e4 e5 e6 e7 h1 h2 h3 h4 h5 b1 b2 b3 b4 b5 b6 s1 s2 s3 hc
  go_enter Tryd.func57, Tryd.ntmps57
  go_wp2
  go_ret
  refine ⟨ret_int ?_, rfl⟩
  rw [E1.out, E2.out, E3.out, E4.out, E5.out, E6.out]
  exact E7.out
theorem odd_part (x : Nat) (h : x ≠ 0) : ∃ k m, x = 2 ^ k * (2 * m + 1) := by
  induction x using Nat.strongRecOn with
  | _ x ih =>
    by_cases hx : x % 2 = 1
    · exact ⟨0, x / 2, by omega⟩
    · obtain ⟨k, m, e⟩ := ih (x / 2) (by omega) (by omega)
      exact ⟨k + 1, m, by rw [Nat.pow_succ]; have : x = 2 * (x / 2) := by omega
                          rw [this, e, Nat.mul_comm (2 ^ k) 2, Nat.mul_assoc]⟩
theorem odd_lt {x k m : Nat} (h : x = 2 ^ k * (2 * m + 1)) (hx : x < W) : k < 64 := by
  rcases Nat.lt_or_ge k 64 with h1 | h1
  · exact h1
  · have h2 : (2 : Nat) ^ 64 ≤ 2 ^ k := Nat.pow_le_pow_right (by decide) h1
    have h3 : 2 ^ k * 1 ≤ 2 ^ k * (2 * m + 1) := Nat.mul_le_mul_left _ (by omega)
    rw [W_eq] at hx
    omega
theorem low_one (x k m : Nat) (h : x = 2 ^ k * (2 * m + 1)) (hx : x < W) : x &&& (18446744073709551616 - x) = 2 ^ k := by
  have hk := odd_lt h hx
  have hp : 0 < 2 ^ k := Nat.two_pow_pos k
  have h1 : 1 ≤ x := by rw [h]; exact Nat.mul_pos hp (by omega)
  have e : 18446744073709551616 - x = 18446744073709551615 - (x - 1) := by omega
  have hx1 : x - 1 < W := by omega
  have e1 : x - 1 = 2 ^ k * (2 * m) + (2 ^ k - 1) := by rw [h, Nat.mul_add, Nat.mul_one]; omega
  have hlt : 18446744073709551616 - x < 18446744073709551616 := by omega
  apply Nat.eq_of_testBit_eq
  intro i
  rw [Nat.testBit_and, Nat.testBit_two_pow]
  by_cases hi : i < 64
  · rw [e, testBit_compl hx1 i hi, e1, Nat.testBit_two_pow_mul_add _ (by omega), h, low_bits]
    by_cases c : i < k
    · simp [show ¬ k ≤ i by omega, show ¬ k = i by omega]
    · rw [if_neg c]
      by_cases c2 : i = k
      · subst c2
        simp
      · obtain ⟨d, rfl⟩ : ∃ d, i = k + 1 + d := ⟨i - (k + 1), by omega⟩
        rw [show k + 1 + d - k = d + 1 by omega, Nat.testBit_succ, Nat.testBit_succ, show (2 * m + 1) / 2 = m by omega, show 2 * m / 2 = m by omega]
        simp [show ¬ k = k + 1 + d by omega]
  · have hp : (2 : Nat) ^ 64 ≤ 2 ^ i := Nat.pow_le_pow_right (by decide) (by omega)
    rw [Nat.testBit_lt_two_pow (show 18446744073709551616 - x < 2 ^ i by omega), Bool.and_false]
    simp; omega
theorem tab_all : ∀ k : Fin 64, deTab.getD (2 ^ k.val * 285870213051353865 % 18446744073709551616 / 288230376151711744) 0 = (k.val : Int) := by decide +kernel
set_option maxRecDepth 100000 in
theorem trail_walk (x k m : Nat) (h : x = 2 ^ k * (2 * m + 1)) (hx : x < W) (w : World) (hG : TabG w) : Calls Tryd.prog 55 #[.int .u64 x] w fun e w' => e = .returned (.int .i64 k) ∧ w = w' := by
  have hk := odd_lt h hx
  have hx' : x < 18446744073709551616 := hx
  have h0 : ((x : Int) == 0) = false := by
    have hp : 0 < 2 ^ k := Nat.two_pow_pos k
    have h1 : 1 ≤ x := by rw [h]; exact Nat.mul_pos hp (by omega)
    simp; omega
  have hpk : 2 ^ k < 18446744073709551616 := Nat.lt_of_lt_of_le (Nat.pow_lt_pow_right (by decide) hk) (by decide)
  obtain ⟨j, hj⟩ : ∃ j, j = 2 ^ k * 285870213051353865 % 18446744073709551616 / 288230376151711744 := ⟨_, rfl⟩
  have hj64 : j < 64 := by omega
  have ht := tab_all ⟨k, hk⟩
  simp only at ht
  rw [← hj] at ht
  have e1 : IntKind.u64.wrap (-(x : Int)) = ((18446744073709551616 - x : Nat) : Int) := by
    rw [IntKind.wrap_u64]
    simp at h0
    omega
  have e2 : bits .and .u64 (x : Int) (IntKind.u64.wrap (-(x : Int))) = ((2 ^ k : Nat) : Int) := by
    simp at h0
    rw [e1, u64_and_nat x _ hx' (by omega), low_one x k m h hx]
  have e3 : IntKind.u64.wrap (bits .and .u64 (x : Int) (IntKind.u64.wrap (-(x : Int))) * 285870213051353865) / 288230376151711744 = (j : Int) := by
    rw [e2, IntKind.wrap_u64, hj, show ((2 ^ k : Nat) : Int) * 285870213051353865 = ((2 ^ k * 285870213051353865 : Nat) : Int) by simp]
    generalize 2 ^ k * 285870213051353865 = q
    omega
  have hc := hG j hj64
  rw [ht] at hc
  have hw : wrap64 (k : Int) = k := by unfold wrap64; omega
  clear e1 e2 hj ht hpk h
  go_enter Tryd.func55, Tryd.ntmps55
  go_wp2
  go_ret
  exact ⟨rfl, rfl⟩
end Go.Proofs.YtjgdpcblenahkaaDoorQ
