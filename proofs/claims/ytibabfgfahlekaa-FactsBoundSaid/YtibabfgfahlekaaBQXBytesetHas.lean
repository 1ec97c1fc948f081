/- Pruned from its seat's text: what the theorem hangs on. -/
import Derived.Test.YtibabfgfahlekaaBQSets
import Derived.Laws.BitsAllLaws
import Derived.Lib.Hide
/- byteset.Has, tattingref01.Has: walked; told as the printed texts are. -/
set_option linter.unusedVariables false
set_option linter.unusedSimpArgs false
namespace Go.Proofs.YtibabfgfahlekaaQ
open Go.RowKit Go.Proofs.Bs

theorem bit_at (x n : Nat) (hx : x < W) : (bits .and .u64 ((x : Int) / 2 ^ n) 1 == 1) = x.testBit n := by
  have e : ((x : Int) / 2 ^ n) = ((x / 2 ^ n : Nat) : Int) := by simp
  have h := u64_and_nat (x / 2 ^ n) 1 (Nat.lt_of_le_of_lt (Nat.div_le_self _ _) hx) (by omega)
  rw [e, show (1 : Int) = ((1 : Nat) : Int) from rfl, h, Nat.testBit_eq_decide_div_mod_eq, Nat.and_one_is_mod]
  by_cases c : x / 2 ^ n % 2 = 1
  · simp [c]
  · rw [decide_eq_false c]
    simp
    omega
theorem ret_has {a b : Bool} (h : a = b) : Ending.returned (Value.bool a) = Ending.returned (Value.bool b) := by rw [h]
theorem has_at (s : S) (hs : s.wf) (b : Int) (h0 : 0 ≤ b) (q : Nat) (hq : b / 64 = q) : (bits .and .u64 ((s.word q : Int) / 2 ^ (b % 64).toNat) 1 == 1) = has s b.toNat := by
  rw [bit_at _ _ (hs.wf_word q)]
  unfold has
  rw [show b.toNat / 64 = q by omega, show b.toNat % 64 = (b % 64).toNat by omega]

end Go.Proofs.YtibabfgfahlekaaQ
