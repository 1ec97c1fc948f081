/- Pruned from its seat's text: what the theorem hangs on. -/
import Derived.Test.YtjgdpcblenahkaaDoorSQSets
import Derived.Laws.BitsAllLaws
import Derived.Lib.Hide
/- byteset.Has, tattingref01.Has: walked; told as the printed texts are. -/
set_option linter.unusedVariables false
set_option linter.unusedSimpArgs false
namespace Go.Proofs.YtjgdpcblenahkaaDoorQ
open Go.RowKit Go.Proofs.Bs

theorem bit_at (x n : Nat) (hx : x < W) : (bits .and .u64 ((x : Int) / 2 ^ n) 1 == 1) = x.testBit n := by
  have e : ((x : Int) / 2 ^ n) = ((x / 2 ^ n : Nat) : Int) := by simp
  have h := u64_and_nat (x / 2 ^ n) 1 (Nat.lt_of_le_of_lt (Nat.div_le_self _ _) hx) (by omega)
  rw [e, show (1 : Int) = ((1 : Nat) : Int) from rfl, h, Nat.testBit_eq_decide_div_mod_eq, Nat.and_one_is_mod]
  by_cases c : x / 2 ^ n % 2 = 1
  · simp [c]
  · rw [decide_eq_false c]
    simp
    omega
theorem ret_has {a b : Bool} (h : a = b) : Ending.returned (Value.bool a) = Ending.returned (Value.bool b) := by rw [h]
theorem has_at (s : S) (hs : s.wf) (b : Int) (h0 : 0 ≤ b) (q : Nat) (hq : b / 64 = q) : (bits .and .u64 ((s.word q : Int) / 2 ^ (b % 64).toNat) 1 == 1) = has s b.toNat := by
  rw [bit_at _ _ (hs.wf_word q)]
  unfold has
  rw [show b.toNat / 64 = q by omega, show b.toNat % 64 = (b % 64).toNat by omega]
theorem has_walk (s : S) (hs : s.wf) (b : Int) (h0 : 0 ≤ b) (h1 : b < 256) (w : World) : Calls Tryd.prog 22 #[.agg #[.int .u64 s.a, .int .u64 s.b, .int .u64 s.c, .int .u64 s.d], .int .u8 b] w fun e w' => e = .returned (.bool (has s b.toNat)) ∧ Below w.heap.size w w' := by
  rcases (show b / 64 = (0 : Nat) ∨ b / 64 = (1 : Nat) ∨ b / 64 = (2 : Nat) ∨ b / 64 = (3 : Nat) by omega) with hq | hq | hq | hq
  all_goals
    have H := Lib.hid (has_at s hs b h0 _ hq)
    go_enter Tryd.func22, Tryd.ntmps22
    go_wp2
    go_ret
    exact ⟨ret_has H.out, (Below.refl _ _).alloc (Nat.le_refl _) _⟩

def byteset_Has.f (a0_0 a0_1 a0_2 a0_3 a1 : Int) : Option Bool := if wfI a0_0 a0_1 a0_2 a0_3 ∧ 0 ≤ a1 ∧ a1 < 256 then some (has (setI a0_0 a0_1 a0_2 a0_3) a1.toNat) else none
theorem byteset_Has.calls (a0_0 a0_1 a0_2 a0_3 : Int) (a1 : Int) (r : Bool) (w : World) (h : byteset_Has.f a0_0 a0_1 a0_2 a0_3 a1 = some r) :
    Calls Tryd.prog 22 #[.agg #[.int .u64 a0_0, .int .u64 a0_1, .int .u64 a0_2, .int .u64 a0_3], .int .u8 a1] w fun e w' => e = .returned (.bool r) ∧ Below w.heap.size w w' := by
  unfold byteset_Has.f at h
  split at h
  case isFalse => cases h
  case isTrue c =>
    injection h with h
    subst h
    obtain ⟨e0, e1, e2, e3⟩ := setI_cast c.1
    have hw := has_walk (setI a0_0 a0_1 a0_2 a0_3) (setI_wf c.1) a1 c.2.1 c.2.2 w
    rw [e0, e1, e2, e3] at hw
    exact hw
end Go.Proofs.YtjgdpcblenahkaaDoorQ
