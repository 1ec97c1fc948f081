/- Pruned from its seat's text: what the theorem hangs on. -/
import Derived.Test.YtibabfgfahlekaaBQXBytesetHas
/- tattingref01.Has: walked; told as the printed texts are. -/
set_option linter.unusedVariables false
set_option linter.unusedSimpArgs false
namespace Go.Proofs.YtibabfgfahlekaaQ
open Go.RowKit Go.Proofs.Bs

theorem rhas_walk (s : S) (hs : s.wf) (b : Int) (h0 : 0 ≤ b) (h1 : b < 256) (w : World) : Calls Try.prog 16 #[.agg #[.int .u64 s.a, .int .u64 s.b, .int .u64 s.c, .int .u64 s.d], .int .i64 b] w fun e w' => e = .returned (.bool (has s b.toNat)) ∧ Below w.heap.size w w' := by
  rcases (show b / 64 = (0 : Nat) ∨ b / 64 = (1 : Nat) ∨ b / 64 = (2 : Nat) ∨ b / 64 = (3 : Nat) by omega) with hq | hq | hq | hq
  all_goals
    have H := Lib.hid (has_at s hs b h0 _ hq)
    go_enter Try.func16, Try.ntmps16
    go_wp2
    go_ret
    exact ⟨ret_has H.out, (Below.refl _ _).alloc (Nat.le_refl _) _⟩

def tattingref01_Has.f (a0_0 a0_1 a0_2 a0_3 a1 : Int) : Option Bool := if wfI a0_0 a0_1 a0_2 a0_3 ∧ 0 ≤ a1 ∧ a1 < 256 then some (has (setI a0_0 a0_1 a0_2 a0_3) a1.toNat) else none
theorem tattingref01_Has.calls (a0_0 a0_1 a0_2 a0_3 : Int) (a1 : Int) (r : Bool) (w : World) (h : tattingref01_Has.f a0_0 a0_1 a0_2 a0_3 a1 = some r) :
    Calls Try.prog 16 #[.agg #[.int .u64 a0_0, .int .u64 a0_1, .int .u64 a0_2, .int .u64 a0_3], .int .i64 a1] w fun e w' => e = .returned (.bool r) ∧ Below w.heap.size w w' := by
  unfold tattingref01_Has.f at h
  split at h
  case isFalse => cases h
  case isTrue c =>
    injection h with h
    subst h
    obtain ⟨e0, e1, e2, e3⟩ := setI_cast c.1
    have hw := rhas_walk (setI a0_0 a0_1 a0_2 a0_3) (setI_wf c.1) a1 c.2.1 c.2.2 w
    rw [e0, e1, e2, e3] at hw
    exact hw
end Go.Proofs.YtibabfgfahlekaaQ
