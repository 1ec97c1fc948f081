/- Pruned from its seat's text: what the theorem hangs on. -/
import Derived.Test.YtjgdpcblenahkaaDoorRQXBytesetOf
/- tattingref01.Put: walked; told as the printed texts are. -/
set_option linter.unusedVariables false
set_option linter.unusedSimpArgs false
namespace Go.Proofs.YtjgdpcblenahkaaDoorQ
open Go.RowKit Go.Proofs.Bs Go.Proofs.YtjgdpcblenahkaaDoor

set_option maxRecDepth 100000 in
set_option maxHeartbeats 3200000 in
theorem put_walk (s : S) (hs : s.wf) (b : Int) (h0 : 0 ≤ b) (h1 : b < 256) (w : World) : Calls Tryd.prog 58 #[.agg #[.int .u64 s.a, .int .u64 s.b, .int .u64 s.c, .int .u64 s.d], .int .i64 b] w fun e w' => e = .returned (.agg #[.int .u64 (put s b.toNat).a, .int .u64 (put s b.toNat).b, .int .u64 (put s b.toNat).c, .int .u64 (put s b.toNat).d]) ∧ Below w.heap.size w w' := by
  have hw := Lib.hid (wrap_bit (b % 64).toNat (by omega))
  have o0 := Lib.hid (or_bit s.a (b % 64).toNat hs.a (by omega))
  have o1 := Lib.hid (or_bit s.b (b % 64).toNat hs.b (by omega))
  have o2 := Lib.hid (or_bit s.c (b % 64).toNat hs.c (by omega))
  have o3 := Lib.hid (or_bit s.d (b % 64).toNat hs.d (by omega))
  rcases (show b / 64 = (0 : Nat) ∨ b / 64 = (1 : Nat) ∨ b / 64 = (2 : Nat) ∨ b / 64 = (3 : Nat) by omega) with hq | hq | hq | hq
  all_goals
    have hS2 := Lib.hid (put_word s b h0 h1 _ hq)
    go_enter Tryd.func58, Tryd.ntmps58
    go_wp2_with fail
    refine bodyPost_ret (v := .agg #[.int .u64 (put s b.toNat).a, .int .u64 (put s b.toNat).b, .int .u64 (put s b.toNat).c, .int .u64 (put s b.toNat).d]) (by rw [hS2.out]; simp [results, Tryd.results58, go_sem, hw.out, o0.out, o1.out, o2.out, o3.out, S.setWord, S.word]) rfl ⟨rfl, ?_⟩
    repeat (first | exact Below.refl _ _ | refine bel_alloc ?_ _ | refine bel_set ?_ (by simp) _)

def tattingref01_Put.f (a0_0 a0_1 a0_2 a0_3 a1 : Int) : Option (Int × Int × Int × Int) := if wfI a0_0 a0_1 a0_2 a0_3 ∧ 0 ≤ a1 ∧ a1 < 256 then some (four (put (setI a0_0 a0_1 a0_2 a0_3) a1.toNat)) else none
theorem tattingref01_Put.calls (a0_0 a0_1 a0_2 a0_3 : Int) (a1 : Int) (r1 r2 r3 r4 : Int) (w : World) (h : tattingref01_Put.f a0_0 a0_1 a0_2 a0_3 a1 = some (r1, r2, r3, r4)) :
    Calls Tryd.prog 58 #[.agg #[.int .u64 a0_0, .int .u64 a0_1, .int .u64 a0_2, .int .u64 a0_3], .int .i64 a1] w fun e w' => e = .returned (.agg #[.int .u64 r1, .int .u64 r2, .int .u64 r3, .int .u64 r4]) ∧ Below w.heap.size w w' := by
  unfold tattingref01_Put.f at h
  split at h
  case isFalse => cases h
  case isTrue c =>
    injection h with h
    unfold four at h
    injection h with h1 h
    injection h with h2 h
    injection h with h3 h4
    subst h1 h2 h3 h4
    obtain ⟨e0, e1, e2, e3⟩ := setI_cast c.1
    have hw := put_walk (setI a0_0 a0_1 a0_2 a0_3) (setI_wf c.1) a1 c.2.1 c.2.2 w
    rw [e0, e1, e2, e3] at hw
    exact hw
end Go.Proofs.YtjgdpcblenahkaaDoorQ
