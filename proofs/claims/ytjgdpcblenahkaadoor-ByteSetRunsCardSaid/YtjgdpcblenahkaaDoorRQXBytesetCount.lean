/- Pruned from its seat's text: what the theorem hangs on. -/
import Derived.Test.YtjgdpcblenahkaaDoorRQXOnes
/- byteset.Count: walked; told as the printed texts are. -/
set_option linter.unusedVariables false
set_option linter.unusedSimpArgs false
namespace Go.Proofs.YtjgdpcblenahkaaDoorQ
open Go.RowKit Go.Proofs.Bs Go.Proofs.YtjgdpcblenahkaaDoor

def cntTo (s : S) : Nat → Nat
  | 0 => 0
  | k + 1 => cntTo s k + cnt 64 (s.word k)
theorem cnt_le (n x : Nat) : cnt n x ≤ n := by
  unfold cnt
  have := List.length_filter_le (fun i => x.testBit i) (List.range n)
  simpa using this
theorem cntTo_le (s : S) : ∀ k, cntTo s k ≤ 64 * k
  | 0 => by simp [cntTo]
  | k + 1 => by
    have := cntTo_le s k
    have := cnt_le 64 (s.word k)
    simp only [cntTo]
    omega
theorem run_set0 (a b c d : Value) (w : World) : (Instr.index 24 (.agg #[a, b, c, d]) (.int .i64 0)).run Tryd.prog w = .ok a w := by
  simp only [Instr.index, run_underlying Tryd.underlying24, asIntOf, go_sem]
  simp [go_sem]
theorem run_set1 (a b c d : Value) (w : World) : (Instr.index 24 (.agg #[a, b, c, d]) (.int .i64 1)).run Tryd.prog w = .ok b w := by
  simp only [Instr.index, run_underlying Tryd.underlying24, asIntOf, go_sem]
  simp [go_sem]
theorem run_set2 (a b c d : Value) (w : World) : (Instr.index 24 (.agg #[a, b, c, d]) (.int .i64 2)).run Tryd.prog w = .ok c w := by
  simp only [Instr.index, run_underlying Tryd.underlying24, asIntOf, go_sem]
  simp [go_sem]
theorem run_set3 (a b c d : Value) (w : World) : (Instr.index 24 (.agg #[a, b, c, d]) (.int .i64 3)).run Tryd.prog w = .ok d w := by
  simp only [Instr.index, run_underlying Tryd.underlying24, asIntOf, go_sem]
  simp [go_sem]
attribute [local go_sem] run_set0 run_set1 run_set2 run_set3
set_option maxRecDepth 100000 in
set_option maxHeartbeats 3200000 in
theorem count_walk (s : S) (hs : s.wf) (w : World) : Calls Tryd.prog 19 #[.agg #[.int .u64 s.a, .int .u64 s.b, .int .u64 s.c, .int .u64 s.d]] w fun e w' => e = .returned (.int .i64 (cntTo s 4 : Nat)) ∧ Below w.heap.size w w' := by
  go_enter Tryd.func19, Tryd.ntmps19
  go_wp2_with fail
  go_loopw [3, 5, 7] (fun v3 v5 v7 wr => ∃ k : Nat, v7 = .int .i64 k ∧ k ≤ 4 ∧ v3 = .int .i64 (cntTo s k : Nat) ∧ Below w.heap.size w wr) (fun _ _ v7 _ => 4 - (intOf v7).toNat)
  case atStart =>
    exact ⟨0, rfl, by omega, rfl, bel_alloc (Below.refl _ _) _⟩
  case round =>
    obtain ⟨k, rfl, hk, rfl, hb⟩ := hrel
    by_cases hlt : k < 4
    · have hle := cntTo_le s k
      have h64 := cnt_le 64 (s.word k)
      have hsum : cntTo s (k + 1) = cntTo s k + cnt 64 (s.word k) := rfl
      have hW := hs.wf_word k
      obtain ⟨q, hq⟩ : ∃ q, cntTo s k = q := ⟨_, rfl⟩
      obtain ⟨q', hq'⟩ : ∃ q', cntTo s (k + 1) = q' := ⟨_, rfl⟩
      obtain ⟨c, hc⟩ : ∃ c, cnt 64 (s.word k) = c := ⟨_, rfl⟩
      rcases (show k = 0 ∨ k = 1 ∨ k = 2 ∨ k = 3 by omega) with rfl | rfl | rfl | rfl
      all_goals
        have HC := Lib.hid hc
        have HQ := Lib.hid hq'
        rw [hq] at hle hsum
        rw [hc] at h64 hsum
        rw [hq'] at hsum
        simp only [hq]
        clear hq hc hq'
        simp only [S.word] at hW HC
        go_wp2_with (first
          | (go_at_call 57; refine (ones_walk _ hW _).mono ?_; rintro e w' ⟨rfl, hw⟩; subst hw; rw [HC.out]))
        go_roundw
        case rel =>
          first | refine ⟨1, by (go_num; done), by omega, ?_, hb⟩ | refine ⟨2, by (go_num; done), by omega, ?_, hb⟩ | refine ⟨3, by (go_num; done), by omega, ?_, hb⟩ | refine ⟨4, by (go_num; done), by omega, ?_, hb⟩
          rw [HQ.out]
          congr 1
          omega
        case measure => simp [intOf] <;> omega
    · obtain rfl : k = 4 := by omega
      go_wp2
      go_ret
      exact ⟨rfl, hb⟩

def byteset_Count.f (a0_0 a0_1 a0_2 a0_3 : Int) : Option Int := if wfI a0_0 a0_1 a0_2 a0_3 then some (cntTo (setI a0_0 a0_1 a0_2 a0_3) 4 : Nat) else none
theorem byteset_Count.calls (a0_0 a0_1 a0_2 a0_3 : Int) (r : Int) (w : World) (h : byteset_Count.f a0_0 a0_1 a0_2 a0_3 = some r) :
    Calls Tryd.prog 19 #[.agg #[.int .u64 a0_0, .int .u64 a0_1, .int .u64 a0_2, .int .u64 a0_3]] w fun e w' => e = .returned (.int .i64 r) ∧ Below w.heap.size w w' := by
  unfold byteset_Count.f at h
  split at h
  case isFalse => cases h
  case isTrue c =>
    injection h with h
    subst h
    obtain ⟨e0, e1, e2, e3⟩ := setI_cast c
    have hw := count_walk (setI a0_0 a0_1 a0_2 a0_3) (setI_wf c) w
    rw [e0, e1, e2, e3] at hw
    exact hw
end Go.Proofs.YtjgdpcblenahkaaDoorQ
