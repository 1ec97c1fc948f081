/- Pruned from its seat's text: what the theorem hangs on. -/
import Derived.Test.YtibabfgfahlekaaBQSets
import Derived.Test.YtibabfgfahlekaaBFaPure
import Derived.Test.YtibabfgfahlekaaBCore
/- facts.rep: walked; told as the printed texts are. -/
set_option linter.unusedVariables false
set_option linter.unusedSimpArgs false
namespace Go.Proofs.YtibabfgfahlekaaQ
open Go.RowKit Go.Proofs.Bs Go.Proofs.Ytibabfgfahlekaa

/-- What 'rep' tells, cell by cell. -/
def repV (lo hi : Int) (nv : Bool) (le mo a b c d : Int) (en : Bool) : Bool × Int × Int × Int × Int × Int × Int × Bool :=
  if hi = 0 ∨ lo = 0 ∧ nv = true then (false, 0, 0, 0, 0, 0, 0, false) else if nv = true then (nv, le, mo, a, b, c, d, en) else
  (false, min (lo * le) 1048576, if mo < 0 ∨ hi < 0 ∧ 0 < mo then -1 else min (hi * mo) 1048576, a, b, c, d, false)
def repOk (lo hi le mo : Int) : Prop := (0 ≤ lo ∧ lo ≤ 32) ∧ (-1 ≤ hi ∧ hi ≤ 32) ∧ (0 ≤ le ∧ le ≤ 1048576) ∧ -1 ≤ mo ∧ mo ≤ 1048576
def faV (r : Bool × Int × Int × Int × Int × Int × Int × Bool) : Value := .agg #[.bool r.1, .int .i64 r.2.1, .int .i64 r.2.2.1, .int .u64 r.2.2.2.1, .int .u64 r.2.2.2.2.1, .int .u64 r.2.2.2.2.2.1, .int .u64 r.2.2.2.2.2.2.1, .bool r.2.2.2.2.2.2.2]
theorem mul_bd {x y : Int} (h0 : -1 ≤ x) (h1 : x ≤ 32) (h2 : -1 ≤ y) (h3 : y ≤ 1048576) : -1048576 ≤ x * y ∧ x * y ≤ 33554432 := by
  constructor
  · rcases (show y = -1 ∨ 0 ≤ y by omega) with rfl | hy
    · omega
    · have := Int.mul_le_mul_of_nonneg_right h0 hy; omega
  · rcases (show y = -1 ∨ 0 ≤ y by omega) with rfl | hy
    · omega
    · have := Int.mul_le_mul_of_nonneg_right h1 hy; omega
section
variable (k s0 s1 s2 s3 lo hi le mo a b c d : Int) (nv en : Bool) (w : World)
set_option maxRecDepth 100000 in
set_option maxHeartbeats 3200000 in
theorem rep_zero (h : hi = 0) : Calls Try.prog 49 #[.agg #[.int .i64 k, .int .u64 s0, .int .u64 s1, .int .u64 s2, .int .u64 s3, .int .i64 lo, .int .i64 hi], .agg #[.bool nv, .int .i64 le, .int .i64 mo, .int .u64 a, .int .u64 b, .int .u64 c, .int .u64 d, .bool en]] w fun e w' =>
    e = .returned (faV (false, 0, 0, 0, 0, 0, 0, false)) ∧ Below w.heap.size w w' := by
  subst h
  go_enter Try.func49, Try.ntmps49
  go_wp2_with fail
  refine bodyPost_ret (v := faV (false, 0, 0, 0, 0, 0, 0, false)) (by simp [results, Try.results49, go_sem, faV]) rfl ⟨rfl, (by repeat (first | exact Below.refl _ _ | refine bel_alloc ?_ _ | refine bel_drew ?_ | refine bel_set ?_ (by simp) _))⟩
set_option maxRecDepth 100000 in
set_option maxHeartbeats 3200000 in
theorem rep_skip (hh : hi ≠ 0) (h : lo = 0) : Calls Try.prog 49 #[.agg #[.int .i64 k, .int .u64 s0, .int .u64 s1, .int .u64 s2, .int .u64 s3, .int .i64 lo, .int .i64 hi], .agg #[.bool true, .int .i64 le, .int .i64 mo, .int .u64 a, .int .u64 b, .int .u64 c, .int .u64 d, .bool en]] w fun e w' =>
    e = .returned (faV (false, 0, 0, 0, 0, 0, 0, false)) ∧ Below w.heap.size w w' := by
  subst h
  have h1 : (hi == 0) = false := by simpa using hh
  go_enter Try.func49, Try.ntmps49
  go_wp2_with fail
  refine bodyPost_ret (v := faV (false, 0, 0, 0, 0, 0, 0, false)) (by simp [results, Try.results49, go_sem, faV]) rfl ⟨rfl, (by repeat (first | exact Below.refl _ _ | refine bel_alloc ?_ _ | refine bel_drew ?_ | refine bel_set ?_ (by simp) _))⟩
set_option maxRecDepth 100000 in
set_option maxHeartbeats 3200000 in
theorem rep_never (hh : hi ≠ 0) (h : lo ≠ 0) : Calls Try.prog 49 #[.agg #[.int .i64 k, .int .u64 s0, .int .u64 s1, .int .u64 s2, .int .u64 s3, .int .i64 lo, .int .i64 hi], .agg #[.bool true, .int .i64 le, .int .i64 mo, .int .u64 a, .int .u64 b, .int .u64 c, .int .u64 d, .bool en]] w fun e w' =>
    e = .returned (faV (true, le, mo, a, b, c, d, en)) ∧ Below w.heap.size w w' := by
  have h1 : (hi == 0) = false := by simpa using hh
  have h2 : (lo == 0) = false := by simpa using h
  go_enter Try.func49, Try.ntmps49
  go_wp2_with fail
  refine bodyPost_ret (v := faV (true, le, mo, a, b, c, d, en)) (by simp [results, Try.results49, go_sem, faV]) rfl ⟨rfl, (by repeat (first | exact Below.refl _ _ | refine bel_alloc ?_ _ | refine bel_drew ?_ | refine bel_set ?_ (by simp) _))⟩
set_option maxRecDepth 100000 in
set_option maxHeartbeats 6400000 in
theorem rep_main (hok : repOk lo hi le mo) (hh : hi ≠ 0) : Calls Try.prog 49 #[.agg #[.int .i64 k, .int .u64 s0, .int .u64 s1, .int .u64 s2, .int .u64 s3, .int .i64 lo, .int .i64 hi], .agg #[.bool false, .int .i64 le, .int .i64 mo, .int .u64 a, .int .u64 b, .int .u64 c, .int .u64 d, .bool en]] w fun e w' =>
    e = .returned (faV (false, min (lo * le) 1048576, if mo < 0 ∨ hi < 0 ∧ 0 < mo then -1 else min (hi * mo) 1048576, a, b, c, d, false)) ∧ Below w.heap.size w w' := by
  obtain ⟨⟨l0, l1⟩, ⟨i0, i1⟩, ⟨e0, e1⟩, m0, m1⟩ := hok
  have hp := mul_bd (x := lo) (y := le) (by omega) l1 (by omega) e1
  have hq := mul_bd i0 i1 m0 m1
  have h1 : (hi == 0) = false := by simpa using hh
  have W1 : wrap64 (lo * le) = lo * le := by unfold wrap64; omega
  have W2 : wrap64 (hi * mo) = hi * mo := by unfold wrap64; omega
  obtain ⟨P, hP⟩ : ∃ P, min (lo * le) 1048576 = P := ⟨_, rfl⟩
  obtain ⟨M, hM⟩ : ∃ M, min (hi * mo) 1048576 = M := ⟨_, rfl⟩
  have hP' : (if 1048576 < lo * le then 1048576 else lo * le) = P := by omega
  have hM' : (if 1048576 < hi * mo then 1048576 else hi * mo) = M := by omega
  rw [hP, hM]
  clear hP hM
  by_cases c3 : mo < 0
  · rw [if_pos (.inl c3)]
    go_enter Try.func49, Try.ntmps49
    go_wp2_with fail
    all_goals
      refine bodyPost_ret (v := faV (false, P, -1, a, b, c, d, false)) (by simp [results, Try.results49, go_sem, faV] <;> (have e : lo = 0 := by assumption) <;> (rw [e, Int.zero_mul] at hP'; omega)) rfl ⟨rfl, (by repeat (first | exact Below.refl _ _ | refine bel_alloc ?_ _ | refine bel_drew ?_ | refine bel_set ?_ (by simp) _))⟩
  · by_cases c4 : hi < 0
    · by_cases c5 : 0 < mo
      · rw [if_pos (.inr ⟨c4, c5⟩)]
        go_enter Try.func49, Try.ntmps49
        go_wp2_with fail
        all_goals
          refine bodyPost_ret (v := faV (false, P, -1, a, b, c, d, false)) (by simp [results, Try.results49, go_sem, faV] <;> (have e : lo = 0 := by assumption) <;> (rw [e, Int.zero_mul] at hP'; omega)) rfl ⟨rfl, (by repeat (first | exact Below.refl _ _ | refine bel_alloc ?_ _ | refine bel_drew ?_ | refine bel_set ?_ (by simp) _))⟩
      · rw [if_neg (by omega)]
        go_enter Try.func49, Try.ntmps49
        go_wp2_with fail
        all_goals
          refine bodyPost_ret (v := faV (false, P, M, a, b, c, d, false)) (by simp [results, Try.results49, go_sem, faV] <;> (have e : lo = 0 := by assumption) <;> (rw [e, Int.zero_mul] at hP'; omega)) rfl ⟨rfl, (by repeat (first | exact Below.refl _ _ | refine bel_alloc ?_ _ | refine bel_drew ?_ | refine bel_set ?_ (by simp) _))⟩
    · rw [if_neg (by omega)]
      go_enter Try.func49, Try.ntmps49
      go_wp2_with fail
      all_goals
        refine bodyPost_ret (v := faV (false, P, M, a, b, c, d, false)) (by simp [results, Try.results49, go_sem, faV] <;> (have e : lo = 0 := by assumption) <;> (rw [e, Int.zero_mul] at hP'; omega)) rfl ⟨rfl, (by repeat (first | exact Below.refl _ _ | refine bel_alloc ?_ _ | refine bel_drew ?_ | refine bel_set ?_ (by simp) _))⟩
end

theorem rep_walk (k s0 s1 s2 s3 lo hi le mo a b c d : Int) (nv en : Bool) (w : World) (hok : repOk lo hi le mo) : Calls Try.prog 49 #[.agg #[.int .i64 k, .int .u64 s0, .int .u64 s1, .int .u64 s2, .int .u64 s3, .int .i64 lo, .int .i64 hi], .agg #[.bool nv, .int .i64 le, .int .i64 mo, .int .u64 a, .int .u64 b, .int .u64 c, .int .u64 d, .bool en]] w fun e w' =>
    e = .returned (faV (repV lo hi nv le mo a b c d en)) ∧ Below w.heap.size w w' := by
  unfold repV
  by_cases h1 : hi = 0
  · rw [if_pos (.inl h1)]
    exact rep_zero k s0 s1 s2 s3 lo hi le mo a b c d nv en w h1
  · cases nv
    · rw [if_neg (by simp [h1]), if_neg (by decide)]
      exact rep_main k s0 s1 s2 s3 lo hi le mo a b c d en w hok h1
    · by_cases h2 : lo = 0
      · rw [if_pos (.inr ⟨h2, rfl⟩)]
        exact rep_skip k s0 s1 s2 s3 lo hi le mo a b c d en w h1 h2
      · rw [if_neg (by simp [h1, h2]), if_pos rfl]
        exact rep_never k s0 s1 s2 s3 lo hi le mo a b c d en w h1 h2
end Go.Proofs.YtibabfgfahlekaaQ
