/- Pruned from its seat's text: what the theorem hangs on. -/
import Derived.Test.YtibabfgfahlekaaBBase
import Derived.Test.YtibabfgfahlekaaBFaPure
import Derived.Laws.BitsAllLaws
import Derived.Deep.RegionWith
/- The walks of packages byteset and facts: Or; sum, upper. -/
set_option linter.unusedVariables false
set_option linter.unusedSimpArgs false
namespace Go.Proofs.Ytibabfgfahlekaa
open Go.RowKit Go.Proofs.Bs

theorem or1_any (x y : Nat) (w : World) (hx : x < W) (hy : y < W) : Calls Try.prog 69 #[.int .u64 x, .int .u64 y] w fun e w' => e = .returned (.int .u64 (x ||| y : Nat)) ∧ w = w' := by
  go_enter Try.func69, Try.ntmps69
  go_wp2
  go_ret
  exact ⟨ret_int (u64_or_nat x y hx hy), rfl⟩

theorem sum_any (a b : Int) (w : World) (h0 : -9223372036854775808 ≤ a + b) (h1 : a + b ≤ 9223372036854775807) : Calls Try.prog 63 #[.int .i64 a, .int .i64 b] w fun e w' => e = .returned (.int .i64 (min (a + b) 1048576)) ∧ w = w' := by
  have wr : IntKind.i64.wrap (a + b) = a + b := IntWalk.i64_in _ (by omega)
  rcases (show 1048576 < a + b ∨ a + b ≤ 1048576 by omega) with h | h
  · rw [Int.min_eq_right (by omega)]
    go_enter Try.func63, Try.ntmps63
    go_wp2
    go_ret
    exact ⟨rfl, rfl⟩
  · rw [Int.min_eq_left h]
    go_enter Try.func63, Try.ntmps63
    go_wp2
    go_ret
    exact ⟨rfl, rfl⟩

def upperI (a b : Int) : Int := if a < 0 ∨ b < 0 then -1 else min (a + b) 1048576
theorem upper_any (a b : Int) (w : World) (ha : -1 ≤ a ∧ a ≤ 1048576) (hb : -1 ≤ b ∧ b ≤ 1048576) : Calls Try.prog 64 #[.int .i64 a, .int .i64 b] w fun e w' => e = .returned (.int .i64 (upperI a b)) ∧ w = w' := by
  obtain ⟨a1, a2⟩ := ha
  obtain ⟨b1, b2⟩ := hb
  unfold upperI
  by_cases ca : a < 0
  · rw [if_pos (.inl ca)]
    go_enter Try.func64, Try.ntmps64
    go_wp2
    go_ret
    exact ⟨rfl, rfl⟩
  · by_cases cb : b < 0
    · rw [if_pos (.inr cb)]
      go_enter Try.func64, Try.ntmps64
      go_wp2
      go_ret
      exact ⟨rfl, rfl⟩
    · rw [if_neg (by omega)]
      go_enter Try.func64, Try.ntmps64
      go_wp2_with fail
      refine (sum_any a b _ (by omega) (by omega)).mono ?_
      rintro e w1 ⟨rfl, hw⟩
      subst hw
      go_wp2_with fail
      go_ret
      exact ⟨rfl, rfl⟩

def orTo (s t : S) (i : Nat) : S := ⟨if 0 < i then s.a ||| t.a else s.a, if 1 < i then s.b ||| t.b else s.b, if 2 < i then s.c ||| t.c else s.c, if 3 < i then s.d ||| t.d else s.d⟩
set_option maxRecDepth 100000 in
set_option maxHeartbeats 6400000 in
theorem each_or (s t : S) (w : World) (hs : s.wf) (ht : t.wf) : Calls Try.prog 68 #[.agg #[.int .u64 s.a, .int .u64 s.b, .int .u64 s.c, .int .u64 s.d], .agg #[.int .u64 t.a, .int .u64 t.b, .int .u64 t.c, .int .u64 t.d], .func (Fn.func 69) #[] #[]] w fun e w' => e = .returned (.agg #[.int .u64 (Bs.or s t).a, .int .u64 (Bs.or s t).b, .int .u64 (Bs.or s t).c, .int .u64 (Bs.or s t).d]) ∧ Below w.heap.size w w' := by
  go_enter Try.func68, Try.ntmps68
  go_wp2_with fail
  go_loopw [8] (fun i_ wr => ∃ i : Nat, i_ = .int .i64 i ∧ i ≤ 4 ∧ (wr.cell? ⟨w.heap.size, 0, none⟩ = some (.int .u64 ((orTo s t i).a : Nat)) ∧ wr.cell? ⟨w.heap.size, 1, none⟩ = some (.int .u64 ((orTo s t i).b : Nat)) ∧ wr.cell? ⟨w.heap.size, 2, none⟩ = some (.int .u64 ((orTo s t i).c : Nat)) ∧ wr.cell? ⟨w.heap.size, 3, none⟩ = some (.int .u64 ((orTo s t i).d : Nat))) ∧
    wr.cell? ⟨w.heap.size + 1, 0, none⟩ = some (.int .u64 (t.a : Nat)) ∧ wr.cell? ⟨w.heap.size + 1, 1, none⟩ = some (.int .u64 (t.b : Nat)) ∧ wr.cell? ⟨w.heap.size + 1, 2, none⟩ = some (.int .u64 (t.c : Nat)) ∧ wr.cell? ⟨w.heap.size + 1, 3, none⟩ = some (.int .u64 (t.d : Nat)) ∧ (∀ j, wr.frozen? ⟨w.heap.size, j, none⟩ = false) ∧ (∀ j, wr.frozen? ⟨w.heap.size + 1 + 1, j, none⟩ = false) ∧ (wr.cell? ⟨w.heap.size + 1 + 1, 0, none⟩ = some (.int .u64 0) ∧ wr.cell? ⟨w.heap.size + 1 + 1, 1, none⟩ = some (.int .u64 0) ∧ wr.cell? ⟨w.heap.size + 1 + 1, 2, none⟩ = some (.int .u64 0) ∧ wr.cell? ⟨w.heap.size + 1 + 1, 3, none⟩ = some (.int .u64 0)) ∧ w.heap.size + 2 < wr.heap.size ∧ Below w.heap.size w wr) (fun i_ _ => 4 - (intOf i_).toNat)
  case atStart =>
    refine ⟨0, rfl, by omega, ⟨(by show _ = some (Value.int .u64 ((s.a : Nat) : Int)); go_simp), (by show _ = some (Value.int .u64 ((s.b : Nat) : Int)); go_simp), (by show _ = some (Value.int .u64 ((s.c : Nat) : Int)); go_simp), (by show _ = some (Value.int .u64 ((s.d : Nat) : Int)); go_simp)⟩, by go_simp, by go_simp, by go_simp, by go_simp, fun j => by go_simp, fun j => by go_simp, ⟨by go_simp, by go_simp, by go_simp, by go_simp⟩, by simp, ?_⟩
    exact bel_alloc (bel_alloc (bel_alloc (Below.refl _ _) _) _) _
  case round =>
    obtain ⟨i, rfl, hi, ⟨c0, c1, c2, c3⟩, d0, d1, d2, d3, fz, fz2, ⟨r0, r1, r2, r3⟩, hsz, hb⟩ := hrel
    by_cases hlt : i < 4
    · rcases (show i = 0 ∨ i = 1 ∨ i = 2 ∨ i = 3 by omega) with rfl | rfl | rfl | rfl
      all_goals simp only [orTo, Nat.lt_irrefl, if_false, if_true, show (0 < 1) = True by decide, show (0 < 2) = True by decide, show (1 < 2) = True by decide, show (0 < 3) = True by decide, show (1 < 3) = True by decide, show (2 < 3) = True by decide, show (1 < 0) = False by decide, show (2 < 0) = False by decide, show (3 < 0) = False by decide, show (2 < 1) = False by decide, show (3 < 1) = False by decide, show (3 < 2) = False by decide] at c0 c1 c2 c3
      case inl =>
        go_wp2_with fail
        go_region_with (first
          | (go_at_call 69; refine (or1_any s.a t.a _ hs.a ht.a).mono ?_; rintro e w' ⟨rfl, hw⟩; subst hw))
        all_goals
          go_wp2_with fail
          go_roundw
          case rel =>
            refine ⟨1, by first | rfl | go_num, by omega, ?_, by go_simp, by go_simp, by go_simp, by go_simp, fun j => by go_simp, fun j => by go_simp, ⟨by go_simp, by go_simp, by go_simp, by go_simp⟩, by simp; omega, bel_drew (bel_set hb (by simp) _)⟩
            exact ⟨(by show _ = some (Value.int .u64 ((s.a ||| t.a : Nat) : Int)); go_simp), (by show _ = some (Value.int .u64 ((s.b : Nat) : Int)); go_simp), (by show _ = some (Value.int .u64 ((s.c : Nat) : Int)); go_simp), (by show _ = some (Value.int .u64 ((s.d : Nat) : Int)); go_simp)⟩
          case measure => simp [intOf] <;> omega
      case inr.inl =>
        go_wp2_with fail
        go_region_with (first
          | (go_at_call 69; refine (or1_any s.b t.b _ hs.b ht.b).mono ?_; rintro e w' ⟨rfl, hw⟩; subst hw))
        all_goals
          go_wp2_with fail
          go_roundw
          case rel =>
            refine ⟨2, by first | rfl | go_num, by omega, ?_, by go_simp, by go_simp, by go_simp, by go_simp, fun j => by go_simp, fun j => by go_simp, ⟨by go_simp, by go_simp, by go_simp, by go_simp⟩, by simp; omega, bel_drew (bel_set hb (by simp) _)⟩
            exact ⟨(by show _ = some (Value.int .u64 ((s.a ||| t.a : Nat) : Int)); go_simp), (by show _ = some (Value.int .u64 ((s.b ||| t.b : Nat) : Int)); go_simp), (by show _ = some (Value.int .u64 ((s.c : Nat) : Int)); go_simp), (by show _ = some (Value.int .u64 ((s.d : Nat) : Int)); go_simp)⟩
          case measure => simp [intOf] <;> omega
      case inr.inr.inl =>
        go_wp2_with fail
        go_region_with (first
          | (go_at_call 69; refine (or1_any s.c t.c _ hs.c ht.c).mono ?_; rintro e w' ⟨rfl, hw⟩; subst hw))
        all_goals
          go_wp2_with fail
          go_roundw
          case rel =>
            refine ⟨3, by first | rfl | go_num, by omega, ?_, by go_simp, by go_simp, by go_simp, by go_simp, fun j => by go_simp, fun j => by go_simp, ⟨by go_simp, by go_simp, by go_simp, by go_simp⟩, by simp; omega, bel_drew (bel_set hb (by simp) _)⟩
            exact ⟨(by show _ = some (Value.int .u64 ((s.a ||| t.a : Nat) : Int)); go_simp), (by show _ = some (Value.int .u64 ((s.b ||| t.b : Nat) : Int)); go_simp), (by show _ = some (Value.int .u64 ((s.c ||| t.c : Nat) : Int)); go_simp), (by show _ = some (Value.int .u64 ((s.d : Nat) : Int)); go_simp)⟩
          case measure => simp [intOf] <;> omega
      case inr.inr.inr =>
        go_wp2_with fail
        go_region_with (first
          | (go_at_call 69; refine (or1_any s.d t.d _ hs.d ht.d).mono ?_; rintro e w' ⟨rfl, hw⟩; subst hw))
        all_goals
          go_wp2_with fail
          go_roundw
          case rel =>
            refine ⟨4, by first | rfl | go_num, by omega, ?_, by go_simp, by go_simp, by go_simp, by go_simp, fun j => by go_simp, fun j => by go_simp, ⟨by go_simp, by go_simp, by go_simp, by go_simp⟩, by simp; omega, bel_drew (bel_set hb (by simp) _)⟩
            exact ⟨(by show _ = some (Value.int .u64 ((s.a ||| t.a : Nat) : Int)); go_simp), (by show _ = some (Value.int .u64 ((s.b ||| t.b : Nat) : Int)); go_simp), (by show _ = some (Value.int .u64 ((s.c ||| t.c : Nat) : Int)); go_simp), (by show _ = some (Value.int .u64 ((s.d ||| t.d : Nat) : Int)); go_simp)⟩
          case measure => simp [intOf] <;> omega
    · obtain rfl : i = 4 := by omega
      simp only [orTo, if_true, show (0 < 4) = True by decide, show (1 < 4) = True by decide, show (2 < 4) = True by decide, show (3 < 4) = True by decide] at c0 c1 c2 c3
      go_wp2_with fail
      refine bodyPost_ret (v := .agg #[.int .u64 (s.a ||| t.a : Nat), .int .u64 (s.b ||| t.b : Nat), .int .u64 (s.c ||| t.c : Nat), .int .u64 (s.d ||| t.d : Nat)]) (by simp [results, Try.results68, go_sem, r0, r1, r2, r3, fz2]) rfl ⟨rfl, ?_⟩
      exact bel_set (bel_set (bel_set (bel_set hb (by simp; omega) _) (by simp; omega) _) (by simp; omega) _) (by simp; omega) _
set_option maxRecDepth 100000 in
set_option maxHeartbeats 3200000 in
theorem or_any (s t : S) (w : World) (hs : s.wf) (ht : t.wf) : Calls Try.prog 65 #[.agg #[.int .u64 s.a, .int .u64 s.b, .int .u64 s.c, .int .u64 s.d], .agg #[.int .u64 t.a, .int .u64 t.b, .int .u64 t.c, .int .u64 t.d]] w fun e w' => e = .returned (.agg #[.int .u64 (Bs.or s t).a, .int .u64 (Bs.or s t).b, .int .u64 (Bs.or s t).c, .int .u64 (Bs.or s t).d]) ∧ Below w.heap.size w w' := by
  go_enter Try.func65, Try.ntmps65
  go_wp2_with fail
  refine (each_or s t _ hs ht).mono ?_
  rintro e w1 ⟨rfl, hb1⟩
  have hz := hb1.size
  have r0 : w1.cell? ⟨w.heap.size + 1 + 1, 0, none⟩ = some (.int .u64 0) := (hb1.cell (p := ⟨w.heap.size + 1 + 1, 0, none⟩) (by simp)).trans (by go_simp)
  have r1 : w1.cell? ⟨w.heap.size + 1 + 1, 1, none⟩ = some (.int .u64 0) := (hb1.cell (p := ⟨w.heap.size + 1 + 1, 1, none⟩) (by simp)).trans (by go_simp)
  have r2 : w1.cell? ⟨w.heap.size + 1 + 1, 2, none⟩ = some (.int .u64 0) := (hb1.cell (p := ⟨w.heap.size + 1 + 1, 2, none⟩) (by simp)).trans (by go_simp)
  have r3 : w1.cell? ⟨w.heap.size + 1 + 1, 3, none⟩ = some (.int .u64 0) := (hb1.cell (p := ⟨w.heap.size + 1 + 1, 3, none⟩) (by simp)).trans (by go_simp)
  have fz : ∀ j, w1.frozen? ⟨w.heap.size + 1 + 1, j, none⟩ = false := fun j => (hb1.frozen (p := ⟨w.heap.size + 1 + 1, j, none⟩) (by simp)).trans (by go_simp)
  have hb : Below w.heap.size w w1 := bel_then (bel_alloc (bel_alloc (bel_alloc (Below.refl _ _) _) _) _) hb1
  go_wp2_with fail
  refine bodyPost_ret (v := .agg #[.int .u64 (Bs.or s t).a, .int .u64 (Bs.or s t).b, .int .u64 (Bs.or s t).c, .int .u64 (Bs.or s t).d]) (by simp [results, Try.results65, go_sem, r0, r1, r2, r3, fz]) rfl ⟨rfl, ?_⟩
  exact bel_set (bel_set (bel_set (bel_set hb (by simp; omega) _) (by simp; omega) _) (by simp; omega) _) (by simp; omega) _
end Go.Proofs.Ytibabfgfahlekaa
