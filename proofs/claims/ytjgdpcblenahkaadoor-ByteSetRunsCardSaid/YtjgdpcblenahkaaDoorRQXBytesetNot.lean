/- Pruned from its seat's text: what the theorem hangs on. -/
import Derived.Test.YtjgdpcblenahkaaDoorRQXBytesetOr
import Derived.Laws.BitsAllLaws
import Derived.Deep.RegionWith
/- byteset.Not: walked; told as the printed texts are. -/
set_option linter.unusedVariables false
set_option linter.unusedSimpArgs false
namespace Go.Proofs.YtjgdpcblenahkaaDoorQ
open Go.RowKit Go.Proofs.Bs Go.Proofs.YtjgdpcblenahkaaDoor

def notF (x y : Nat) : Nat := 18446744073709551615 - x
theorem not_nat (x : Nat) (hx : x < 18446744073709551616) : bits .xor .u64 IntKind.u64.max (x : Int) = ((18446744073709551615 - x : Nat) : Int) := by
  have h := u64_xor_nat 18446744073709551615 x (by decide) hx
  have e : (18446744073709551615 ^^^ x : Nat) = 18446744073709551615 - x := by
    apply Nat.eq_of_testBit_eq
    intro i
    rw [Nat.testBit_xor]
    by_cases hi : i < 64
    · rw [testBit_compl hx i hi, show (18446744073709551615 : Nat) = 2 ^ 64 - 1 by decide, Nat.testBit_two_pow_sub_one]
      simp [hi]
    · have hp : (2 : Nat) ^ 64 ≤ 2 ^ i := Nat.pow_le_pow_right (by decide) (by omega)
      rw [Nat.testBit_lt_two_pow (show 18446744073709551615 - x < 2 ^ i by omega), Nat.testBit_lt_two_pow (show x < 2 ^ i by omega), Nat.testBit_lt_two_pow (show 18446744073709551615 < 2 ^ i by omega)]
      rfl
  rw [e] at h
  exact h
theorem not1_any (x y : Nat) (w : World) (hx : x < W) (hy : y < W) : Calls Tryd.prog 52 #[.int .u64 x, .int .u64 y] w fun e w' => e = .returned (.int .u64 (notF x y : Nat)) ∧ w = w' := by
  go_enter Tryd.func52, Tryd.ntmps52
  go_wp2
  go_ret
  exact ⟨ret_int (not_nat x hx), rfl⟩

def notTo (s t : S) (i : Nat) : S := ⟨if 0 < i then notF s.a t.a else s.a, if 1 < i then notF s.b t.b else s.b, if 2 < i then notF s.c t.c else s.c, if 3 < i then notF s.d t.d else s.d⟩
set_option maxRecDepth 100000 in
set_option maxHeartbeats 6400000 in
theorem each_not (s t : S) (w : World) (hs : s.wf) (ht : t.wf) : Calls Tryd.prog 51 #[.agg #[.int .u64 s.a, .int .u64 s.b, .int .u64 s.c, .int .u64 s.d], .agg #[.int .u64 t.a, .int .u64 t.b, .int .u64 t.c, .int .u64 t.d], .func (Fn.func 52) #[] #[]] w fun e w' => e = .returned (.agg #[.int .u64 (Bs.not s).a, .int .u64 (Bs.not s).b, .int .u64 (Bs.not s).c, .int .u64 (Bs.not s).d]) ∧ Below w.heap.size w w' := by
  go_enter Tryd.func51, Tryd.ntmps51
  go_wp2_with fail
  go_loopw [8] (fun i_ wr => ∃ i : Nat, i_ = .int .i64 i ∧ i ≤ 4 ∧ (wr.cell? ⟨w.heap.size, 0, none⟩ = some (.int .u64 ((notTo s t i).a : Nat)) ∧ wr.cell? ⟨w.heap.size, 1, none⟩ = some (.int .u64 ((notTo s t i).b : Nat)) ∧ wr.cell? ⟨w.heap.size, 2, none⟩ = some (.int .u64 ((notTo s t i).c : Nat)) ∧ wr.cell? ⟨w.heap.size, 3, none⟩ = some (.int .u64 ((notTo s t i).d : Nat))) ∧
    wr.cell? ⟨w.heap.size + 1, 0, none⟩ = some (.int .u64 (t.a : Nat)) ∧ wr.cell? ⟨w.heap.size + 1, 1, none⟩ = some (.int .u64 (t.b : Nat)) ∧ wr.cell? ⟨w.heap.size + 1, 2, none⟩ = some (.int .u64 (t.c : Nat)) ∧ wr.cell? ⟨w.heap.size + 1, 3, none⟩ = some (.int .u64 (t.d : Nat)) ∧ (∀ j, wr.frozen? ⟨w.heap.size, j, none⟩ = false) ∧ (∀ j, wr.frozen? ⟨w.heap.size + 1 + 1, j, none⟩ = false) ∧ (wr.cell? ⟨w.heap.size + 1 + 1, 0, none⟩ = some (.int .u64 0) ∧ wr.cell? ⟨w.heap.size + 1 + 1, 1, none⟩ = some (.int .u64 0) ∧ wr.cell? ⟨w.heap.size + 1 + 1, 2, none⟩ = some (.int .u64 0) ∧ wr.cell? ⟨w.heap.size + 1 + 1, 3, none⟩ = some (.int .u64 0)) ∧ w.heap.size + 2 < wr.heap.size ∧ Below w.heap.size w wr) (fun i_ _ => 4 - (intOf i_).toNat)
  case atStart =>
    refine ⟨0, rfl, by omega, ⟨(by show _ = some (Value.int .u64 ((s.a : Nat) : Int)); go_simp), (by show _ = some (Value.int .u64 ((s.b : Nat) : Int)); go_simp), (by show _ = some (Value.int .u64 ((s.c : Nat) : Int)); go_simp), (by show _ = some (Value.int .u64 ((s.d : Nat) : Int)); go_simp)⟩, by go_simp, by go_simp, by go_simp, by go_simp, fun j => by go_simp, fun j => by go_simp, ⟨by go_simp, by go_simp, by go_simp, by go_simp⟩, by simp, ?_⟩
    exact bel_alloc (bel_alloc (bel_alloc (Below.refl _ _) _) _) _
  case round =>
    obtain ⟨i, rfl, hi, ⟨c0, c1, c2, c3⟩, d0, d1, d2, d3, fz, fz2, ⟨r0, r1, r2, r3⟩, hsz, hb⟩ := hrel
    by_cases hlt : i < 4
    · rcases (show i = 0 ∨ i = 1 ∨ i = 2 ∨ i = 3 by omega) with rfl | rfl | rfl | rfl
      all_goals simp only [notTo, Nat.lt_irrefl, if_false, if_true, show (0 < 1) = True by decide, show (0 < 2) = True by decide, show (1 < 2) = True by decide, show (0 < 3) = True by decide, show (1 < 3) = True by decide, show (2 < 3) = True by decide, show (1 < 0) = False by decide, show (2 < 0) = False by decide, show (3 < 0) = False by decide, show (2 < 1) = False by decide, show (3 < 1) = False by decide, show (3 < 2) = False by decide] at c0 c1 c2 c3
      case inl =>
        go_wp2_with fail
        go_region_with (first
          | (go_at_call 52; refine (not1_any s.a t.a _ hs.a ht.a).mono ?_; rintro e w' ⟨rfl, hw⟩; subst hw))
        all_goals
          go_wp2_with fail
          go_roundw
          case rel =>
            refine ⟨1, by first | rfl | go_num, by omega, ?_, by go_simp, by go_simp, by go_simp, by go_simp, fun j => by go_simp, fun j => by go_simp, ⟨by go_simp, by go_simp, by go_simp, by go_simp⟩, by simp; omega, bel_drew (bel_set hb (by simp) _)⟩
            exact ⟨(by show _ = some (Value.int .u64 ((notF s.a t.a : Nat) : Int)); go_simp), (by show _ = some (Value.int .u64 ((s.b : Nat) : Int)); go_simp), (by show _ = some (Value.int .u64 ((s.c : Nat) : Int)); go_simp), (by show _ = some (Value.int .u64 ((s.d : Nat) : Int)); go_simp)⟩
          case measure => simp [intOf] <;> omega
      case inr.inl =>
        go_wp2_with fail
        go_region_with (first
          | (go_at_call 52; refine (not1_any s.b t.b _ hs.b ht.b).mono ?_; rintro e w' ⟨rfl, hw⟩; subst hw))
        all_goals
          go_wp2_with fail
          go_roundw
          case rel =>
            refine ⟨2, by first | rfl | go_num, by omega, ?_, by go_simp, by go_simp, by go_simp, by go_simp, fun j => by go_simp, fun j => by go_simp, ⟨by go_simp, by go_simp, by go_simp, by go_simp⟩, by simp; omega, bel_drew (bel_set hb (by simp) _)⟩
            exact ⟨(by show _ = some (Value.int .u64 ((notF s.a t.a : Nat) : Int)); go_simp), (by show _ = some (Value.int .u64 ((notF s.b t.b : Nat) : Int)); go_simp), (by show _ = some (Value.int .u64 ((s.c : Nat) : Int)); go_simp), (by show _ = some (Value.int .u64 ((s.d : Nat) : Int)); go_simp)⟩
          case measure => simp [intOf] <;> omega
      case inr.inr.inl =>
        go_wp2_with fail
        go_region_with (first
          | (go_at_call 52; refine (not1_any s.c t.c _ hs.c ht.c).mono ?_; rintro e w' ⟨rfl, hw⟩; subst hw))
        all_goals
          go_wp2_with fail
          go_roundw
          case rel =>
            refine ⟨3, by first | rfl | go_num, by omega, ?_, by go_simp, by go_simp, by go_simp, by go_simp, fun j => by go_simp, fun j => by go_simp, ⟨by go_simp, by go_simp, by go_simp, by go_simp⟩, by simp; omega, bel_drew (bel_set hb (by simp) _)⟩
            exact ⟨(by show _ = some (Value.int .u64 ((notF s.a t.a : Nat) : Int)); go_simp), (by show _ = some (Value.int .u64 ((notF s.b t.b : Nat) : Int)); go_simp), (by show _ = some (Value.int .u64 ((notF s.c t.c : Nat) : Int)); go_simp), (by show _ = some (Value.int .u64 ((s.d : Nat) : Int)); go_simp)⟩
          case measure => simp [intOf] <;> omega
      case inr.inr.inr =>
        go_wp2_with fail
        go_region_with (first
          | (go_at_call 52; refine (not1_any s.d t.d _ hs.d ht.d).mono ?_; rintro e w' ⟨rfl, hw⟩; subst hw))
        all_goals
          go_wp2_with fail
          go_roundw
          case rel =>
            refine ⟨4, by first | rfl | go_num, by omega, ?_, by go_simp, by go_simp, by go_simp, by go_simp, fun j => by go_simp, fun j => by go_simp, ⟨by go_simp, by go_simp, by go_simp, by go_simp⟩, by simp; omega, bel_drew (bel_set hb (by simp) _)⟩
            exact ⟨(by show _ = some (Value.int .u64 ((notF s.a t.a : Nat) : Int)); go_simp), (by show _ = some (Value.int .u64 ((notF s.b t.b : Nat) : Int)); go_simp), (by show _ = some (Value.int .u64 ((notF s.c t.c : Nat) : Int)); go_simp), (by show _ = some (Value.int .u64 ((notF s.d t.d : Nat) : Int)); go_simp)⟩
          case measure => simp [intOf] <;> omega
    · obtain rfl : i = 4 := by omega
      simp only [notTo, if_true, show (0 < 4) = True by decide, show (1 < 4) = True by decide, show (2 < 4) = True by decide, show (3 < 4) = True by decide] at c0 c1 c2 c3
      go_wp2_with fail
      refine bodyPost_ret (v := .agg #[.int .u64 (notF s.a t.a : Nat), .int .u64 (notF s.b t.b : Nat), .int .u64 (notF s.c t.c : Nat), .int .u64 (notF s.d t.d : Nat)]) (by simp [results, Tryd.results51, go_sem, r0, r1, r2, r3, fz2]) rfl ⟨rfl, ?_⟩
      exact bel_set (bel_set (bel_set (bel_set hb (by simp; omega) _) (by simp; omega) _) (by simp; omega) _) (by simp; omega) _
set_option maxRecDepth 100000 in
set_option maxHeartbeats 3200000 in
theorem not_any (s : S) (w : World) (hs : s.wf) : Calls Tryd.prog 13 #[.agg #[.int .u64 s.a, .int .u64 s.b, .int .u64 s.c, .int .u64 s.d]] w fun e w' => e = .returned (.agg #[.int .u64 (Bs.not s).a, .int .u64 (Bs.not s).b, .int .u64 (Bs.not s).c, .int .u64 (Bs.not s).d]) ∧ Below w.heap.size w w' := by
  go_enter Tryd.func13, Tryd.ntmps13
  go_wp2_with fail
  refine (each_not s s _ hs hs).mono ?_
  rintro e w1 ⟨rfl, hb1⟩
  have hz := hb1.size
  have r0 : w1.cell? ⟨w.heap.size + 1, 0, none⟩ = some (.int .u64 0) := (hb1.cell (p := ⟨w.heap.size + 1, 0, none⟩) (by simp)).trans (by go_simp)
  have r1 : w1.cell? ⟨w.heap.size + 1, 1, none⟩ = some (.int .u64 0) := (hb1.cell (p := ⟨w.heap.size + 1, 1, none⟩) (by simp)).trans (by go_simp)
  have r2 : w1.cell? ⟨w.heap.size + 1, 2, none⟩ = some (.int .u64 0) := (hb1.cell (p := ⟨w.heap.size + 1, 2, none⟩) (by simp)).trans (by go_simp)
  have r3 : w1.cell? ⟨w.heap.size + 1, 3, none⟩ = some (.int .u64 0) := (hb1.cell (p := ⟨w.heap.size + 1, 3, none⟩) (by simp)).trans (by go_simp)
  have fz : ∀ j, w1.frozen? ⟨w.heap.size + 1, j, none⟩ = false := fun j => (hb1.frozen (p := ⟨w.heap.size + 1, j, none⟩) (by simp)).trans (by go_simp)
  have hb : Below w.heap.size w w1 := bel_then (bel_alloc (bel_alloc (Below.refl _ _) _) _) hb1
  go_wp2_with fail
  refine bodyPost_ret (v := .agg #[.int .u64 (Bs.not s).a, .int .u64 (Bs.not s).b, .int .u64 (Bs.not s).c, .int .u64 (Bs.not s).d]) (by simp [results, Tryd.results13, go_sem, r0, r1, r2, r3, fz]) rfl ⟨rfl, ?_⟩
  exact bel_set (bel_set (bel_set (bel_set hb (by first | (simp; done) | (simp; omega)) _) (by first | (simp; done) | (simp; omega)) _) (by first | (simp; done) | (simp; omega)) _) (by first | (simp; done) | (simp; omega)) _

def byteset_Not.f (a0_0 a0_1 a0_2 a0_3 : Int) : Option (Int × Int × Int × Int) := if wfI a0_0 a0_1 a0_2 a0_3 then some (four (Bs.not (setI a0_0 a0_1 a0_2 a0_3))) else none
theorem byteset_Not.calls (a0_0 a0_1 a0_2 a0_3 : Int) (r1 r2 r3 r4 : Int) (w : World) (h : byteset_Not.f a0_0 a0_1 a0_2 a0_3 = some (r1, r2, r3, r4)) :
    Calls Tryd.prog 13 #[.agg #[.int .u64 a0_0, .int .u64 a0_1, .int .u64 a0_2, .int .u64 a0_3]] w fun e w' => e = .returned (.agg #[.int .u64 r1, .int .u64 r2, .int .u64 r3, .int .u64 r4]) ∧ Below w.heap.size w w' := by
  unfold byteset_Not.f at h
  split at h
  case isFalse => cases h
  case isTrue c =>
    injection h with h
    unfold four at h
    injection h with h1 h
    injection h with h2 h
    injection h with h3 h4
    subst h1 h2 h3 h4
    obtain ⟨e0, e1, e2, e3⟩ := setI_cast c
    have hw := not_any (setI a0_0 a0_1 a0_2 a0_3) w (setI_wf c)
    rw [e0, e1, e2, e3] at hw
    exact hw
end Go.Proofs.YtjgdpcblenahkaaDoorQ
