/- Pruned from its seat's text: what the theorem hangs on. -/
import Derived.Test.YtjgdpcblenahkaaDoorRQXBytesetOf
/- byteset.Range: walked; told as the printed texts are. -/
set_option linter.unusedVariables false
set_option linter.unusedSimpArgs false
namespace Go.Proofs.YtjgdpcblenahkaaDoorQ
open Go.RowKit Go.Proofs.Bs Go.Proofs.YtjgdpcblenahkaaDoor Go.Proofs.YtjgdpcblenahkaaDoorW.PrintWords

theorem i64_mask6 (b : Nat) (h : b < 18446744073709551616) : bits .and .i64 (b : Int) 63 = (b : Int) % 64 := by
  show IntKind.i64.wrap ((BitVec.ofInt 64 (b : Int) &&& BitVec.ofInt 64 63).toNat : Int) = _
  have h2 : (BitVec.ofInt 64 63).toNat = 63 := by decide
  rw [BitVec.toNat_and, ofInt_u64 b h, h2, nat_mask6, IntKind.wrap_i64]
  omega
theorem put_nat (s : S) (b q : Nat) (hq : b / 64 = q) : put s b = s.setWord q (s.word q ||| 2 ^ (b % 64)) := by
  unfold put
  rw [hq]
def rangeS (lo hi : Nat) : S := span S.zero lo (hi + 1 - lo)
theorem rangeS_wf (lo hi : Nat) : (rangeS lo hi).wf := wf_span S.wf_zero _ _
theorem span_succ (s : S) (lo n : Nat) : span s lo (n + 1) = put (span s lo n) (lo + n) := rfl
set_option maxRecDepth 100000 in
set_option maxHeartbeats 3200000 in
theorem range_walk (lo hi : Nat) (hlo : lo < 256) (hhi : hi < 256) (w : World) :
    Calls Tryd.prog 28 #[.int .u8 lo, .int .u8 hi] w fun e w' => e = .returned (.agg #[.int .u64 (rangeS lo hi).a, .int .u64 (rangeS lo hi).b, .int .u64 (rangeS lo hi).c, .int .u64 (rangeS lo hi).d]) ∧ Below w.heap.size w w' := by
  have hl8 : wrap64 (lo : Int) = lo := by unfold wrap64; omega
  have hh8 : wrap64 (hi : Int) = hi := by unfold wrap64; omega
  go_enter Tryd.func28, Tryd.ntmps28
  go_wp2_with fail
  go_loopw [6] (fun v6 wr => ∃ n : Nat, v6 = .int .i64 ((lo + n : Nat) : Int) ∧ n ≤ hi + 1 - lo ∧ (wr.cell? ⟨w.heap.size + 1, 0, none⟩ = some (.int .u64 ((span S.zero lo n).a : Nat)) ∧ wr.cell? ⟨w.heap.size + 1, 1, none⟩ = some (.int .u64 ((span S.zero lo n).b : Nat)) ∧ wr.cell? ⟨w.heap.size + 1, 2, none⟩ = some (.int .u64 ((span S.zero lo n).c : Nat)) ∧ wr.cell? ⟨w.heap.size + 1, 3, none⟩ = some (.int .u64 ((span S.zero lo n).d : Nat))) ∧
    (∀ j, wr.frozen? ⟨w.heap.size + 1, j, none⟩ = false) ∧ (∀ j, wr.frozen? ⟨w.heap.size, j, none⟩ = false) ∧ (wr.cell? ⟨w.heap.size, 0, none⟩ = some (.int .u64 0) ∧ wr.cell? ⟨w.heap.size, 1, none⟩ = some (.int .u64 0) ∧ wr.cell? ⟨w.heap.size, 2, none⟩ = some (.int .u64 0) ∧ wr.cell? ⟨w.heap.size, 3, none⟩ = some (.int .u64 0)) ∧ w.heap.size + 1 < wr.heap.size ∧ Below w.heap.size w wr) (fun v6 _ => hi + 1 - (intOf v6).toNat)
  case atStart =>
    refine ⟨0, by first | rfl | (simp; done) | go_num, by omega, ⟨(by show _ = some (Value.int .u64 0); go_simp), (by show _ = some (Value.int .u64 0); go_simp), (by show _ = some (Value.int .u64 0); go_simp), (by show _ = some (Value.int .u64 0); go_simp)⟩, fun j => by go_simp, fun j => by go_simp, ⟨by go_simp, by go_simp, by go_simp, by go_simp⟩, by simp, ?_⟩
    exact bel_alloc (bel_alloc (Below.refl _ _) _) _
  case round =>
    obtain ⟨n, rfl, hn, ⟨d0, d1, d2, d3⟩, fz, fz2, ⟨r0, r1, r2, r3⟩, hsz, hb⟩ := hrel
    by_cases hlt : lo + n ≤ hi
    · have hS := Lib.hid (span_succ S.zero lo n)
      have hwf := wf_span S.wf_zero lo n
      obtain ⟨b, hbe⟩ : ∃ b : Nat, b = lo + n := ⟨_, rfl⟩
      have hb1 : b < 256 := by omega
      have hbh : b ≤ hi := by omega
      have hN := Lib.hid hbe
      rw [← hbe] at hlt ⊢
      clear hbe
      have hw := Lib.hid (wrap_bit (b % 64) (by omega))
      have o0 := Lib.hid (or_bit (span S.zero lo n).a (b % 64) hwf.a (by omega))
      have o1 := Lib.hid (or_bit (span S.zero lo n).b (b % 64) hwf.b (by omega))
      have o2 := Lib.hid (or_bit (span S.zero lo n).c (b % 64) hwf.c (by omega))
      have o3 := Lib.hid (or_bit (span S.zero lo n).d (b % 64) hwf.d (by omega))
      have hw1_ := Lib.hid (show (b : Int) + 1 = ((lo + (n + 1) : Nat) : Int) by have h_ := hN.out; omega)
      have e63 := i64_mask6 b (by omega)
      rcases (show (b : Int) / 64 = (0 : Nat) ∨ (b : Int) / 64 = (1 : Nat) ∨ (b : Int) / 64 = (2 : Nat) ∨ (b : Int) / 64 = (3 : Nat) by omega) with hq | hq | hq | hq
      · have hS2 := Lib.hid (put_nat (span S.zero lo n) b 0 (by omega))
        go_wp2_with fail
        go_region
        all_goals
          go_wp2_with fail
          go_roundw
          case rel =>
            refine ⟨n + 1, by exact congrArg (Value.int .i64) hw1_.out, by have h_ := hN.out; omega, ?_, fun j => by go_simp, fun j => by go_simp, ⟨by go_simp, by go_simp, by go_simp, by go_simp⟩, by simp; omega, bel_drew (bel_set hb (by simp) _)⟩
            rw [hS.out, ← hN.out, hS2.out]
            exact ⟨(by rw [hw.out, o0.out]; show _ = some (Value.int .u64 (((span S.zero lo n).a ||| 2 ^ (b % 64) : Nat) : Int)); go_simp), (by show _ = some (Value.int .u64 (((span S.zero lo n).b : Nat) : Int)); go_simp), (by show _ = some (Value.int .u64 (((span S.zero lo n).c : Nat) : Int)); go_simp), (by show _ = some (Value.int .u64 (((span S.zero lo n).d : Nat) : Int)); go_simp)⟩
          case measure => have h_ := hN.out; simp [intOf, wrap64] <;> omega
      · have hS2 := Lib.hid (put_nat (span S.zero lo n) b 1 (by omega))
        go_wp2_with fail
        go_region
        all_goals
          go_wp2_with fail
          go_roundw
          case rel =>
            refine ⟨n + 1, by exact congrArg (Value.int .i64) hw1_.out, by have h_ := hN.out; omega, ?_, fun j => by go_simp, fun j => by go_simp, ⟨by go_simp, by go_simp, by go_simp, by go_simp⟩, by simp; omega, bel_drew (bel_set hb (by simp) _)⟩
            rw [hS.out, ← hN.out, hS2.out]
            exact ⟨(by show _ = some (Value.int .u64 (((span S.zero lo n).a : Nat) : Int)); go_simp), (by rw [hw.out, o1.out]; show _ = some (Value.int .u64 (((span S.zero lo n).b ||| 2 ^ (b % 64) : Nat) : Int)); go_simp), (by show _ = some (Value.int .u64 (((span S.zero lo n).c : Nat) : Int)); go_simp), (by show _ = some (Value.int .u64 (((span S.zero lo n).d : Nat) : Int)); go_simp)⟩
          case measure => have h_ := hN.out; simp [intOf, wrap64] <;> omega
      · have hS2 := Lib.hid (put_nat (span S.zero lo n) b 2 (by omega))
        go_wp2_with fail
        go_region
        all_goals
          go_wp2_with fail
          go_roundw
          case rel =>
            refine ⟨n + 1, by exact congrArg (Value.int .i64) hw1_.out, by have h_ := hN.out; omega, ?_, fun j => by go_simp, fun j => by go_simp, ⟨by go_simp, by go_simp, by go_simp, by go_simp⟩, by simp; omega, bel_drew (bel_set hb (by simp) _)⟩
            rw [hS.out, ← hN.out, hS2.out]
            exact ⟨(by show _ = some (Value.int .u64 (((span S.zero lo n).a : Nat) : Int)); go_simp), (by show _ = some (Value.int .u64 (((span S.zero lo n).b : Nat) : Int)); go_simp), (by rw [hw.out, o2.out]; show _ = some (Value.int .u64 (((span S.zero lo n).c ||| 2 ^ (b % 64) : Nat) : Int)); go_simp), (by show _ = some (Value.int .u64 (((span S.zero lo n).d : Nat) : Int)); go_simp)⟩
          case measure => have h_ := hN.out; simp [intOf, wrap64] <;> omega
      · have hS2 := Lib.hid (put_nat (span S.zero lo n) b 3 (by omega))
        go_wp2_with fail
        go_region
        all_goals
          go_wp2_with fail
          go_roundw
          case rel =>
            refine ⟨n + 1, by exact congrArg (Value.int .i64) hw1_.out, by have h_ := hN.out; omega, ?_, fun j => by go_simp, fun j => by go_simp, ⟨by go_simp, by go_simp, by go_simp, by go_simp⟩, by simp; omega, bel_drew (bel_set hb (by simp) _)⟩
            rw [hS.out, ← hN.out, hS2.out]
            exact ⟨(by show _ = some (Value.int .u64 (((span S.zero lo n).a : Nat) : Int)); go_simp), (by show _ = some (Value.int .u64 (((span S.zero lo n).b : Nat) : Int)); go_simp), (by show _ = some (Value.int .u64 (((span S.zero lo n).c : Nat) : Int)); go_simp), (by rw [hw.out, o3.out]; show _ = some (Value.int .u64 (((span S.zero lo n).d ||| 2 ^ (b % 64) : Nat) : Int)); go_simp)⟩
          case measure => have h_ := hN.out; simp [intOf, wrap64] <;> omega
    · have hn2 : n = hi + 1 - lo := by omega
      subst hn2
      go_wp2_with fail
      refine bodyPost_ret (v := .agg #[.int .u64 (rangeS lo hi).a, .int .u64 (rangeS lo hi).b, .int .u64 (rangeS lo hi).c, .int .u64 (rangeS lo hi).d]) (by simp [results, Tryd.results28, go_sem, r0, r1, r2, r3, fz2, rangeS]) rfl ⟨rfl, ?_⟩
      exact bel_set (bel_set (bel_set (bel_set hb (by simp) _) (by simp) _) (by simp) _) (by simp) _

def byteset_Range.f (a0 a1 : Int) : Option (Int × Int × Int × Int) := if (0 ≤ a0 ∧ a0 < 256) ∧ 0 ≤ a1 ∧ a1 < 256 then some (four (rangeS a0.toNat a1.toNat)) else none
theorem byteset_Range.calls (a0 a1 : Int) (r1 r2 r3 r4 : Int) (w : World) (h : byteset_Range.f a0 a1 = some (r1, r2, r3, r4)) :
    Calls Tryd.prog 28 #[.int .u8 a0, .int .u8 a1] w fun e w' => e = .returned (.agg #[.int .u64 r1, .int .u64 r2, .int .u64 r3, .int .u64 r4]) ∧ Below w.heap.size w w' := by
  unfold byteset_Range.f at h
  split at h
  case isFalse => cases h
  case isTrue c =>
    injection h with h
    unfold four at h
    injection h with h1 h
    injection h with h2 h
    injection h with h3 h4
    subst h1 h2 h3 h4
    have hw := range_walk a0.toNat a1.toNat (by omega) (by omega) w
    rw [Int.toNat_of_nonneg c.1.1, Int.toNat_of_nonneg c.2.1] at hw
    exact hw
end Go.Proofs.YtjgdpcblenahkaaDoorQ
