/- Pruned from its seat's text: what the theorem hangs on. -/
import Derived.Test.YtibabfgfahlekaaBQXBytesetOr
/- byteset.Of: walked; told as the printed texts are. -/
set_option linter.unusedVariables false
set_option linter.unusedSimpArgs false
namespace Go.Proofs.YtibabfgfahlekaaQ
open Go.RowKit Go.Proofs.Bs Go.Proofs.Ytibabfgfahlekaa Go.Proofs.YtibabfgfahlekaaW.PrintWords

def bytesOk (l : List Int) : Bool := l.all fun x => decide (0 ≤ x) && decide (x < 256)
def ofK (l : List Int) (k : Nat) : S := puts S.zero ((l.take k).map Int.toNat)
theorem ofK_wf (l : List Int) (k : Nat) : (ofK l k).wf := wf_puts S.wf_zero _
theorem ofK_succ (l : List Int) (k : Nat) (h : k < l.length) : ofK l (k + 1) = put (ofK l k) (rd l k).toNat := by
  have e : l.take (k + 1) = l.take k ++ [l[k]] := by rw [List.take_succ_eq_append_getElem h]
  unfold ofK
  rw [e, List.map_append, puts, List.foldl_append]
  simp [puts, rd, List.getD_eq_getElem?_getD, List.getElem?_eq_getElem h]
theorem wrap_bit (n : Nat) (hn : n < 64) : IntKind.u64.wrap (2 ^ n) = 2 ^ n := by
  have h : (2 : Nat) ^ n ≤ 2 ^ 63 := Nat.pow_le_pow_right (by omega) (by omega)
  have e : ((2 ^ n : Nat) : Int) = 2 ^ n := by simp
  rw [← e]
  rw [IntKind.wrap_u64]
  generalize (2 : Nat) ^ n = m at *
  omega
theorem or_bit (x n : Nat) (hx : x < W) (hn : n < 64) : bits .or .u64 (x : Int) (2 ^ n) = ((x ||| 2 ^ n : Nat) : Int) := by
  have hp : 2 ^ n < W := by
    have : 2 ^ n ≤ 2 ^ 63 := Nat.pow_le_pow_right (by omega) (by omega)
    have e : W = 2 ^ 64 := W_eq
    omega
  have h := u64_or_nat x (2 ^ n) hx hp
  have e : ((2 ^ n : Nat) : Int) = 2 ^ n := by simp
  rw [← e]
  exact h
theorem put_word (s : S) (b : Int) (h0 : 0 ≤ b) (h1 : b < 256) (q : Nat) (hq : b / 64 = q) : put s b.toNat = s.setWord q (s.word q ||| 2 ^ (b % 64).toNat) := by
  unfold put
  rw [show b.toNat / 64 = q by omega, show b.toNat % 64 = (b % 64).toNat by omega]
set_option maxRecDepth 100000 in
set_option maxHeartbeats 3200000 in
theorem of_walk (A0 : Option Addr) (c0 : Nat) (l : List Int) (hl : ∀ x ∈ l, 0 ≤ x ∧ x < 256) (hlen : l.length ≤ 140737488355328) (w : World) (hr : Kd.C (Kd.int .u8) w A0 l.length l) (hc : l.length ≤ c0) :
    Calls Try.prog 31 #[.slice A0 l.length c0] w fun e w' => e = .returned (.agg #[.int .u64 (ofK l l.length).a, .int .u64 (ofK l l.length).b, .int .u64 (ofK l l.length).c, .int .u64 (ofK l l.length).d]) ∧ Below w.heap.size w w' := by
  go_enter Try.func31, Try.ntmps31
  go_wp2_with fail
  go_loopw [5, 8] (fun v5 v8 wr => ∃ k : Nat, v8 = .int .i64 k ∧ k ≤ l.length ∧ (wr.cell? ⟨w.heap.size + 1, 0, none⟩ = some (.int .u64 ((ofK l k).a : Nat)) ∧ wr.cell? ⟨w.heap.size + 1, 1, none⟩ = some (.int .u64 ((ofK l k).b : Nat)) ∧ wr.cell? ⟨w.heap.size + 1, 2, none⟩ = some (.int .u64 ((ofK l k).c : Nat)) ∧ wr.cell? ⟨w.heap.size + 1, 3, none⟩ = some (.int .u64 ((ofK l k).d : Nat))) ∧
    (∀ j, wr.frozen? ⟨w.heap.size + 1, j, none⟩ = false) ∧ (∀ j, wr.frozen? ⟨w.heap.size, j, none⟩ = false) ∧ (wr.cell? ⟨w.heap.size, 0, none⟩ = some (.int .u64 0) ∧ wr.cell? ⟨w.heap.size, 1, none⟩ = some (.int .u64 0) ∧ wr.cell? ⟨w.heap.size, 2, none⟩ = some (.int .u64 0) ∧ wr.cell? ⟨w.heap.size, 3, none⟩ = some (.int .u64 0)) ∧ w.heap.size + 1 < wr.heap.size ∧ Below w.heap.size w wr) (fun _ v8 _ => l.length - (intOf v8).toNat)
  case atStart =>
    refine ⟨0, rfl, by omega, ⟨(by show _ = some (Value.int .u64 0); go_simp), (by show _ = some (Value.int .u64 0); go_simp), (by show _ = some (Value.int .u64 0); go_simp), (by show _ = some (Value.int .u64 0); go_simp)⟩, fun j => by go_simp, fun j => by go_simp, ⟨by go_simp, by go_simp, by go_simp, by go_simp⟩, by simp, ?_⟩
    exact bel_alloc (bel_alloc (Below.refl _ _) _) _
  case round =>
    obtain ⟨k, rfl, hk, ⟨d0, d1, d2, d3⟩, fz, fz2, ⟨r0, r1, r2, r3⟩, hsz, hb⟩ := hrel
    by_cases hlt : k < l.length
    · have hS := Lib.hid (ofK_succ l k hlt)
      obtain ⟨ad, rfl, hx⟩ := Kd.at_int hr (k : Int) (by omega) (by omega)
      rw [Int.toNat_natCast] at hx
      have hx' := (hb.cell (World.block_lt_of_cell? w _ hx)).trans hx
      obtain ⟨b0, b1⟩ := hl (rd l k) (by
        unfold rd
        rw [List.getD_eq_getElem?_getD, Int.toNat_natCast, List.getElem?_eq_getElem hlt]
        exact List.getElem_mem hlt)
      generalize rd l k = b at *
      clear hx hr hl
      have hwf := ofK_wf l k
      have hw := Lib.hid (wrap_bit (b % 64).toNat (by omega))
      have o0 := Lib.hid (or_bit (ofK l k).a (b % 64).toNat hwf.a (by omega))
      have o1 := Lib.hid (or_bit (ofK l k).b (b % 64).toNat hwf.b (by omega))
      have o2 := Lib.hid (or_bit (ofK l k).c (b % 64).toNat hwf.c (by omega))
      have o3 := Lib.hid (or_bit (ofK l k).d (b % 64).toNat hwf.d (by omega))
      rcases (show b / 64 = (0 : Nat) ∨ b / 64 = (1 : Nat) ∨ b / 64 = (2 : Nat) ∨ b / 64 = (3 : Nat) by omega) with hq | hq | hq | hq
      · have hS2 := Lib.hid (put_word (ofK l k) b b0 b1 0 hq)
        go_wp2_with fail
        go_roundw
        case rel =>
          refine ⟨k + 1, by go_num, by omega, ?_, fun j => by go_simp, fun j => by go_simp, ⟨by go_simp, by go_simp, by go_simp, by go_simp⟩, by simp; omega, bel_set hb (by simp) _⟩
          rw [hS.out, hS2.out]
          exact ⟨(by rw [hw.out, o0.out]; show _ = some (Value.int .u64 (((ofK l k).a ||| 2 ^ (b % 64).toNat : Nat) : Int)); go_simp), (by show _ = some (Value.int .u64 (((ofK l k).b : Nat) : Int)); go_simp), (by show _ = some (Value.int .u64 (((ofK l k).c : Nat) : Int)); go_simp), (by show _ = some (Value.int .u64 (((ofK l k).d : Nat) : Int)); go_simp)⟩
        case measure => simp [intOf]; omega
      · have hS2 := Lib.hid (put_word (ofK l k) b b0 b1 1 hq)
        go_wp2_with fail
        go_roundw
        case rel =>
          refine ⟨k + 1, by go_num, by omega, ?_, fun j => by go_simp, fun j => by go_simp, ⟨by go_simp, by go_simp, by go_simp, by go_simp⟩, by simp; omega, bel_set hb (by simp) _⟩
          rw [hS.out, hS2.out]
          exact ⟨(by show _ = some (Value.int .u64 (((ofK l k).a : Nat) : Int)); go_simp), (by rw [hw.out, o1.out]; show _ = some (Value.int .u64 (((ofK l k).b ||| 2 ^ (b % 64).toNat : Nat) : Int)); go_simp), (by show _ = some (Value.int .u64 (((ofK l k).c : Nat) : Int)); go_simp), (by show _ = some (Value.int .u64 (((ofK l k).d : Nat) : Int)); go_simp)⟩
        case measure => simp [intOf]; omega
      · have hS2 := Lib.hid (put_word (ofK l k) b b0 b1 2 hq)
        go_wp2_with fail
        go_roundw
        case rel =>
          refine ⟨k + 1, by go_num, by omega, ?_, fun j => by go_simp, fun j => by go_simp, ⟨by go_simp, by go_simp, by go_simp, by go_simp⟩, by simp; omega, bel_set hb (by simp) _⟩
          rw [hS.out, hS2.out]
          exact ⟨(by show _ = some (Value.int .u64 (((ofK l k).a : Nat) : Int)); go_simp), (by show _ = some (Value.int .u64 (((ofK l k).b : Nat) : Int)); go_simp), (by rw [hw.out, o2.out]; show _ = some (Value.int .u64 (((ofK l k).c ||| 2 ^ (b % 64).toNat : Nat) : Int)); go_simp), (by show _ = some (Value.int .u64 (((ofK l k).d : Nat) : Int)); go_simp)⟩
        case measure => simp [intOf]; omega
      · have hS2 := Lib.hid (put_word (ofK l k) b b0 b1 3 hq)
        go_wp2_with fail
        go_roundw
        case rel =>
          refine ⟨k + 1, by go_num, by omega, ?_, fun j => by go_simp, fun j => by go_simp, ⟨by go_simp, by go_simp, by go_simp, by go_simp⟩, by simp; omega, bel_set hb (by simp) _⟩
          rw [hS.out, hS2.out]
          exact ⟨(by show _ = some (Value.int .u64 (((ofK l k).a : Nat) : Int)); go_simp), (by show _ = some (Value.int .u64 (((ofK l k).b : Nat) : Int)); go_simp), (by show _ = some (Value.int .u64 (((ofK l k).c : Nat) : Int)); go_simp), (by rw [hw.out, o3.out]; show _ = some (Value.int .u64 (((ofK l k).d ||| 2 ^ (b % 64).toNat : Nat) : Int)); go_simp)⟩
        case measure => simp [intOf]; omega
    · obtain rfl : k = l.length := by omega
      go_wp2_with fail
      refine bodyPost_ret (v := .agg #[.int .u64 (ofK l l.length).a, .int .u64 (ofK l l.length).b, .int .u64 (ofK l l.length).c, .int .u64 (ofK l l.length).d]) (by simp [results, Try.results31, go_sem, r0, r1, r2, r3, fz2]) rfl ⟨rfl, ?_⟩
      exact bel_set (bel_set (bel_set (bel_set hb (by simp) _) (by simp) _) (by simp) _) (by simp) _

def byteset_Of.f (l0 : List Int) : Option (Int × Int × Int × Int) := if bytesOk l0 = true ∧ l0.length ≤ 140737488355328 then some (four (ofK l0 l0.length)) else none
theorem byteset_Of.calls (A0 : Option Addr) (c0 : Nat) (l0 : List Int) (r1 r2 r3 r4 : Int) (w : World) (hr0 : Kd.C (Kd.int .u8) w A0 l0.length l0) (hc0 : l0.length ≤ c0) (h : byteset_Of.f l0 = some (r1, r2, r3, r4)) :
    Calls Try.prog 31 #[.slice A0 l0.length c0] w fun e w' => e = .returned (.agg #[.int .u64 r1, .int .u64 r2, .int .u64 r3, .int .u64 r4]) ∧ Below w.heap.size w w' := by
  unfold byteset_Of.f at h
  split at h
  case isFalse => cases h
  case isTrue c =>
    injection h with h
    unfold four at h
    injection h with h1 h
    injection h with h2 h
    injection h with h3 h4
    subst h1 h2 h3 h4
    refine of_walk A0 c0 l0 (fun x hx => ?_) c.2 w hr0 hc0
    have := List.all_eq_true.1 c.1 x hx
    simpa using this
end Go.Proofs.YtibabfgfahlekaaQ
