/- The walks of package tree: First. -/
import Derived.Test.YtghkkganbhpbhaaTree1
set_option linter.unusedVariables false
set_option linter.unusedSimpArgs false
namespace Go.Proofs.Ytghkkganbhpbhaa
open Go.RowKit Go.Proofs.Bs

set_option maxHeartbeats 800000 in
theorem first_any (A : Option Addr) (n c : Nat) (l : List Nd) (i : Int) (w : World) (h : Reads w 7 A n (l.flatMap Nd.cells)) (hn : n ≤ 140737488351232) :
    Calls Try.prog 29 #[.slice A n c, .int .i64 i] w fun e w' => e = .returned (.int .i64 (firstI l i)) ∧ w = w' := by
  have hl := h.length Nd.cells Nd.cells_length (by omega)
  by_cases h0 : i < 0
  · have HL := Lib.hid hl
    clear hl
    go_enter Try.func29, Try.ntmps29
    go_wp2
    go_ret
    exact ⟨ret_int (by unfold firstI; rw [if_pos (by omega)]), rfl⟩
  by_cases h1 : (n : Int) ≤ i
  · have HL := Lib.hid hl
    clear hl
    go_enter Try.func29, Try.ntmps29
    go_wp2
    go_ret
    exact ⟨ret_int (by unfold firstI; rw [if_pos (by rw [HL.out]; omega)]), rfl⟩
  obtain ⟨i0, rfl⟩ := Int.eq_ofNat_of_zero_le (show 0 ≤ i by omega)
  have hi : i0 < n := by omega
  have hF : firstI l (i0 : Int) = scanDown l (i0 + 1) 1 := by unfold firstI; rw [if_neg (by rw [hl]; omega), Int.toNat_natCast]
  have HF := Lib.hid hF
  clear hF hl
  go_enter Try.func29, Try.ntmps29
  go_wp2
  go_loop [1, 5] (fun i m => ∃ (k : Nat) (q : Int), k ≤ i0 + 1 ∧ ((k = 0 ∧ i = .int .i64 (-1)) ∨ ∃ j : Nat, k = j + 1 ∧ i = .int .i64 j) ∧ m = .int .i64 q ∧ 1 ≤ q ∧ q + k ≤ i0 + 2 ∧ scanDown l k q = scanDown l (i0 + 1) 1) (fun i _ => (intOf i + 1).toNat)
  case atStart => exact ⟨i0 + 1, 1, by omega, .inr ⟨i0, rfl, rfl⟩, rfl, by omega, by omega, rfl⟩
  case round =>
    obtain ⟨k, q, hk, hi', rfl, hq, hqk, hs⟩ := hrel
    have HS := Lib.hid hs
    clear hs
    rcases hi' with ⟨hk0, rfl⟩ | ⟨j, hkj, rfl⟩
    · go_wp2
      go_ret
      subst hk0
      exact ⟨ret_int (by rw [HF.out, ← HS.out]; rfl), rfl⟩
    · have hjn : j < n := by omega
      obtain ⟨ad, x, rfl, hx, c0, c1, c2, c3, c4, c5, c6⟩ := h.nd hjn
      have HX := Lib.hid hx
      have HK := Lib.hid hkj
      clear hx hkj c1 c2 c3 c4 c5 c6
      have a1 := arity_lo x.kind
      have a2 := arity_hi x.kind
      by_cases ha : arity x.kind < 0
      · go_wp2_with (go_at_call 24; refine (args_any _ _).mono ?_; rintro e w1 ⟨rfl, rfl⟩)
        go_ret
        exact ⟨ret_int (by rw [HF.out, ← HS.out, HK.out, scan_step HX.out, if_pos ha]), rfl⟩
      · by_cases hz : q + (arity x.kind - 1) = 0
        · have HZ := Lib.hid hz
          have hz' : (q + (arity x.kind - 1) == 0) = true := by rw [beq_iff_eq]; exact hz
          clear hz
          go_wp2_with (go_at_call 24; refine (args_any _ _).mono ?_; rintro e w1 ⟨rfl, rfl⟩)
          go_ret
          exact ⟨ret_int (by rw [HF.out, ← HS.out, HK.out, scan_step HX.out, if_neg (by omega), if_pos HZ.out]), rfl⟩
        · go_wp2_with (go_at_call 24; refine (args_any _ _).mono ?_; rintro e w1 ⟨rfl, rfl⟩)
          go_round
          case rel =>
            have hk' := HK.out
            refine ⟨j, q + (arity x.kind - 1), by omega, ?_, rfl, by omega, by omega, ?_⟩
            · cases j with
              | zero => exact .inl ⟨rfl, by go_num⟩
              | succ j => exact .inr ⟨j, rfl, by go_num⟩
            · rw [← HS.out, hk', scan_step HX.out, if_neg (by omega), if_neg hz]
          case measure => simp [intOf] <;> omega

end Go.Proofs.Ytghkkganbhpbhaa
