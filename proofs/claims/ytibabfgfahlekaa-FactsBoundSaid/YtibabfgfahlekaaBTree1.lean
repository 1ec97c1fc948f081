/- Pruned from its seat's text: what the theorem hangs on. -/
import Derived.Test.YtibabfgfahlekaaBBase
/- The walks of package tree: Args, fields, Right. -/
set_option linter.unusedVariables false
set_option linter.unusedSimpArgs false
namespace Go.Proofs.Ytibabfgfahlekaa
open Go.RowKit Go.Proofs.Bs
attribute [local go_sem] eqSet

set_option maxHeartbeats 400000 in
theorem args_any (k : Int) (w : World) : Calls Try.prog 36 #[.int .i64 k] w fun e w' => e = .returned (.int .i64 (arity k)) ∧ w = w' := by
  go_enter Try.func36, Try.ntmps36
  go_wp2
  all_goals (go_ret; exact ⟨by simp_all [arity], rfl⟩)

set_option maxHeartbeats 400000 in
theorem fields_any (n : Nd) (w : World) : Calls Try.prog 46 #[.agg #[.int .i64 n.kind, .int .u64 n.set.a, .int .u64 n.set.b, .int .u64 n.set.c, .int .u64 n.set.d, .int .i64 n.lo, .int .i64 n.hi]] w fun e w' => e = .returned (.bool (fieldsB n)) ∧ Below w.heap.size w w' := by
  go_enter Try.func46, Try.ntmps46
  go_wp2
  all_goals (go_ret; refine ⟨ret_bool ?_, (Below.refl _ _).alloc (Nat.le_refl _) _⟩)
  all_goals (unfold fieldsB; grind)

set_option maxHeartbeats 800000 in
theorem right_any (A : Option Addr) (n c : Nat) (l : List Nd) (w : World) (h : Reads w 7 A n (l.flatMap Nd.cells)) (hn : n ≤ 140737488351232) :
    Calls Try.prog 35 #[.slice A n c] w fun e w' => e = .returned (.bool (rightB l)) ∧ Below w.heap.size w w' := by
  have hl := h.length Nd.cells Nd.cells_length (by omega)
  by_cases h5 : 512 < n
  · go_enter Try.func35, Try.ntmps35
    go_wp2
    go_ret
    exact ⟨ret_bool (by unfold rightB; rw [if_pos (by omega)]), Below.refl _ _⟩
  · have HL := Lib.hid hl
    clear hl
    go_enter Try.func35, Try.ntmps35
    go_wp2
    go_loopw [2, 3, 12] (fun r o i wr => ∃ (k : Nat) (m : Int), k ≤ n ∧ r = .bool false ∧ i = .int .i64 k ∧ o = .int .i64 m ∧ 0 ≤ m ∧ m ≤ k ∧ rightFrom (l.drop k) m = rightFrom l 0 ∧ Below w.heap.size w wr) (fun _ _ i _ => n - (intOf i).toNat)
    case atStart => exact ⟨0, 0, Nat.zero_le _, rfl, rfl, rfl, by omega, by omega, rfl, Below.refl _ _⟩
    case round =>
      obtain ⟨k, m, hk, rfl, rfl, rfl, hm0, hmk, hr, hb⟩ := hrel
      have HR := Lib.hid hr
      clear hr
      by_cases hlt : k < n
      · obtain ⟨ad, x, rfl, hx, c0, c1, c2, c3, c4, c5, c6⟩ := (h.below hb).nd hlt
        have HX := Lib.hid hx
        clear hx
        have a1 := arity_lo x.kind
        have a2 := arity_hi x.kind
        go_wp2_with (first
          | (go_at_call 36; refine (args_any _ _).mono ?_; rintro e w1 ⟨rfl, rfl⟩)
          | (go_at_call 46; refine (fields_any x _).mono ?_; rintro e w1 ⟨rfl, hb1⟩))
        · go_ret
          refine ⟨ret_bool ?_, bel_then (bel_alloc hb _) hb1⟩
          have hr := HR.out
          rw [right_step HX.out, if_pos (by grind)] at hr
          unfold rightB
          rw [← hr, ite_self]
        · go_roundw
          case rel =>
            refine ⟨k + 1, m + (1 - arity x.kind), by omega, rfl, by go_num, rfl, by omega, by omega, ?_, bel_then (bel_alloc hb _) hb1⟩
            have hr := HR.out
            rw [right_step HX.out, if_neg (by grind)] at hr
            exact hr
          case measure => simp [intOf]; omega
        all_goals
          go_ret
          refine ⟨ret_bool ?_, bel_alloc hb _⟩
          have hr := HR.out
          rw [right_step HX.out, if_pos (by grind)] at hr
          unfold rightB
          rw [← hr, ite_self]
      · go_wp2_with fail
        go_ret
        refine ⟨ret_bool ?_, hb⟩
        have : k = n := by omega
        subst this
        have hr := HR.out
        rw [List.drop_eq_nil_of_le (by rw [HL.out]; omega)] at hr
        unfold rightB
        rw [if_neg (by rw [HL.out]; omega), ← hr]
        rfl

end Go.Proofs.Ytibabfgfahlekaa
