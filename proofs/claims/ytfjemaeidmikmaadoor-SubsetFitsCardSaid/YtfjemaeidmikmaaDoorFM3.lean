/- Several short texts of this proof, one behind the other. -/
import Derived.Test.YtfjemaeidmikmaaDoorFM2
import Derived.Test.YtfjemaeidmikmaaDoorFQTattingref07Fit
import Derived.Test.YtfjemaeidmikmaaDoorFFs2
section
namespace Go.Proofs.YtfjemaeidmikmaaDoorQ
open Go.RowKit Go.Proofs.YtfjemaeidmikmaaDoorW.PrintWords Go.Proofs.YtfjemaeidmikmaaDoorW.PrintLast Go.Proofs.YtfjemaeidmikmaaDoorW.PrintMore
attribute [local go_sem] max2_int min2_int max_two min_two max_three min_three max_four min_four
set_option linter.unusedVariables false
set_option linter.unusedSimpArgs false
def tattingref07_All.f (k : Nat) (l0 : List (S71)) (a1 : ByteArray) : Option ((List (List Bool))) := (tattingref07_Fit.f k l0 (wrap64 ((l0.length : Int) - 1)) a1).bind fun t101 => (some t101)
set_option maxHeartbeats 8000000 in
set_option maxRecDepth 100000 in
theorem tattingref07_All.calls (k : Nat) (A0 : Option Addr) (c0 : Nat) (l0 : List (S71)) (a1 : ByteArray) (r : List (List Bool)) (w : World) (hr0 : Kd.C k71 w A0 l0.length l0) (hc0 : l0.length ≤ c0) (h : tattingref07_All.f k l0 a1 = some r) :
    Calls Tryd.prog 16 #[.slice A0 l0.length c0, .string a1] w fun e w' => ∃ v0_ : Value, e = .returned (v0_) ∧ Kd.S (Kd.slice 4 Kd.bool) 28 w' w.heap.size (fun _ => True) v0_ r ∧ Below w.heap.size w w' := by
  have HR0 := Aside0.mk hr0;have HC0 := Aside0.mk hc0;clear hr0 hc0;have HB := Aside0.mk (Below.refl w.heap.size w);have H : ((tattingref07_Fit.f k l0 (wrap64 ((l0.length : Int) - 1)) a1).bind fun t101 => (some t101)) = some r := h;clear h;replace H := Option.bind_eq_some_iff.mp H;obtain ⟨t101, A30, H⟩ := H;replace H : (some t101) = some r := H;have A3 := Aside0.mk A30;clear A30;obtain rfl := Option.some.inj H;go_enter Tryd.func16, Tryd.ntmps16;go_wp2_with (first | ((with_reducible refine gate_callee (f := 36) rfl ?_); refine goesL_ (some 10) rfl rfl Tryd.func36 (by kernel_rfl) rfl #[.slice A0 l0.length c0, .int .i64 (wrap64 ((l0.length : Int) - 1)), .string a1] rfl (by (try simp only [List.map_toArray, List.map_cons, List.map_nil]); first | done | rfl | (simp only [List.length_drop, List.length_take]; rfl)) ?_; (with_reducible refine (tattingref07_Fit.calls k _ _ l0 (wrap64 ((l0.length : Int) - 1)) a1 t101 _ ?side1 ?side2 A3.out).mono ?_); (case side1 => repeat (first | exact HR0.out | (with_reducible refine Kd.C_alloc ?_ _) | (with_reducible refine Kd.C_drewN ?_ _) | (with_reducible refine Kd.C_drew ?_))); (case side2 => exact HC0.out); rintro e w4 ⟨v102, rfl, ho0, hb⟩; refine ⟨_, rfl, ?_⟩; have n0_ := Aside0.mk (Kd.S_lower ho0 (below_size (by repeat (first | (with_reducible first | exact HB.out | apply below_alloc | apply pw_below_drewN | apply below_drew1) | exact HB.out)))); have n1_ := Aside0.mk (below_step (by repeat (first | (with_reducible first | exact HB.out | apply below_alloc | apply pw_below_drewN | apply below_drew1) | exact HB.out)) hb); clear HB; have HO103 := n0_; have HB := n1_; clear n0_ n1_; (try clear hb); (try clear hb2); (try clear hk); (try clear hi); (try clear ho0)));go_ret;exact ⟨_, by first | rfl | (simp [errW_none, errW_some] <;> rfl) | (simp [*, errW_none, errW_some] <;> rfl), by (with_reducible repeat (first | apply Kd.S_alloc | apply Kd.S_drewN | apply Kd.S_drew)); exact HO103.out, by repeat (first | (with_reducible first | exact HB.out | apply below_alloc | apply pw_below_drewN | apply below_drew1) | exact HB.out)⟩
end Go.Proofs.YtfjemaeidmikmaaDoorQ
end
section
set_option linter.unusedVariables false
set_option linter.unusedSimpArgs false
namespace Go.Proofs.YtfjemaeidmikmaaDoorQ
open Go.RowKit Go.Proofs.Bs Go.Proofs.YtfjemaeidmikmaaDoor Go.Proofs.YtfjemaeidmikmaaDoorW.PrintWords
def sizeN (l : List Nd) : Int := if rightB l = true then (aStack fSize l l.length).getD 0 0 else -1
theorem sizeN_yes {l : List Nd} (h : rightB l = true) : sizeN l = attr fSize l (l.length - 1) := by
  unfold sizeN;rw [if_pos h, aStack_end fSize l h];rfl
def facts_Size.f (l0 : List NdI) : Option Int := if l0.length ≤ 1000000 ∧ ndsWf l0 = true then some (sizeN (l0.map ndOf)) else none
theorem facts_Size.calls (A0 : Option Addr) (c0 : Nat) (l0 : List NdI) (r : Int) (w : World) (hr0 : Kd.C k71 w A0 l0.length l0) (hc0 : l0.length ≤ c0) (h : facts_Size.f l0 = some r) :
    Calls Tryd.prog 34 #[.slice A0 l0.length c0] w fun e w' => e = .returned (.int .i64 r) ∧ Below w.heap.size w w' := by
  unfold facts_Size.f at h;split at h
  case isFalse => cases h
  case isTrue c =>
    injection h with h;subst h;have hR := reads_nds hr0 c.2
    cases hr : rightB (l0.map ndOf) with
    | true =>
      have := fsize_yes A0 l0.length c0 (l0.map ndOf) w hR c.1 hr;rw [sizeN_yes hr, List.length_map];exact this
    | false =>
      have := fsize_no A0 l0.length c0 (l0.map ndOf) w hR c.1 hr;unfold sizeN;rw [hr, if_neg Bool.false_ne_true];exact this
end Go.Proofs.YtfjemaeidmikmaaDoorQ
end
