/- Pruned from its seat's text: what the theorem hangs on. -/
import Derived.Test.YtjgdpcblenahkaaDoorJBlEv
import Derived.Test.YtjgdpcblenahkaaDoorJQTattinglaw01ByteSetTurns
import Derived.Test.YtjgdpcblenahkaaDoorJQTattinglaw01ByteSetJoins
import Derived.Test.YtjgdpcblenahkaaDoorJQ0
import Derived.Test.YtjgdpcblenahkaaDoorJQG
import Derived.Test.YtjgdpcblenahkaaDoorJQBytesetRuns
import Derived.Test.YtjgdpcblenahkaaDoorJQEq0
import Derived.Test.YtjgdpcblenahkaaDoorJQTattinglaw01Awake
import Derived.Test.YtjgdpcblenahkaaDoorJQXTattingref01Has
import Derived.Test.YtjgdpcblenahkaaDoorJQTattingref01Range
import Derived.Test.YtjgdpcblenahkaaDoorJQEq1
import Derived.Test.YtjgdpcblenahkaaDoorJQXBytesetBytes
import Derived.Test.YtjgdpcblenahkaaDoorJQXBytesetCount
import Derived.Test.YtjgdpcblenahkaaDoorJQXBytesetOf
import Derived.Test.YtjgdpcblenahkaaDoorJQXBytesetRange
import Derived.Test.YtjgdpcblenahkaaDoorJQBytesetUnion
import Derived.Test.YtjgdpcblenahkaaDoorJQTattingref01Union
/- The laws of layer 1 come to true: plain. -/
set_option linter.unusedVariables false
set_option linter.unusedSimpArgs false
namespace Go.Proofs.YtjgdpcblenahkaaDoorQ
open Go.RowKit Go.Proofs.YtjgdpcblenahkaaDoorW.PrintWords Go.Proofs.YtjgdpcblenahkaaDoorW.PrintLast Go.Proofs.Bs

theorem ev_mono {α : Type} {g : Nat → Option α} {r : α} (hm : ∀ k, LeO (g k) (g (k + 1))) (K : Nat) (h : g K = some r) : EV g r := by
  refine ⟨K, fun k hk => ?_⟩
  obtain ⟨d, rfl⟩ := Nat.le.dest hk
  induction d with
  | zero => exact h
  | succ d ih => exact hm _ _ (ih (by omega))
theorem awake1_ev : EV (fun k => tattinglaw01_awake.f k) true := by
  refine ev_mono tattinglaw01_awake.mono 20 ?_
  decide +kernel

theorem joins_ev (s t : S) (hs : s.wf) (ht : t.wf) (c : Nat) (hc : c < 256) : EV (fun k => tattinglaw01_ByteSetJoins.f k s.a s.b s.c s.d t.a t.b t.c t.d c) true := by
  unfold tattinglaw01_ByteSetJoins.f
  refine EV.bind awake1_ev ?_
  simp only [if_true, Option.bind_some, four, or_f s t hs ht, and_f s t hs ht, less_f s t hs ht, not_f s hs, has_f s hs c hc, wrap_in (show -9223372036854775808 ≤ (c : Int) by omega) (by omega), rhas_f s hs c hc]
  refine EV.bind (join_ev s t hs ht 0) ?_
  rw [join_or s t hs ht]
  simp only [four, beq_self_eq_true, Bool.and_self, if_true]
  refine EV.bind (join_ev s t hs ht 1) ?_
  rw [join_and s t hs ht]
  simp only [four, beq_self_eq_true, Bool.and_self, if_true]
  refine EV.bind (join_ev s t hs ht 2) ?_
  rw [join_less s t hs ht]
  simp only [four, beq_self_eq_true, Bool.and_self, if_true]
  refine EV.bind (rnot_ev s hs) ?_
  simp only [four, beq_self_eq_true, Bool.and_self, if_true]
  exact EV.const
end Go.Proofs.YtjgdpcblenahkaaDoorQ
