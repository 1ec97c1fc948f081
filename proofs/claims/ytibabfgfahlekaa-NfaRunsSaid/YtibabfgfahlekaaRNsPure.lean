/- Pruned from its seat's text: what the theorem hangs on. -/
import Derived.Test.YtibabfgfahlekaaRNfImpl5
import Derived.Test.YtibabfgfahlekaaRQXNfaBuild
import Derived.Test.YtibabfgfahlekaaRQXNfaFits
import Derived.Test.YtibabfgfahlekaaRQ0
import Derived.Test.YtibabfgfahlekaaRQNfaClose
import Derived.Test.YtibabfgfahlekaaRQNfaRight
import Derived.Test.YtibabfgfahlekaaRQNfaStep
import Derived.Test.YtibabfgfahlekaaRQTattinglaw09Awake
import Derived.Test.YtibabfgfahlekaaRQTattingref09Close
import Derived.Test.YtibabfgfahlekaaRQTattingref09Of
import Derived.Test.YtibabfgfahlekaaRQTattingref09Right
import Derived.Test.YtibabfgfahlekaaRQTattingref09Step
/- NfaSteps comes to true: plain. -/
set_option linter.unusedVariables false
set_option linter.unusedSimpArgs false
namespace Go.Proofs.YtibabfgfahlekaaQ
open Go.RowKit Go.Proofs.YtibabfgfahlekaaW.PrintWords Go.Proofs.YtibabfgfahlekaaW.PrintLast Go.Proofs.Bs

theorem ev_mono {α : Type} {g : Nat → Option α} {r : α} (hm : ∀ k, LeO (g k) (g (k + 1))) (K : Nat) (h : g K = some r) : EV g r := by
  refine ⟨K, fun k hk => ?_⟩
  obtain ⟨d, rfl⟩ := Nat.le.dest hk
  induction d with
  | zero => exact h
  | succ d ih => exact hm _ _ (ih (by omega))
theorem awake_ev : EV (fun k => tattinglaw09_awake.f k) true := by
  refine ev_mono tattinglaw09_awake.mono 20 ?_
  decide +kernel
theorem take_wf {sts : List St} (h : wfSts sts) (m : Nat) : wfSts (sts.take m) := by
  intro i h0 h1
  have hl : i.toNat < m ∧ i.toNat < sts.length := by
    rw [List.length_take] at h1
    omega
  have e : rd_T72 (sts.take m) i = rd_T72 sts i := by
    unfold rd_T72
    rw [List.getD_eq_getElem?_getD, List.getD_eq_getElem?_getD, List.getElem?_take, if_pos hl.1]
  rw [e]
  exact h i h0 (by omega)
end Go.Proofs.YtibabfgfahlekaaQ
namespace Go.Proofs.Ytibabfgfahlekaa
open Go.RowKit Go.Proofs.YtibabfgfahlekaaQ
end Go.Proofs.Ytibabfgfahlekaa
