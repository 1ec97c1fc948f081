/- Pruned from its seat's text: what the theorem hangs on. -/
import Derived.Test.YtibabfgfahlekaaGNfRef1
import Derived.Test.YtibabfgfahlekaaGM3
import Derived.Test.YtibabfgfahlekaaGM2
import Derived.Deep.RegionHeld3
import Derived.KernelRfl
/- Two lemmas for the document's Make. -/
set_option linter.unusedVariables false
set_option linter.unusedSimpArgs false
namespace Go.Proofs.YtibabfgfahlekaaQ
open Go.RowKit Go.Proofs.YtibabfgfahlekaaW.PrintWords Go.Proofs.YtibabfgfahlekaaW.PrintLast Go.Proofs.Bs Go.Proofs.Ytibabfgfahlekaa

theorem set_far3 {w : World} {q : Addr} {b : Nat} {v : Option Value} (h : w.cell? q = v) (hq : ¬ b = q.block) (u0 u1 u2 : Value) : (((w.setCell ⟨b, 0, none⟩ u0).setCell ⟨b, 1, none⟩ u1).setCell ⟨b, 2, none⟩ u2).cell? q = v := by
  have f : ∀ (W : World) (o : Nat) (u : Value), W.cell? q = v → (W.setCell ⟨b, o, none⟩ u).cell? q = v := fun W o u hW => (World.cell?_setCell_other _ _ _ _ (fun e => hq (by rw [← e]))).trans hW
  exact f _ _ _ (f _ _ _ (f _ _ _ h))
theorem set_zero {kd : Int} {s0 s1 s2 s3 : Nat} {lo hi : Int} (h : fieldsB ⟨kd, ⟨s0, s1, s2, s3⟩, lo, hi⟩ = true) (hk : kd ≠ 1) : s0 = 0 ∧ s1 = 0 ∧ s2 = 0 ∧ s3 = 0 := by
  unfold fieldsB at h
  split at h
  · cases h
  · rename_i hn
    simp only at hn
    omega
end Go.Proofs.YtibabfgfahlekaaQ
