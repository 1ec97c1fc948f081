/- Pruned from its seat's text: what the theorem hangs on. -/
import Derived.Test.YtibabfgfahlekaaBQ0
import Derived.Test.YtibabfgfahlekaaBBsPure
/- Sets as four words: what the printed texts (Int words) and the plain laws (Bs.S) have to do with each other. -/
namespace Go.Proofs.YtibabfgfahlekaaQ
open Go.RowKit Go.Proofs.Bs

def wfI (a b c d : Int) : Prop := (0 ≤ a ∧ a < 18446744073709551616) ∧ (0 ≤ b ∧ b < 18446744073709551616) ∧ (0 ≤ c ∧ c < 18446744073709551616) ∧ 0 ≤ d ∧ d < 18446744073709551616
instance (a b c d : Int) : Decidable (wfI a b c d) := by unfold wfI; infer_instance
def setI (a b c d : Int) : S := ⟨a.toNat, b.toNat, c.toNat, d.toNat⟩
theorem setI_wf {a b c d : Int} (h : wfI a b c d) : (setI a b c d).wf := by
  obtain ⟨⟨a0, a1⟩, ⟨b0, b1⟩, ⟨c0, c1⟩, d0, d1⟩ := h
  refine ⟨?_, ?_, ?_, ?_⟩ <;> (simp only [setI, W]; omega)
theorem setI_cast {a b c d : Int} (h : wfI a b c d) : ((setI a b c d).a : Int) = a ∧ ((setI a b c d).b : Int) = b ∧ ((setI a b c d).c : Int) = c ∧ ((setI a b c d).d : Int) = d := by
  obtain ⟨⟨a0, a1⟩, ⟨b0, b1⟩, ⟨c0, c1⟩, d0, d1⟩ := h
  refine ⟨?_, ?_, ?_, ?_⟩ <;> (simp only [setI]; omega)
theorem wfI_of (s : S) (h : s.wf) : wfI s.a s.b s.c s.d := by
  have ha := h.a; have hb := h.b; have hc := h.c; have hd := h.d
  unfold W at *
  unfold wfI
  omega
theorem setI_of (s : S) : setI s.a s.b s.c s.d = s := by simp [setI]
end Go.Proofs.YtibabfgfahlekaaQ
