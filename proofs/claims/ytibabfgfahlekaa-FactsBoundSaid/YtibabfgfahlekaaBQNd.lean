/- Pruned from its seat's text: what the theorem hangs on. -/
import Derived.Test.YtibabfgfahlekaaBQ0
import Derived.Test.YtibabfgfahlekaaBQSets
import Derived.Test.YtibabfgfahlekaaBBase
/- Nodes as the printed texts read them, and as the walks by hand do. -/
set_option linter.unusedVariables false
set_option linter.unusedSimpArgs false
namespace Go.Proofs.YtibabfgfahlekaaQ
open Go.RowKit Go.Proofs.Bs Go.Proofs.Ytibabfgfahlekaa Go.Proofs.YtibabfgfahlekaaW.PrintWords
abbrev NdI := S63
def ndOf (x : NdI) : Nd := ⟨x.f0, setI x.f1.f0 x.f1.f1 x.f1.f2 x.f1.f3, x.f2, x.f3⟩
def ndWf (x : NdI) : Prop := wfI x.f1.f0 x.f1.f1 x.f1.f2 x.f1.f3
instance (x : NdI) : Decidable (ndWf x) := by unfold ndWf; infer_instance
def ndsWf (l : List NdI) : Bool := l.all fun x => decide (ndWf x)
theorem ndsWf_at {l : List NdI} (h : ndsWf l = true) {x : NdI} (hx : x ∈ l) : ndWf x := of_decide_eq_true (List.all_eq_true.1 h x hx)
theorem nd_cells {x : NdI} (h : ndWf x) : (ndOf x).cells = [.int .i64 x.f0, .int .u64 x.f1.f0, .int .u64 x.f1.f1, .int .u64 x.f1.f2, .int .u64 x.f1.f3, .int .i64 x.f2, .int .i64 x.f3] := by
  obtain ⟨e0, e1, e2, e3⟩ := setI_cast h
  unfold Nd.cells ndOf
  simp only [e0, e1, e2, e3]
theorem reads_nds {w : World} {A : Option Addr} {l : List NdI} (h : Kd.C k63 w A l.length l) (hw : ndsWf l = true) : Reads w 7 A l.length ((l.map ndOf).flatMap Nd.cells) := by
  have hlen : ((l.map ndOf).flatMap Nd.cells).length = l.length * 7 := by rw [flat_length Nd.cells 7 Nd.cells_length, List.length_map]
  refine ⟨hlen, fun hp => ?_⟩
  obtain ⟨ad, e, hc⟩ := h.2.2 hp
  refine ⟨ad, e, fun j u hu => ?_⟩
  have hj := (List.getElem?_eq_some_iff.1 hu).1
  rw [hlen] at hj
  have hq : j / 7 < l.length := by omega
  have hr : j % 7 < 7 := by omega
  have hdm : j = j / 7 * 7 + j % 7 := by omega
  obtain ⟨cs, hl, hK, hcell⟩ := hc (j / 7) _ (List.getElem?_eq_getElem hq)
  have hcs := k63_open hK
  have hel : (l.map ndOf)[j / 7]? = some (ndOf l[j / 7]) := by rw [List.getElem?_map, List.getElem?_eq_getElem hq]; rfl
  rw [hdm, flat_at Nd.cells 7 Nd.cells_length _ _ _ hel _ hr, nd_cells (ndsWf_at hw (List.getElem_mem hq)), ← hcs] at hu
  rw [hdm]
  exact hcell _ u hu
end Go.Proofs.YtibabfgfahlekaaQ
