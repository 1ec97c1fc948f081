/- Pruned from its seat's text: what the theorem hangs on. -/
import Derived.Test.YtibabfgfahlekaaZEvPure
import Derived.Test.YtibabfgfahlekaaZQXFactsSize
import Derived.Test.YtibabfgfahlekaaZQXTattingref04Right
import Derived.Test.YtibabfgfahlekaaZQXTattingref07Size
import Derived.Test.YtibabfgfahlekaaZQXFactsOf
import Derived.Test.YtibabfgfahlekaaZQTattinglaw07FactsSizes
/- FactsSizes comes to true: plain. -/
set_option linter.unusedVariables false
set_option linter.unusedSimpArgs false
namespace Go.Proofs.YtibabfgfahlekaaQ
open Go.RowKit Go.Proofs.YtibabfgfahlekaaW.PrintWords Go.Proofs.YtibabfgfahlekaaW.PrintLast Go.Proofs.Bs Go.Proofs.Ytibabfgfahlekaa

theorem awake7_eq : tattinglaw07_awake.f = some true := by decide +kernel
theorem take_nds {l : List NdI} (h : ndsWf l = true) (m : Nat) : ndsWf (l.take m) = true := by
  unfold ndsWf at *
  rw [List.all_eq_true] at *
  exact fun x hx => h x (List.take_subset _ _ hx)
theorem factsSizes_eq (l : List NdI) (hw : ndsWf l = true) : tattinglaw07_FactsSizes.f l = some true := by
  unfold tattinglaw07_FactsSizes.f
  have m1 : 0 ≤ mn (l.length : Int) 60 := by unfold mn; omega
  have m2 : mn (l.length : Int) 60 ≤ (l.length : Int) := by unfold mn; omega
  have m5 : mn (l.length : Int) 60 ≤ 60 := by unfold mn; omega
  simp only [awake7_eq, if_true, m1, m2, Option.bind_some]
  generalize mn (l.length : Int) 60 = M at *
  have hTl : (l.take M.toNat).length ≤ 60 := by rw [List.length_take]; omega
  have hTw := take_nds hw M.toNat
  generalize l.take M.toNat = T at *
  have h1 : tattingref04_Right.f T = some (rightB (T.map ndOf)) := by
    unfold tattingref04_Right.f
    rw [if_pos ⟨by omega, hTw⟩]
  have h2 : facts_Size.f T = some (sizeN (T.map ndOf)) := by
    unfold facts_Size.f
    rw [if_pos ⟨by omega, hTw⟩]
  rw [h1, h2]
  simp only [Option.bind_some]
  cases hR : rightB (T.map ndOf) with
  | true =>
    have hlen : 0 < T.length := by
      have := ((rightB_iff _).1 hR).2.2.1
      rwa [List.length_map] at this
    have e1 : wrap64 ((T.length : Int) - 1) = ((T.length - 1 : Nat) : Int) := by unfold wrap64; omega
    have h3 : tattingref07_Size.f T (wrap64 ((T.length : Int) - 1)) = some (sizeN (T.map ndOf)) := by
      unfold tattingref07_Size.f
      rw [e1, if_pos ⟨by omega, hTw, hR, by omega, by omega⟩, Int.toNat_natCast, sizeN_yes hR, List.length_map]
    rw [if_pos rfl, h3]
    simp
  | false =>
    rw [if_neg Bool.false_ne_true]
    unfold sizeN
    rw [hR]
    rfl
end Go.Proofs.YtibabfgfahlekaaQ
namespace Go.Proofs.Ytibabfgfahlekaa
open Go.RowKit Go.Proofs.YtibabfgfahlekaaQ Go.Proofs.YtibabfgfahlekaaW.PrintWords
theorem factsSizes_any (A0 : Option Addr) (c0 : Nat) (l0 : List NdI) (w : World) (h0 : Kd.C k63 w A0 l0.length l0) (hc0 : l0.length ≤ c0) (hw : ndsWf l0 = true) :
    Calls Try.prog 3 #[.slice A0 l0.length c0] w fun e w' => e = .returned (.bool true) ∧ Below w.heap.size w w' := by
  exact tattinglaw07_FactsSizes.calls A0 c0 l0 true w h0 hc0 (factsSizes_eq l0 hw)
end Go.Proofs.Ytibabfgfahlekaa
