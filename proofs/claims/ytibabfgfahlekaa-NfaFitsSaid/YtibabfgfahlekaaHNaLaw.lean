/- Pruned from its seat's text: what the theorem hangs on. -/
import Derived.Test.YtibabfgfahlekaaHM1
import Derived.Test.YtibabfgfahlekaaHQXNfaBuild
import Derived.Test.YtibabfgfahlekaaHQXNfaFits
import Derived.Test.YtibabfgfahlekaaHQTattinglaw09Awake
/- The page's first example of chapter 9, and how many states are made: plain. -/
set_option linter.unusedVariables false
set_option linter.unusedSimpArgs false
namespace Go.Proofs.YtibabfgfahlekaaQ
open Go.RowKit Go.Proofs.YtibabfgfahlekaaW.PrintWords Go.Proofs.YtibabfgfahlekaaW.PrintLast Go.Proofs.Bs Go.Proofs.Ytibabfgfahlekaa

theorem ev_up {α : Type} {g : Nat → Option α} {r : α} (hm : ∀ k, LeO (g k) (g (k + 1))) (K : Nat) (h : g K = some r) : EV g r := by
  refine ⟨K, fun k hk => ?_⟩
  obtain ⟨d, rfl⟩ := Nat.le.dest hk
  induction d with
  | zero => exact h
  | succ d ih => exact hm _ _ (ih (by omega))
def exN : List Nd := [⟨1, ⟨0, 8589934592, 0, 0⟩, 0, 0⟩]
theorem exN_right : rightB exN = true := by decide +kernel
theorem build_exN : buildN exN = ([⟨1, 1, 0, ⟨0, 8589934592, 0, 0⟩⟩, ⟨6, 0, 0, ⟨0, 0, 0, 0⟩⟩], 0, 1, 0) := by
  obtain ⟨_, hall, _⟩ := (rightB_iff exN).1 exN_right
  have hf := (hall 0 (by decide)).1
  have hk : kidsP exN ((0 : Nat) : Int) = [] := List.eq_nil_of_length_eq_zero (kidsP_length exN 0 ⟨1, ⟨0, 8589934592, 0, 0⟩, 0, 0⟩ rfl hf)
  have hm := attr_eq fMk exN 0 (by decide) hf
  have hs := attr_eq fSz exN 0 (by decide) hf
  rw [hk] at hm hs
  unfold buildN
  rw [if_pos exN_right, show exN.length - 1 = 0 from rfl, hs, hm]
  first | rfl | kernel_rfl
theorem build_ex : nfa_Build.f (([(⟨1, (⟨0, 8589934592, 0, 0⟩ : S29), 0, 0⟩ : S63)] : List (S63))) = some ([⟨1, 1, 0, ⟨0, 8589934592, 0, 0⟩⟩, ⟨6, 0, 0, ⟨0, 0, 0, 0⟩⟩], 0, 1, 0) := by
  unfold nfa_Build.f
  rw [if_pos (by decide)]
  exact congrArg some build_exN
theorem awake9_ev : EV (fun k => tattinglaw09_awake.f k) true := by
  refine ev_up tattinglaw09_awake.mono 20 ?_
  unfold tattinglaw09_awake.f
  rw [build_ex]
  decide +kernel
theorem take_nds {l : List S63} (h : ndsWf l = true) (m : Nat) : ndsWf (l.take m) = true := by
  unfold ndsWf at *
  rw [List.all_eq_true] at *
  exact fun x hx => h x (List.take_subset _ _ hx)
end Go.Proofs.YtibabfgfahlekaaQ
