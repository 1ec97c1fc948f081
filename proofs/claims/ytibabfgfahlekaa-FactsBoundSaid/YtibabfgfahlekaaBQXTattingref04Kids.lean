/- Pruned from its seat's text: what the theorem hangs on. -/
import Derived.Test.YtibabfgfahlekaaBQNd
import Derived.Test.YtibabfgfahlekaaBTree6
/- tattingref04.Kids: told as the printed texts are. -/
set_option linter.unusedVariables false
set_option linter.unusedSimpArgs false
namespace Go.Proofs.YtibabfgfahlekaaQ
open Go.RowKit Go.Proofs.Bs Go.Proofs.Ytibabfgfahlekaa Go.Proofs.YtibabfgfahlekaaW.PrintWords
def tattingref04_Kids.f (l0 : List NdI) (a1 : Int) : Option (List Int) := if l0.length ≤ 1000000 ∧ ndsWf l0 = true ∧ 0 ≤ a1 ∧ a1 < l0.length ∧ 0 ≤ fst1 (l0.map ndOf) a1.toNat then some (kidsP (l0.map ndOf) (a1.toNat : Nat)) else none
theorem tattingref04_Kids.calls (A0 : Option Addr) (c0 : Nat) (l0 : List NdI) (a1 : Int) (r : List Int) (w : World) (hr0 : Kd.C k63 w A0 l0.length l0) (hc0 : l0.length ≤ c0) (h : tattingref04_Kids.f l0 a1 = some r) :
    Calls Try.prog 33 #[.slice A0 l0.length c0, .int .i64 a1] w fun e w' => ∃ v0_ : Value, e = .returned (v0_) ∧ Kd.R (Kd.int .i64) 3 w' w.heap.size (fun _ => True) v0_ r ∧ Below w.heap.size w w' := by
  unfold tattingref04_Kids.f at h
  split at h
  case isFalse => cases h
  case isTrue c =>
    obtain ⟨h0, h1, h2, h3, h4⟩ := c
    injection h with h
    subst h
    have hw := rkids_any A0 l0.length c0 (l0.map ndOf) a1.toNat w (reads_nds hr0 h1) h0 (by omega) h4
    rw [Int.toNat_of_nonneg h2] at hw
    refine hw.mono ?_
    rintro e w' ⟨A1, c1, rfl, ho, hb⟩
    refine ⟨_, rfl, Kd.R_of_own (enc := Value.int .i64) (h1 := fun _ => rfl) ?_ (fun _ _ => trivial), hb⟩
    rw [Int.toNat_of_nonneg h2]
    exact ho
end Go.Proofs.YtibabfgfahlekaaQ
