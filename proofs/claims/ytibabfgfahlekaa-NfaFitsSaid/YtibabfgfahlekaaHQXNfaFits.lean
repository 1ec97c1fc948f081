/- Pruned from its seat's text: what the theorem hangs on. -/
import Derived.Test.YtibabfgfahlekaaHNfFits2
/- nfa.Fits, told as the printed texts are. -/
set_option linter.unusedVariables false
set_option linter.unusedSimpArgs false
namespace Go.Proofs.YtibabfgfahlekaaQ
open Go.RowKit Go.Proofs.YtibabfgfahlekaaW.PrintWords Go.Proofs.YtibabfgfahlekaaW.PrintLast Go.Proofs.Bs
theorem size_zero {t : ByteArray} (h : t.size = 0) : t = ByteArray.empty := by
  have : t.data = #[] := Array.eq_empty_of_size_eq_zero h
  cases t
  simp only at this
  subst this
  rfl
theorem fits_any (A0 : Option Addr) (c0 : Nat) (sts : List St) (s f : Int) (text : ByteArray) (i j : Int) (w : World) (hr : Kd.C k72 w A0 sts.length sts) (hc : sts.length ≤ c0) (hw : wfSts sts) (htx : text.size ≤ 1000000) :
    Calls Try.prog 22 #[nV A0 c0 sts s f, .string text, .int .i64 i, .int .i64 j] w fun e w' => e = .returned (.bool (fitsN sts s f text i j)) ∧ Below w.heap.size w w' := by
  by_cases h : i < 0 ∨ j < i ∨ (text.size : Int) < j ∨ rightN sts s f = false
  · have e : fitsN sts s f text i j = false := by
      unfold fitsN
      rw [if_pos h]
    rw [e]
    exact fits_no A0 c0 sts s f text i j w hr hc h
  · have hR : rightN sts s f = true := by
      cases hx : rightN sts s f with
      | true => rfl
      | false => exact absurd (Or.inr (Or.inr (Or.inr hx))) h
    have hi : 0 ≤ i := by
      apply Classical.byContradiction
      intro hn
      exact h (Or.inl (by omega))
    have hij : i ≤ j := by
      apply Classical.byContradiction
      intro hn
      exact h (Or.inr (Or.inl (by omega)))
    have hj : j ≤ (text.size : Int) := by
      apply Classical.byContradiction
      intro hn
      exact h (Or.inr (Or.inr (Or.inl (by omega))))
    obtain ⟨I, rfl⟩ := Int.eq_ofNat_of_zero_le hi
    obtain ⟨J, rfl⟩ := Int.eq_ofNat_of_zero_le (by omega : 0 ≤ j)
    by_cases hz : text.size = 0
    · have ht := size_zero hz
      subst ht
      have hJ : J = 0 := by omega
      have hI : I = 0 := by omega
      subst hJ
      subst hI
      have e : fitsN sts s f ByteArray.empty ((0 : Nat) : Int) ((0 : Nat) : Int) = rdOf false (walkF sts (atStart sts s) 258) f := by
        unfold fitsN
        rw [if_neg h]
        exact if_pos hz
      rw [e]
      exact fits_empty A0 c0 sts s f w hr hc hR
    · exact fits_main A0 c0 sts s f text I J w hr hc hR hw (by omega) (by omega) (by omega) htx
def wfB (sts : List St) : Bool := sts.all fun s => decide (wfI s.f3.f0 s.f3.f1 s.f3.f2 s.f3.f3)
theorem wfB_iff (sts : List St) : wfB sts = true ↔ wfSts sts := by
  unfold wfB wfSts
  rw [List.all_eq_true]
  constructor
  · intro h i h0 h1
    have hl : i.toNat < sts.length := by omega
    have e : rd_T72 sts i = sts[i.toNat] := by
      unfold rd_T72
      rw [List.getD_eq_getElem?_getD, List.getElem?_eq_getElem hl]
      rfl
    rw [e]
    exact (of_decide_eq_true (h _ (List.getElem_mem hl)) : wfI _ _ _ _)
  · intro h x hx
    obtain ⟨k, hk, rfl⟩ := List.getElem_of_mem hx
    have h2 := h (k : Int) (by omega) (by omega)
    have e : rd_T72 sts (k : Int) = sts[k] := by
      unfold rd_T72
      rw [List.getD_eq_getElem?_getD, Int.toNat_natCast, List.getElem?_eq_getElem hk]
      rfl
    rw [e] at h2
    exact decide_eq_true (show wfI _ _ _ _ from h2)
def nfa_Fits.f (l0_0 : List S72) (a0_1 a0_2 : Int) (a1 : ByteArray) (a2 a3 : Int) : Option Bool := if wfB l0_0 = true ∧ a1.size ≤ 1000000 then some (fitsN l0_0 a0_1 a0_2 a1 a2 a3) else none
theorem nfa_Fits.calls (A0_0 : Option Addr) (c0_0 : Nat) (l0_0 : List S72) (a0_1 a0_2 : Int) (a1 : ByteArray) (a2 a3 : Int) (r : Bool) (w : World) (hr0_0 : Kd.C k72 w A0_0 l0_0.length l0_0) (hc0_0 : l0_0.length ≤ c0_0) (h : nfa_Fits.f l0_0 a0_1 a0_2 a1 a2 a3 = some r) :
    Calls Try.prog 22 #[.agg #[.slice A0_0 l0_0.length c0_0, .int .i64 a0_1, .int .i64 a0_2], .string a1, .int .i64 a2, .int .i64 a3] w fun e w' => e = .returned (.bool r) ∧ Below w.heap.size w w' := by
  unfold nfa_Fits.f at h
  split at h
  case isFalse => cases h
  case isTrue c =>
    injection h with h
    subst h
    exact fits_any A0_0 c0_0 l0_0 a0_1 a0_2 a1 a2 a3 w hr0_0 hc0_0 ((wfB_iff _).1 c.1) c.2
end Go.Proofs.YtibabfgfahlekaaQ
