/- Pruned from its seat's text: what the theorem hangs on. -/
import Derived.Test.YtibabfgfahlekaaHQ0
/- Plain: the walk of an automaton that puts places on a list and takes the last one. -/
namespace Go.Proofs.YtibabfgfahlekaaQ
open Go.RowKit Go.Proofs.YtibabfgfahlekaaW.PrintWords Go.Proofs.YtibabfgfahlekaaW.PrintLast

abbrev St := S72
def wput (p : List Bool × List Int) (s : Int) : List Bool × List Int :=
  if 0 ≤ s ∧ s < p.1.length ∧ rdOf false p.1 s = false then (p.1.set s.toNat true, p.2 ++ [s]) else p
/-- Does one come from such a state to A at once? -/
def goesA (st : St) (sym : Int) : Bool := decide (st.f0 = 3 ∨ st.f0 = 2 ∨ st.f0 = 4 ∧ (sym = 256 ∨ sym = 258) ∨ st.f0 = 5 ∧ (sym = 257 ∨ sym = 258))
def wvisit (st : St) (sym : Int) (q : List Bool × List Int) : List Bool × List Int :=
  if st.f0 = 3 then wput (wput q st.f2) st.f1 else if goesA st sym = true then wput q st.f1 else q
def wstep (sts : List St) (sym : Int) (p : List Bool × List Int) : List Bool × List Int := wvisit (rd_T72 sts (p.2.getLastD 0)) sym (p.1, p.2.dropLast)
def wrun (sts : List St) (sym : Int) : Nat → List Bool × List Int → List Bool × List Int
  | 0, p => p
  | k + 1, p => if p.2 = [] then p else wrun sts sym k (wstep sts sym p)
def few (l : List Bool) : Nat := (l.filter fun b => !b).length
def wmeas (p : List Bool × List Int) : Nat := 3 * few p.1 + p.2.length

theorem few_set (l : List Bool) (i : Nat) (h : i < l.length) (hf : l[i] = false) : few (l.set i true) + 1 = few l := by
  induction l generalizing i with
  | nil => simp at h
  | cons b l ih =>
    cases i with
    | zero => simp at hf; subst hf; simp [few]
    | succ i =>
      have := ih i (by simpa using h) (by simpa using hf)
      cases b <;> simp [few] at this ⊢ <;> omega
theorem wput_len (p : List Bool × List Int) (s : Int) : (wput p s).1.length = p.1.length := by unfold wput; split <;> simp
theorem wput_meas (p : List Bool × List Int) (s : Int) : wmeas (wput p s) ≤ wmeas p := by
  unfold wput
  split
  · rename_i h
    have := few_set p.1 s.toNat (by omega) (by
      have h3 := h.2.2
      unfold rdOf at h3
      rw [List.getD_eq_getElem?_getD, List.getElem?_eq_getElem (by omega)] at h3
      simpa using h3)
    simp only [wmeas, List.length_append, List.length_singleton]
    omega
  · omega
theorem wvisit_meas (st : St) (sym : Int) (q : List Bool × List Int) : wmeas (wvisit st sym q) ≤ wmeas q := by
  unfold wvisit
  split
  · have := wput_meas q st.f2
    have := wput_meas (wput q st.f2) st.f1
    omega
  · split
    · exact wput_meas _ _
    · omega
theorem wstep_meas (sts : List St) (sym : Int) (p : List Bool × List Int) (h : p.2 ≠ []) : wmeas (wstep sts sym p) + 1 ≤ wmeas p := by
  have := wvisit_meas (rd_T72 sts (p.2.getLastD 0)) sym (p.1, p.2.dropLast)
  have h1 : p.2.dropLast.length + 1 = p.2.length := by
    have := List.length_pos_iff.2 h
    simp
    omega
  unfold wstep
  simp only [wmeas] at this ⊢
  omega
theorem wvisit_len (st : St) (sym : Int) (q : List Bool × List Int) : (wvisit st sym q).1.length = q.1.length := by
  unfold wvisit
  split
  · rw [wput_len, wput_len]
  · split
    · rw [wput_len]
    · rfl
theorem wrun_enough (sts : List St) (sym : Int) : ∀ (k : Nat) (p : List Bool × List Int), wmeas p ≤ k → wrun sts sym k p = wrun sts sym (wmeas p) p := by
  intro k
  induction k using Nat.strongRecOn with
  | ind k ih =>
    intro p hk
    by_cases h : p.2 = []
    · cases k with
      | zero => rw [show wmeas p = 0 by omega]
      | succ k =>
        cases hm : wmeas p with
        | zero => simp [wrun, h]
        | succ m => simp [wrun, h]
    · have hm := wstep_meas sts sym p h
      obtain ⟨m, em⟩ : ∃ m, wmeas p = m + 1 := ⟨wmeas p - 1, by omega⟩
      obtain ⟨k, rfl⟩ : ∃ j, k = j + 1 := ⟨k - 1, by omega⟩
      rw [em]
      simp only [wrun, if_neg h]
      rw [ih k (by omega) _ (by omega), ih m (by omega) _ (by omega)]
def wfrom (n : Nat) (from_ : List Int) : List Bool × List Int := from_.foldl wput (List.replicate n false, [])
def walkF (sts : List St) (from_ : List Int) (sym : Int) : List Bool := (wrun sts sym (wmeas (wfrom sts.length from_)) (wfrom sts.length from_)).1
/-- What stands on the list is a place. -/
def onOk (n : Nat) (p : List Bool × List Int) : Prop := p.1.length = n ∧ p.2.length ≤ n ∧ (∀ s ∈ p.2, 0 ≤ s ∧ s < n) ∧ p.2.length + few p.1 ≤ n
theorem onOk_put {n : Nat} {p : List Bool × List Int} (h : onOk n p) (s : Int) : onOk n (wput p s) := by
  obtain ⟨h1, h2, h3, h4⟩ := h
  unfold wput
  split
  · rename_i h
    have hs := few_set p.1 s.toNat (by omega) (by
      have h3 := h.2.2
      unfold rdOf at h3
      rw [List.getD_eq_getElem?_getD, List.getElem?_eq_getElem (by omega)] at h3
      simpa using h3)
    refine ⟨by simpa using h1, ?_, ?_, ?_⟩
    · simp; omega
    · intro x hx
      simp only [List.mem_append, List.mem_singleton] at hx
      rcases hx with hx | rfl
      · exact h3 x hx
      · omega
    · simp; omega
  · exact ⟨h1, h2, h3, h4⟩
theorem onOk_pop {n : Nat} {p : List Bool × List Int} (h : onOk n p) : onOk n (p.1, p.2.dropLast) := by
  obtain ⟨h1, h2, h3, h4⟩ := h
  have : p.2.dropLast.length ≤ p.2.length := by simp
  exact ⟨h1, by show p.2.dropLast.length ≤ n; omega, fun s hs => h3 s ((List.dropLast_sublist _).subset hs), by show p.2.dropLast.length + few p.1 ≤ n; omega⟩
theorem onOk_new (n : Nat) : onOk n (List.replicate n false, []) := by
  refine ⟨by simp, by simp, by simp, ?_⟩
  have : few (List.replicate n false) ≤ (List.replicate n false).length := List.length_filter_le _ _
  simpa using this
theorem onOk_fold {n : Nat} (l : List Int) {p : List Bool × List Int} (h : onOk n p) : onOk n (l.foldl wput p) := by
  induction l generalizing p with
  | nil => exact h
  | cons s l ih => exact ih (onOk_put h s)
theorem onOk_from (n : Nat) (l : List Int) : onOk n (wfrom n l) := onOk_fold l (onOk_new n)
end Go.Proofs.YtibabfgfahlekaaQ
