/- Pruned from its seat's text: what the theorem hangs on. -/
import Derived.Test.YtjgdpcblenahkaaDoorCNfImpl2
import Derived.Test.YtjgdpcblenahkaaDoorCNfPure
/- Plain: what the printed functions of the document's chapter 9 compute: Right. -/
set_option linter.unusedVariables false
set_option linter.unusedSimpArgs false
namespace Go.Proofs.YtjgdpcblenahkaaDoorQ
open Go.RowKit Go.Proofs.YtjgdpcblenahkaaDoorW.PrintWords Go.Proofs.YtjgdpcblenahkaaDoorW.PrintLast Go.Proofs.Bs

def is6 (sts : List St) (j : Nat) : Bool := decide ((rd_T88 sts (j : Int)).f0 = 6)
def allF (sts : List St) : Nat → Nat → Bool
  | 0, _ => true
  | d + 1, i => fieldsN (rd_T88 sts (i : Int)) sts.length && allF sts d (i + 1)
theorem allF_iff (sts : List St) : ∀ d i : Nat, allF sts d i = true ↔ ∀ j : Nat, i ≤ j → j < i + d → fieldsN (rd_T88 sts j) sts.length = true := by
  intro d
  induction d with
  | zero => intro i; exact ⟨fun _ j h1 h2 => by omega, fun _ => rfl⟩
  | succ d ih =>
    intro i
    simp only [allF, Bool.and_eq_true, ih]
    constructor
    · rintro ⟨h1, h2⟩ j h3 h4
      by_cases e : j = i
      · subst e; exact h1
      · exact h2 j (by omega) (by omega)
    · intro h
      exact ⟨h i (by omega) (by omega), fun j h1 h2 => h j (by omega) (by omega)⟩
theorem rright_l0 (sts : List St) (s f : Int) (hl : sts.length ≤ 600) (hf : 0 ≤ f ∧ f < sts.length) : ∀ d i : Nat, sts.length - i = d → i ≤ sts.length →
    EV (fun k => tattingref09_Right.l0 k (sts.length : Int) (Nf.count (is6 sts) i : Nat) (i : Int) sts s f) (allF sts d i && (decide (Nf.count (is6 sts) sts.length = 1) && ((rd_T88 sts f).f0 == 6))) := by
  intro d
  induction d with
  | zero =>
    intro i hd hi
    obtain rfl : i = sts.length := by omega
    refine EV.stop fun k => ?_
    simp only [tattingref09_Right.l0]
    rw [if_neg (by omega)]
    by_cases h : Nf.count (is6 sts) sts.length = 1
    · rw [if_pos (by omega), if_pos hf.1, if_pos hf.2, decide_eq_true h]
      simp [allF]
    · rw [if_neg (by omega), decide_eq_false h]
      simp
  | succ d ih =>
    intro i hd hi
    have hc := Nf.count_le (is6 sts) i
    have ih := ih (i + 1) (by omega) (by omega)
    have hE : ∀ k, tattingref09_Right.l0 (k + 1 + 1) (sts.length : Int) (Nf.count (is6 sts) i : Nat) (i : Int) sts s f =
        if fieldsN (rd_T88 sts i) sts.length = true then tattingref09_Right.l0 k (sts.length : Int) (Nf.count (is6 sts) (i + 1) : Nat) ((i + 1 : Nat) : Int) sts s f else some false := by
      intro k
      rw [rl0_eq _ _ _ _ _ _ _ (by omega) (by omega) (by omega), j2_eq, fields_two]
      cases badA (rd_T88 sts i) sts.length
      · cases goodB (rd_T88 sts i)
        · rfl
        · simp only [Bool.false_eq_true, if_false, if_true, Bool.not_false, Bool.and_true]
          congr 1
          · rw [show Nf.count (is6 sts) (i + 1) = Nf.count (is6 sts) i + (if is6 sts i = true then 1 else 0) from rfl]
            by_cases h6 : (rd_T88 sts (i : Int)).f0 = 6
            · rw [if_pos h6, if_pos (show is6 sts i = true from decide_eq_true h6), wrap_in (by omega) (by omega)]
              rfl
            · rw [if_neg h6, if_neg (show ¬ is6 sts i = true from by unfold is6; simp [h6])]
              rfl
          · rw [wrap_in (by omega) (by omega)]; rfl
      · rfl
    refine EV.succ (EV.succ (EV.congr hE ?_))
    simp only [allF]
    cases fieldsN (rd_T88 sts i) sts.length
    · exact EV.const
    · exact ih
theorem count_single (f n : Nat) (p : Nat → Bool) (h : ∀ j, j < n → (p j = true ↔ j = f)) : Nf.count p n = if f < n then 1 else 0 := by
  induction n with
  | zero => rfl
  | succ n ih =>
    have h1 := ih fun j hj => h j (by omega)
    have h2 := h n (by omega)
    unfold Nf.count
    rw [h1]
    by_cases e : n = f
    · subst e
      rw [if_neg (by omega), if_pos (h2.2 rfl), if_pos (by omega)]
    · rw [if_neg (fun h => e (h2.1 h))]
      by_cases e2 : f < n
      · rw [if_pos e2, if_pos (by omega)]
      · rw [if_neg e2, if_neg (by omega)]
theorem count_one {p : Nat → Bool} {n f j : Nat} (h : Nf.count p n = 1) (hf : f < n) (hj : j < n) (h1 : p f = true) (h2 : p j = true) : j = f := by
  apply Classical.byContradiction
  intro hne
  have a := Nf.count_lt (p := fun i => p i && decide (i ≠ f)) (q := p) n (fun i _ hi => by simp only [Bool.and_eq_true] at hi; exact hi.1) hf (by simp) h1
  have b := Nf.count_lt (p := fun _ => false) (q := fun i => p i && decide (i ≠ f)) n (fun _ _ h => by cases h) hj rfl (by simp [h2, hne])
  omega
theorem rights (sts : List St) (f : Int) (hf : 0 ≤ f ∧ f < sts.length) : (allF sts sts.length 0 && (decide (Nf.count (is6 sts) sts.length = 1) && ((rd_T88 sts f).f0 == 6))) = rightFrom sts f := by
  obtain ⟨F, rfl⟩ := Int.eq_ofNat_of_zero_le hf.1
  rw [Bool.eq_iff_iff]
  unfold rightFrom
  simp only [Bool.and_eq_true, decide_eq_true_eq, beq_iff_eq, rightAt_iff, allF_iff]
  constructor
  · rintro ⟨h1, h2, h3⟩ j h4 h5
    refine ⟨h1 j h4 h5, fun h6 => ?_, fun h6 => ?_⟩
    · have := count_one h2 (f := F) (j := j) (by omega) (by omega) (by unfold is6; exact decide_eq_true h3) (by unfold is6; exact decide_eq_true h6)
      omega
    · have : j = F := by omega
      subst this
      exact h3
  · intro h
    refine ⟨fun j h1 h2 => (h j h1 h2).1, ?_, (h F (by omega) (by omega)).2.2 rfl⟩
    rw [count_single F sts.length (is6 sts) (fun j hj => ?_), if_pos (by omega)]
    have := (h j (by omega) (by omega)).2
    unfold is6
    rw [decide_eq_true_eq, this]
    omega
theorem rright_j0 (sts : List St) (s f : Int) (b : Bool) (hl : b = false → sts.length ≤ 600 ∧ 0 ≤ f ∧ f < sts.length) : EV (fun k => tattingref09_Right.j0 k (sts.length : Int) b sts s f) (!b && rightFrom sts f) := by
  cases b
  · obtain ⟨h1, h2⟩ := hl rfl
    have h := rright_l0 sts s f h1 h2 sts.length 0 (by omega) (by omega)
    rw [rights sts f h2] at h
    exact EV.step h fun k => by simp only [tattingref09_Right.j0, Bool.false_eq_true, if_false]; rfl
  · exact EV.stop fun k => by simp only [tattingref09_Right.j0, if_true]; rfl
theorem rright_eq (sts : List St) (s f : Int) : EV (fun k => tattingref09_Right.f k sts s f) (rightN sts s f) := by
  unfold tattingref09_Right.f rightN
  by_cases h0 : (sts.length : Int) = 0
  · simp only [if_pos h0]
    refine (rright_j0 sts s f true (fun h => by cases h)).cast ?_
    rw [decide_eq_false (by omega)]; rfl
  · simp only [if_neg h0]
    by_cases h1 : (sts.length : Int) > 600
    · simp only [if_pos h1]
      refine (rright_j0 sts s f true (fun h => by cases h)).cast ?_
      rw [decide_eq_false (by omega)]; rfl
    · simp only [if_neg h1]
      by_cases h2 : s < 0
      · simp only [if_pos h2]
        refine (rright_j0 sts s f true (fun h => by cases h)).cast ?_
        rw [decide_eq_false (by omega)]; rfl
      · simp only [if_neg h2]
        by_cases h3 : s ≥ (sts.length : Int)
        · simp only [if_pos h3]
          refine (rright_j0 sts s f true (fun h => by cases h)).cast ?_
          rw [decide_eq_false (by omega)]; rfl
        · simp only [if_neg h3]
          by_cases h4 : f < 0
          · simp only [if_pos h4]
            refine (rright_j0 sts s f true (fun h => by cases h)).cast ?_
            rw [decide_eq_false (by omega)]; rfl
          · simp only [if_neg h4]
            refine (rright_j0 sts s f _ (fun h => by simp only [decide_eq_false_iff_not] at h; omega)).cast ?_
            congr 1
            by_cases h5 : f ≥ (sts.length : Int)
            · rw [decide_eq_true h5, decide_eq_false (by omega)]; rfl
            · rw [decide_eq_false h5, decide_eq_true (by omega)]; rfl

end Go.Proofs.YtjgdpcblenahkaaDoorQ
