
/- Plain: states that are reached at once. No program in sight. -/
namespace Go.Proofs.Nf

/-- From some of n places by edges. -/
inductive Reach (n : Nat) (E : Nat → Nat → Prop) (S : Nat → Prop) : Nat → Prop
  | base {i : Nat} (h : i < n) (hs : S i) : Reach n E S i
  | step {i j : Nat} (h : Reach n E S i) (e : E i j) (hj : j < n) : Reach n E S j

theorem Reach.lt {n : Nat} {E : Nat → Nat → Prop} {S : Nat → Prop} {i : Nat} (h : Reach n E S i) : i < n := by
  cases h <;> assumption
theorem Reach.mono {n : Nat} {E : Nat → Nat → Prop} {S T : Nat → Prop} (hST : ∀ i, i < n → S i → Reach n E T i) {i : Nat} (h : Reach n E S i) : Reach n E T i := by
  induction h with
  | base h hs => exact hST _ h hs
  | step _ e hj ih => exact ih.step e hj
/-- What holds the first ones and is closed holds all that is reached. -/
theorem Reach.in_closed {n : Nat} {E : Nat → Nat → Prop} {S P : Nat → Prop} (h0 : ∀ i, i < n → S i → P i) (hc : ∀ i j, i < n → P i → E i j → j < n → P j) {i : Nat} (h : Reach n E S i) : P i := by
  induction h with
  | base h hs => exact h0 _ h hs
  | step hi e hj ih => exact hc _ _ hi.lt ih e hj

/-- How many of the first n are true. -/
def count (p : Nat → Bool) : Nat → Nat
  | 0 => 0
  | n + 1 => count p n + (if p n then 1 else 0)
theorem count_le (p : Nat → Bool) (n : Nat) : count p n ≤ n := by
  induction n with
  | zero => exact Nat.le_refl _
  | succ n ih => unfold count; split <;> omega
theorem count_mono {p q : Nat → Bool} (n : Nat) (h : ∀ i, i < n → p i = true → q i = true) : count p n ≤ count q n := by
  induction n with
  | zero => exact Nat.le_refl _
  | succ n ih =>
    have := ih fun i hi => h i (by omega)
    unfold count
    by_cases hp : p n = true
    · rw [if_pos hp, if_pos (h n (by omega) hp)]; omega
    · rw [if_neg hp]; split <;> omega
theorem count_lt {p q : Nat → Bool} (n : Nat) (h : ∀ i, i < n → p i = true → q i = true) {k : Nat} (hk : k < n) (h1 : p k = false) (h2 : q k = true) : count p n < count q n := by
  induction n with
  | zero => omega
  | succ n ih =>
    unfold count
    by_cases e : k = n
    · subst e
      have := count_mono (p := p) (q := q) k fun i hi => h i (by omega)
      rw [h1, h2]; simp; omega
    · have := ih (fun i hi => h i (by omega)) (by omega)
      by_cases hp : p n = true
      · rw [if_pos hp, if_pos (h n (by omega) hp)]; omega
      · rw [if_neg hp]; split <;> omega

/-- One place of a turn: what stands at i goes on. -/
def mark (E : Nat → Nat → Bool) (i : Nat) (p : Nat → Bool) : Nat → Bool := fun j => p j || (p i && E i j)
/-- The first so many places of a turn. -/
def turn (E : Nat → Nat → Bool) : Nat → (Nat → Bool) → Nat → Bool
  | 0, p => p
  | k + 1, p => mark E k (turn E k p)
def turns (n : Nat) (E : Nat → Nat → Bool) : Nat → (Nat → Bool) → Nat → Bool
  | 0, p => p
  | k + 1, p => turn E n (turns n E k p)
theorem mark_le (E : Nat → Nat → Bool) (i : Nat) (p : Nat → Bool) (j : Nat) (h : p j = true) : mark E i p j = true := by unfold mark; rw [h]; rfl
theorem turn_le (E : Nat → Nat → Bool) (k : Nat) (p : Nat → Bool) (j : Nat) (h : p j = true) : turn E k p j = true := by
  induction k with
  | zero => exact h
  | succ k ih => exact mark_le E k _ j ih
theorem turns_le (n : Nat) (E : Nat → Nat → Bool) (k : Nat) (p : Nat → Bool) (j : Nat) (h : p j = true) : turns n E k p j = true := by
  induction k with
  | zero => exact h
  | succ k ih => exact turn_le E n _ j ih
theorem turn_step (E : Nat → Nat → Bool) (k : Nat) (p : Nat → Bool) (i j : Nat) (hi : i < k) (h : p i = true) (e : E i j = true) : turn E k p j = true := by
  induction k with
  | zero => omega
  | succ k ih =>
    unfold turn
    by_cases hik : i = k
    · subst hik
      unfold mark
      rw [turn_le E i p i h, e]; simp
    · exact mark_le E k _ j (ih (by omega))
theorem turn_reach {n : Nat} {E : Nat → Nat → Bool} {S : Nat → Prop} (k : Nat) (hk : k ≤ n) (p : Nat → Bool) (hE : ∀ i j, i < n → E i j = true → j < n) (h : ∀ i, p i = true → Reach n (fun i j => E i j = true) S i) : ∀ i, turn E k p i = true → Reach n (fun i j => E i j = true) S i := by
  induction k with
  | zero => exact h
  | succ k ih =>
    intro j hj
    unfold turn mark at hj
    rw [Bool.or_eq_true, Bool.and_eq_true] at hj
    rcases hj with hj | ⟨h1, h2⟩
    · exact ih (by omega) j hj
    · exact (ih (by omega) k h1).step h2 (hE k j (by omega) h2)
/-- So many turns as there are places: all that is reached, and nothing else. -/
theorem turns_reach (n : Nat) (E : Nat → Nat → Bool) (p : Nat → Bool) (hE : ∀ i j, i < n → E i j = true → j < n) (hp : ∀ i, p i = true → i < n) (j : Nat) : turns n E n p j = true ↔ Reach n (fun i j => E i j = true) (fun i => p i = true) j := by
  have hr : ∀ k j, turns n E k p j = true → Reach n (fun i j => E i j = true) (fun i => p i = true) j := by
    intro k
    induction k with
    | zero => intro j h; exact .base (hp j h) h
    | succ k ih => intro j h; exact turn_reach n (Nat.le_refl _) _ hE (ih) j h
  refine ⟨hr n j, fun h => ?_⟩
  have hgrow : ∀ k, (∀ i j, i < n → turns n E k p i = true → E i j = true → turns n E k p j = true) ∨ (∃ i, i < n ∧ p i = true) ∧ k + 1 ≤ count (turns n E k p) n := by
    intro k
    induction k with
    | zero =>
      by_cases h0 : ∃ i, i < n ∧ p i = true
      · right
        refine ⟨h0, ?_⟩
        obtain ⟨i, hi, h1⟩ := h0
        have := count_lt (p := fun _ => false) (q := p) n (fun _ _ h => by cases h) hi rfl h1
        show 1 ≤ count p n
        omega
      · left
        intro i j hi h1 _
        exact absurd ⟨i, hi, h1⟩ h0
    | succ k ih =>
      rcases ih with hc | ⟨h0, hk⟩
      · left
        have hsame : ∀ q, q ≤ n → ∀ j, turn E q (turns n E k p) j = true → turns n E k p j = true := by
          intro q hq
          induction q with
          | zero => intro j h; exact h
          | succ q ihq =>
            intro j h
            unfold turn mark at h
            rw [Bool.or_eq_true, Bool.and_eq_true] at h
            rcases h with h | ⟨h1, h2⟩
            · exact ihq (by omega) j h
            · exact hc q j (by omega) (ihq (by omega) q h1) h2
        intro i j hi h1 h2
        exact turn_le E n _ j (hc i j hi (hsame n (Nat.le_refl _) i h1) h2)
      · by_cases hc : ∀ i j, i < n → turns n E k p i = true → E i j = true → turns n E k p j = true
        · left
          have hsame : ∀ q, q ≤ n → ∀ j, turn E q (turns n E k p) j = true → turns n E k p j = true := by
            intro q hq
            induction q with
            | zero => intro j h; exact h
            | succ q ihq =>
              intro j h
              unfold turn mark at h
              rw [Bool.or_eq_true, Bool.and_eq_true] at h
              rcases h with h | ⟨h1, h2⟩
              · exact ihq (by omega) j h
              · exact hc q j (by omega) (ihq (by omega) q h1) h2
          intro i j hi h1 h2
          exact turn_le E n _ j (hc i j hi (hsame n (Nat.le_refl _) i h1) h2)
        · right
          refine ⟨h0, ?_⟩
          have : ∃ i j, i < n ∧ turns n E k p i = true ∧ E i j = true ∧ turns n E k p j = false := by
            apply Classical.byContradiction
            intro hno
            apply hc
            intro i j hi h1 h2
            rcases Bool.eq_false_or_eq_true (turns n E k p j) with e | e
            · exact e
            · exact absurd ⟨i, j, hi, h1, h2, e⟩ hno
          obtain ⟨i, j, hi, h1, h2, h3⟩ := this
          have := count_lt (p := turns n E k p) (q := turns n E (k + 1) p) n (fun q _ hq => turn_le E n _ q hq) (hE i j hi h2) h3 (turn_step E n _ i j hi h1 h2)
          omega
  have hclosed : ∀ i j, i < n → turns n E n p i = true → E i j = true → turns n E n p j = true := by
    rcases hgrow n with hc | ⟨_, hk⟩
    · exact hc
    · have := count_le (turns n E n p) n
      omega
  exact Reach.in_closed (P := fun i => turns n E n p i = true) (fun i _ h => turns_le n E n p i h) (fun i j hi h e _ => hclosed i j hi h e) h

end Go.Proofs.Nf
