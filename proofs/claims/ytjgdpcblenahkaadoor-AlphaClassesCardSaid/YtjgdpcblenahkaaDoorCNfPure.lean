
/- Plain: states that are reached at once. No program in sight. -/
namespace Go.Proofs.Nf

/-- From some of n places by edges. -/
inductive Reach (n : Nat) (E : Nat → Nat → Prop) (S : Nat → Prop) : Nat → Prop
  | base {i : Nat} (h : i < n) (hs : S i) : Reach n E S i
  | step {i j : Nat} (h : Reach n E S i) (e : E i j) (hj : j < n) : Reach n E S j

/-- How many of the first n are true. -/
def count (p : Nat → Bool) : Nat → Nat
  | 0 => 0
  | n + 1 => count p n + (if p n then 1 else 0)
theorem count_le (p : Nat → Bool) (n : Nat) : count p n ≤ n := by
  induction n with
  | zero => exact Nat.le_refl _
  | succ n ih => unfold count; split <;> omega
theorem count_mono {p q : Nat → Bool} (n : Nat) (h : ∀ i, i < n → p i = true → q i = true) : count p n ≤ count q n := by
  induction n with
  | zero => exact Nat.le_refl _
  | succ n ih =>
    have := ih fun i hi => h i (by omega)
    unfold count
    by_cases hp : p n = true
    · rw [if_pos hp, if_pos (h n (by omega) hp)]; omega
    · rw [if_neg hp]; split <;> omega
theorem count_lt {p q : Nat → Bool} (n : Nat) (h : ∀ i, i < n → p i = true → q i = true) {k : Nat} (hk : k < n) (h1 : p k = false) (h2 : q k = true) : count p n < count q n := by
  induction n with
  | zero => omega
  | succ n ih =>
    unfold count
    by_cases e : k = n
    · subst e
      have := count_mono (p := p) (q := q) k fun i hi => h i (by omega)
      rw [h1, h2]; simp; omega
    · have := ih (fun i hi => h i (by omega)) (by omega)
      by_cases hp : p n = true
      · rw [if_pos hp, if_pos (h n (by omega) hp)]; omega
      · rw [if_neg hp]; split <;> omega

/-- One place of a turn: what stands at i goes on. -/
def mark (E : Nat → Nat → Bool) (i : Nat) (p : Nat → Bool) : Nat → Bool := fun j => p j || (p i && E i j)
/-- The first so many places of a turn. -/
def turn (E : Nat → Nat → Bool) : Nat → (Nat → Bool) → Nat → Bool
  | 0, p => p
  | k + 1, p => mark E k (turn E k p)

end Go.Proofs.Nf
