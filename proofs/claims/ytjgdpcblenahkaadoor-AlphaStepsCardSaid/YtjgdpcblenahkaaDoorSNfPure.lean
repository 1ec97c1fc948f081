
/- Plain: states that are reached at once. No program in sight. -/
namespace Go.Proofs.Nf

/-- From some of n places by edges. -/
inductive Reach (n : Nat) (E : Nat → Nat → Prop) (S : Nat → Prop) : Nat → Prop
  | base {i : Nat} (h : i < n) (hs : S i) : Reach n E S i
  | step {i j : Nat} (h : Reach n E S i) (e : E i j) (hj : j < n) : Reach n E S j

/-- One place of a turn: what stands at i goes on. -/
def mark (E : Nat → Nat → Bool) (i : Nat) (p : Nat → Bool) : Nat → Bool := fun j => p j || (p i && E i j)
/-- The first so many places of a turn. -/
def turn (E : Nat → Nat → Bool) : Nat → (Nat → Bool) → Nat → Bool
  | 0, p => p
  | k + 1, p => mark E k (turn E k p)

end Go.Proofs.Nf
