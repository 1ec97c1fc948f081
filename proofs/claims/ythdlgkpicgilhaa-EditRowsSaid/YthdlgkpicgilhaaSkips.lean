/- A region that draws its order: many operations whose guards are false, passed over at once. -/
import Derived.Deep.RegionHeld3
import Derived.KernelRfl
namespace Go.Proofs.Sk
open Go

def skipB (md : Region.Mode) (ops : Array Oper) : List (Nat × Nat) → Array Bool → Act → Bool
  | [], _, _ => true
  | (i, d) :: is, listed, a =>
    match ops[i]? with
    | some o => (match o.dst with | some d' => decide (d' = d) | none => false) && (Region.ready md ops listed).contains i && Region.free md ops listed i && !Region.wanted o (yielded ops a.tmps) && skipB md ops is (listed.setIfInBounds i true) (a.put (some d) undef)
    | none => false
def skipL : List (Nat × Nat) → Array Bool → Array Bool
  | [], listed => listed
  | (i, _) :: is, listed => skipL is (listed.setIfInBounds i true)
def skipA : List (Nat × Nat) → Act → Act
  | [], a => a
  | (_, d) :: is, a => skipA is (a.put (some d) undef)
theorem skips {P : Program} {ops : Array Oper} {Q : Exit → Act → World → Prop} {md : Region.Mode} {S : World → Prop} (hs : Region.noSelect ops = true) (hQ : ∀ (c : _) (d : Option Tmp) (v : Value) (a : Act) (w : World), Q (.panic c) (a.put d v) w → Q (.panic c) a w) :
    ∀ (is : List (Nat × Nat)) (fuel : Nat) (listed : Array Bool) (a : Act) (w : World), skipB md ops is listed a = true → S w → wpAnyH P md ops Q S fuel (skipL is listed) (skipA is a) w → wpAnyH P md ops Q S (fuel + is.length) listed a w
  | [], _, _, _, _, _, _, h => h
  | (i, d) :: is, fuel, listed, a, w, hB, hS, h => by
    unfold skipB at hB
    unfold skipL skipA at h
    cases ho : ops[i]? with
    | none => rw [ho] at hB; cases hB
    | some o =>
      rw [ho] at hB
      simp only [Bool.and_eq_true, Bool.not_eq_true'] at hB
      obtain ⟨⟨⟨⟨h0, h1⟩, h2⟩, h3⟩, h4⟩ := hB
      have hd : o.dst = some d := by
        cases hd : o.dst with
        | none => rw [hd] at h0; cases h0
        | some d' => rw [hd] at h0; rw [of_decide_eq_true h0]
      refine wpAnyH_take ho hs h2 h1 (fun c a w q => hQ c o.dst undef a w q) (Or.inr ⟨h3, rfl⟩) hS ?_
      rw [hd]
      exact skips hs hQ is fuel _ _ w h4 hS h
end Go.Proofs.Sk
