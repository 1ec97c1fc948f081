/- Pruned from its seat's text: what the theorem hangs on. -/
import Derived.Test.YtibabfgfahlekaaHM1
/- Plain: trees as lists of nodes. -/
namespace Go.Proofs.Ytibabfgfahlekaa
open Go.Proofs.Bs
structure Nd where
  kind : Int
  set : S
  lo : Int
  hi : Int
def arity (k : Int) : Int := if k = 1 ∨ k = 2 ∨ k = 3 ∨ k = 4 then 0 else if k = 7 then 1 else if k = 5 ∨ k = 6 then 2 else -1
theorem arity_cases (k : Int) : arity k = -1 ∨ arity k = 0 ∨ arity k = 1 ∨ arity k = 2 := by unfold arity; grind
theorem arity_lo (k : Int) : -1 ≤ arity k := by have := arity_cases k; omega
theorem arity_hi (k : Int) : arity k ≤ 2 := by have := arity_cases k; omega
def fieldsB (n : Nd) : Bool :=
  if n.kind ≠ 1 ∧ ¬ (n.set.a = 0 ∧ n.set.b = 0 ∧ n.set.c = 0 ∧ n.set.d = 0) then false
  else if n.kind ≠ 7 then decide (n.lo = 0 ∧ n.hi = 0)
  else decide (0 ≤ n.lo ∧ n.lo ≤ 32 ∧ (n.hi = -1 ∨ n.lo ≤ n.hi ∧ n.hi ≤ 32))
/-- What the program's walk over a list finds, from a count of open parts on. -/
def rightFrom : List Nd → Int → Bool
  | [], o => decide (o = 1)
  | n :: l, o => if arity n.kind < 0 ∨ o < arity n.kind ∨ fieldsB n = false then false else rightFrom l (o + (1 - arity n.kind))
def rightB (l : List Nd) : Bool := if 512 < l.length then false else rightFrom l 0
/-- Where a part begins, going down from a place (one more than the index) with so many parts still wanted. -/
def scanDown (l : List Nd) : Nat → Int → Int
  | 0, _ => -1
  | i + 1, want =>
    match l[i]? with
    | none => -1
    | some x => if arity x.kind < 0 then -1 else if want + (arity x.kind - 1) = 0 then i else scanDown l i (want + (arity x.kind - 1))
def firstI (l : List Nd) (i : Int) : Int := if i < 0 ∨ (l.length : Int) ≤ i then -1 else scanDown l (i.toNat + 1) 1
theorem scan_range (l : List Nd) (k : Nat) (m : Int) : -1 ≤ scanDown l k m ∧ scanDown l k m < (k : Int) := by
  induction k generalizing m with
  | zero => simp [scanDown]
  | succ k ih =>
    unfold scanDown
    split
    · omega
    · rename_i x _
      split
      · omega
      · split
        · omega
        · have := ih (m + (arity x.kind - 1)); omega
theorem first_range (l : List Nd) (i : Int) : -1 ≤ firstI l i ∧ firstI l i < max (l.length : Int) 1 := by
  unfold firstI
  split
  · omega
  · have := scan_range l (i.toNat + 1) 1; omega
/-- The last nodes of so many arguments, from the last one on. -/
def kidsDown (l : List Nd) : Nat → Int → List Int
  | 0, _ => []
  | n + 1, at_ => at_ :: kidsDown l n (firstI l at_ - 1)
theorem kidsDown_length (l : List Nd) (n : Nat) (i : Int) : (kidsDown l n i).length = n := by
  induction n generalizing i with
  | zero => rfl
  | succ n ih => simp [kidsDown, ih]
def kidsP (l : List Nd) (i : Int) : List Int :=
  if firstI l i < 0 then [] else
    match l[i.toNat]? with
    | none => []
    | some x => (kidsDown l (arity x.kind).toNat (i - 1)).reverse
theorem scan_step {l : List Nd} {k : Nat} {x : Nd} (h : l[k]? = some x) (m : Int) : scanDown l (k + 1) m = if arity x.kind < 0 then -1 else if m + (arity x.kind - 1) = 0 then (k : Int) else scanDown l k (m + (arity x.kind - 1)) := by
  rw [scanDown, h]
/-- Going over so many arguments, from a place on, by where the parts ahead begin. -/
def popN (out : List Int) : Nat → Int → Int
  | 0, f => f
  | k + 1, f => if f < 0 then f else popN out k (if f = 0 then -1 else out.getD (f - 1).toNat 0)
def firstOf (out : List Int) (i : Nat) (x : Nd) : Int := if arity x.kind < 0 then -1 else popN out (arity x.kind).toNat i
def zNd : Nd := ⟨0, S.zero, 0, 0⟩
def firstsTo (l : List Nd) : Nat → List Int
  | 0 => []
  | i + 1 => firstsTo l i ++ [firstOf (firstsTo l i) i (l.getD i zNd)]
theorem firstsTo_length (l : List Nd) (n : Nat) : (firstsTo l n).length = n := by
  induction n with
  | zero => rfl
  | succ n ih => simp [firstsTo, ih]
theorem popN_range {out : List Int} (ho : ∀ (j : Nat) v, out[j]? = some v → -1 ≤ v ∧ v ≤ (j : Int)) (k : Nat) (f : Int) (h0 : -1 ≤ f) (h1 : f ≤ out.length) : -1 ≤ popN out k f ∧ popN out k f ≤ f := by
  induction k generalizing f with
  | zero => simp [popN]; omega
  | succ k ih =>
    unfold popN
    split
    · omega
    · split
      · have := ih (-1) (by omega) (by omega)
        omega
      · have hlt : (f - 1).toNat < out.length := by omega
        have hg : out[(f - 1).toNat]? = some (out.getD (f - 1).toNat 0) := by rw [List.getD_eq_getElem?_getD, List.getElem?_eq_getElem hlt]; rfl
        have h2 := ho _ _ hg
        have := ih (out.getD (f - 1).toNat 0) h2.1 (by omega)
        omega
theorem popN_neg (out : List Int) (k : Nat) (f : Int) (h : f < 0) : popN out k f = f := by
  cases k with
  | zero => rfl
  | succ k => unfold popN; rw [if_pos h]
theorem popN_step (out : List Int) (k : Nat) (f : Int) (h : 0 ≤ f) : popN out (k + 1) f = popN out k (if f = 0 then -1 else out.getD (f - 1).toNat 0) := by
  rw [popN, if_neg (by omega)]
theorem firsts_range (l : List Nd) (n : Nat) : ∀ (j : Nat) v, (firstsTo l n)[j]? = some v → -1 ≤ v ∧ v ≤ (j : Int) := by
  induction n with
  | zero => intro j v h; simp [firstsTo] at h
  | succ n ih =>
    intro j v h
    unfold firstsTo at h
    generalize l.getD n zNd = x at h
    rcases Nat.lt_or_ge j n with hj | hj
    · rw [List.getElem?_append_left (by rw [firstsTo_length]; exact hj)] at h
      exact ih j v h
    · rw [List.getElem?_append_right (by rw [firstsTo_length]; exact hj), firstsTo_length] at h
      have hjn : j = n := by
        have := (List.getElem?_eq_some_iff.1 h).1
        simp at this; omega
      subst hjn
      simp at h
      subst h
      unfold firstOf
      split
      · omega
      · have := popN_range ih (arity x.kind).toNat (j : Int) (by omega) (by rw [firstsTo_length]; omega)
        omega
theorem drop_get {α : Type} {l : List α} {k : Nat} {x : α} (h : l[k]? = some x) : l.drop k = x :: l.drop (k + 1) := by
  obtain ⟨hk, rfl⟩ := List.getElem?_eq_some_iff.1 h
  exact List.drop_eq_getElem_cons hk
theorem right_step {l : List Nd} {k : Nat} {x : Nd} (h : l[k]? = some x) (m : Int) : rightFrom (l.drop k) m = if arity x.kind < 0 ∨ m < arity x.kind ∨ fieldsB x = false then false else rightFrom (l.drop (k + 1)) (m + (1 - arity x.kind)) := by
  rw [drop_get h]; rfl
end Go.Proofs.Ytibabfgfahlekaa
