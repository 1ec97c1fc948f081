/- Several short texts of this proof, one behind the other. -/
import Derived.Test.YtibabfgfahlekaaHAttr
import Derived.Test.YtibabfgfahlekaaHCore
import Derived.Test.YtibabfgfahlekaaHQ0
import Derived.Test.YtibabfgfahlekaaHNwPure
section
/- Pruned from its seat's text: what the theorem hangs on. -/
/- Plain: how many states are made of a tree, as the program and as the document's answer reckon it. -/
namespace Go.Proofs.Ytibabfgfahlekaa
open Go.Proofs.Bs

theorem kind_cases {k : Int} (h : 0 ≤ arity k) : (k = 1 ∨ k = 2 ∨ k = 3 ∨ k = 4) ∧ arity k = 0 ∨ (k = 5 ∨ k = 6) ∧ arity k = 2 ∨ k = 7 ∧ arity k = 1 := by
  unfold arity at h ⊢
  split at h
  · rename_i h1; exact .inl ⟨h1, by rw [if_pos h1]⟩
  · split at h
    · rename_i h7; subst h7; exact .inr (.inr ⟨rfl, rfl⟩)
    · split at h
      · rename_i h1 h2 h3
        exact .inr (.inl ⟨h3, by rw [if_neg h1, if_neg h2, if_pos h3]⟩)
      · omega
theorem rep_fields {x : Nd} (hx : fieldsB x = true) (h7 : x.kind = 7) : 0 ≤ x.lo ∧ x.lo ≤ 32 ∧ (x.hi = -1 ∨ x.lo ≤ x.hi ∧ x.hi ≤ 32) := by
  unfold fieldsB at hx
  split at hx
  · cases hx
  · rw [if_neg (by omega)] at hx
    simpa using hx
theorem kidsP_length (l : List Nd) (i : Nat) (x : Nd) (hx : l[i]? = some x) (hf : 0 ≤ fst1 l i) : (kidsP l i).length = (arity x.kind).toNat := by
  rw [kidsP_eq l i _ hx hf, List.length_reverse, kidsDown_length]
def sumOf : List Int → Int → Int
  | [], m => m
  | d :: ds, m => sumOf ds (m + d)
/-- The states of a node, out of its arguments' own. -/
def fSize (x : Nd) (ks : List Int) : Int :=
  min (if x.kind = 5 then sumOf ks 2 - 2 else if x.kind = 7 ∧ x.hi < 0 then 3 + (x.lo + 1) * ks.getD 0 0 else if x.kind = 7 then 2 + x.hi * ks.getD 0 0 + x.hi - x.lo else sumOf ks 2) 1048576
theorem fSize_leaf (x : Nd) (h : x.kind = 1 ∨ x.kind = 2 ∨ x.kind = 3 ∨ x.kind = 4) : fSize x [] = 2 := by
  unfold fSize sumOf
  rw [if_neg (by omega), if_neg (by omega), if_neg (by omega)]
  rfl
theorem fSize_cat (x : Nd) (h : x.kind = 5) (a b : Int) : fSize x [a, b] = min (a + b) 1048576 := by
  unfold fSize
  rw [if_pos h]
  simp only [sumOf]
  congr 1; omega
theorem fSize_or (x : Nd) (h : x.kind = 6) (a b : Int) : fSize x [a, b] = min (a + b + 2) 1048576 := by
  unfold fSize
  rw [if_neg (by omega), if_neg (by omega), if_neg (by omega)]
  simp only [sumOf]
  congr 1; omega
theorem fSize_rep (x : Nd) (h : x.kind = 7) (a : Int) : fSize x [a] = min (if x.hi < 0 then 3 + (x.lo + 1) * a else 2 + x.hi * a + x.hi - x.lo) 1048576 := by
  unfold fSize
  rw [if_neg (by omega)]
  by_cases hh : x.hi < 0
  · rw [if_pos ⟨h, hh⟩, if_pos hh]; rfl
  · rw [if_neg (fun k => hh k.2), if_pos h, if_neg hh]; rfl
theorem fSize_le (x : Nd) (ks : List Int) : fSize x ks ≤ 1048576 := by unfold fSize; omega
theorem fSize_pos (x : Nd) (ks : List Int) (hx : fieldsB x = true) (ha : 0 ≤ arity x.kind) (hk : (ks.length : Int) = arity x.kind) (h : ∀ d ∈ ks, 1 ≤ d ∧ d ≤ 1048576) : 1 ≤ fSize x ks := by
  have hc : x.kind = 1 ∨ x.kind = 2 ∨ x.kind = 3 ∨ x.kind = 4 ∨ x.kind = 5 ∨ x.kind = 6 ∨ x.kind = 7 := by
    unfold arity at ha
    split at ha
    · omega
    · split at ha
      · omega
      · split at ha
        · omega
        · omega
  rcases hc with e | e | e | e | e | e | e
  case inr.inr.inr.inr.inr.inr =>
    have h1 : arity x.kind = 1 := by rw [e]; decide
    rw [h1] at hk
    obtain ⟨a, rfl⟩ : ∃ a, ks = [a] := by
      match ks, hk with
      | [a], _ => exact ⟨a, rfl⟩
    rw [fSize_rep x e]
    have := h a (by simp)
    have hf : 0 ≤ x.lo ∧ x.lo ≤ 32 ∧ (x.hi = -1 ∨ x.lo ≤ x.hi ∧ x.hi ≤ 32) := by
      unfold fieldsB at hx
      split at hx
      · cases hx
      · rw [if_neg (by omega)] at hx
        simpa using hx
    split
    · have : 0 ≤ (x.lo + 1) * a := Int.mul_nonneg (by omega) (by omega)
      omega
    · have : 0 ≤ x.hi * a := Int.mul_nonneg (by omega) (by omega)
      omega
  all_goals
    have h1 := congrArg arity e
    rw [h1] at hk
    first
    | (obtain rfl : ks = [] := List.eq_nil_of_length_eq_zero (by have : ((ks.length : Nat) : Int) = 0 := hk; omega)
       rw [fSize_leaf x (by omega)]; omega)
    | (obtain ⟨a, b, rfl⟩ : ∃ a b, ks = [a, b] := by
         have h2 : ks.length = 2 := by have : ((ks.length : Nat) : Int) = 2 := hk; omega
         match ks, h2 with
         | [a, b], _ => exact ⟨a, b, rfl⟩
       have ha := h a (by simp)
       have hb := h b (by simp)
       first
       | (rw [fSize_cat x e]; omega)
       | (rw [fSize_or x e]; omega))
end Go.Proofs.Ytibabfgfahlekaa
end
section
/- Pruned from its seat's text: what the theorem hangs on. -/
/- A state of an automaton, as cells. -/
set_option linter.unusedVariables false
set_option linter.unusedSimpArgs false
namespace Go.Proofs.YtibabfgfahlekaaQ
open Go.RowKit Go.Proofs.YtibabfgfahlekaaW.PrintWords Go.Proofs.YtibabfgfahlekaaW.PrintLast Go.Proofs.Ytibabfgfahlekaa

def stCells (s : St) : List Value := [.int .i64 s.f0, .int .i64 s.f1, .int .i64 s.f2, .int .u64 s.f3.f0, .int .u64 s.f3.f1, .int .u64 s.f3.f2, .int .u64 s.f3.f3]
def stV (s : St) : Value := .agg #[.int .i64 s.f0, .int .i64 s.f1, .int .i64 s.f2, .int .u64 s.f3.f0, .int .u64 s.f3.f1, .int .u64 s.f3.f2, .int .u64 s.f3.f3]
theorem stCells_length (s : St) : (stCells s).length = 7 := rfl
theorem stCells_one (s : St) : ∀ u ∈ stCells s, u.oneCell' = true := by
  intro u hu
  simp only [stCells, List.mem_cons, List.not_mem_nil, or_false] at hu
  rcases hu with rfl | rfl | rfl | rfl | rfl | rfl | rfl <;> rfl
theorem info_st : (Try.prog.info? 72).map (fun i => (i.zero, i.size, i.bytes)) = some (some (.agg #[.int .i64 0, .int .i64 0, .int .i64 0, .int .u64 0, .int .u64 0, .int .u64 0, .int .u64 0]), 7, 56) := by kernel_rfl
end Go.Proofs.YtibabfgfahlekaaQ
end
section
/- Pruned from its seat's text: what the theorem hangs on. -/
/- Plain: what a tree tells ahead of any text, and which parts of a text fit it. -/
namespace Go.Proofs.Ytibabfgfahlekaa
open Go.Proofs.Bs
set_option linter.unusedVariables false

structure Fa where
  never : Bool
  least : Int
  most : Int
  first : S
  ends : Bool
def Fa.zero : Fa := ⟨false, 0, 0, S.zero, false⟩
def Fa.none_ : Fa := ⟨true, 0, 0, S.zero, false⟩

abbrev Grid := Nat → Nat → Bool
def evenG (n : Nat) : Grid := fun i j => decide (i = j ∧ j ≤ n)
def behindG (n : Nat) (a b : Grid) : Grid := fun i j => decide (i ≤ j ∧ j ≤ n) && (List.range (n + 1)).any fun m => decide (i ≤ m ∧ m ≤ j) && a i m && b m j
def eitherG (n : Nat) (a b : Grid) : Grid := fun i j => decide (i ≤ j ∧ j ≤ n) && (a i j || b i j)
def powG (n : Nat) (x : Grid) : Nat → Grid
  | 0 => evenG n
  | k + 1 => behindG n (powG n x k) x
def repG (n : Nat) (x : Grid) (lo : Nat) : Nat → Grid
  | 0 => powG n x lo
  | k + 1 => eitherG n (repG n x lo k) (powG n x (lo + k + 1))
def fitG (n : Nat) (text : Nat → Nat) (x : Nd) (ks : List Grid) : Grid :=
  if x.kind = 1 then fun i j => decide (j = i + 1 ∧ j ≤ n) && has x.set (text i)
  else if x.kind = 2 then evenG n
  else if x.kind = 3 then fun i j => decide (i = 0 ∧ j = 0)
  else if x.kind = 4 then fun i j => decide (i = n ∧ j = n)
  else if x.kind = 5 then behindG n (ks.getD 0 (evenG n)) (ks.getD 1 (evenG n))
  else if x.kind = 6 then eitherG n (ks.getD 0 (evenG n)) (ks.getD 1 (evenG n))
  else repG n (ks.getD 0 (evenG n)) x.lo.toNat (if x.hi = -1 then n else (x.hi - x.lo).toNat)

theorem behindG_iff {n : Nat} {a b : Grid} {i j : Nat} : behindG n a b i j = true ↔ i ≤ j ∧ j ≤ n ∧ ∃ m, i ≤ m ∧ m ≤ j ∧ a i m = true ∧ b m j = true := by
  unfold behindG
  simp only [Bool.and_eq_true, decide_eq_true_eq, List.any_eq_true, List.mem_range]
  constructor
  · rintro ⟨⟨h1, h2⟩, m, h3, ⟨⟨h4, h5⟩, h6⟩, h7⟩
    exact ⟨h1, h2, m, h4, h5, h6, h7⟩
  · rintro ⟨h1, h2, m, h4, h5, h6, h7⟩
    exact ⟨⟨h1, h2⟩, m, by omega, ⟨⟨h4, h5⟩, h6⟩, h7⟩
theorem eitherG_iff {n : Nat} {a b : Grid} {i j : Nat} : eitherG n a b i j = true ↔ i ≤ j ∧ j ≤ n ∧ (a i j = true ∨ b i j = true) := by
  unfold eitherG
  simp only [Bool.and_eq_true, decide_eq_true_eq, Bool.or_eq_true, and_assoc]

/-- What facts tell of a grid. -/
def Told (f : Fa) (n : Nat) (text : Nat → Nat) (g : Grid) : Prop :=
  0 ≤ f.least ∧ -1 ≤ f.most ∧ ∀ i j, g i j = true → i ≤ j ∧ j ≤ n ∧ f.never = false ∧ f.least ≤ (j : Int) - i ∧ (f.most < 0 ∨ (j : Int) - i ≤ f.most) ∧ (i < j → has f.first (text i) = true)

end Go.Proofs.Ytibabfgfahlekaa
end
