/- Pruned from its seat's text: what the theorem hangs on. -/
import Derived.Test.YtibabfgfahlekaaBFsPure
/- Plain: what a tree tells ahead of any text, and which parts of a text fit it. -/
namespace Go.Proofs.Ytibabfgfahlekaa
open Go.Proofs.Bs
set_option linter.unusedVariables false

structure Fa where
  never : Bool
  least : Int
  most : Int
  first : S
  ends : Bool
def Fa.zero : Fa := ⟨false, 0, 0, S.zero, false⟩
def Fa.none_ : Fa := ⟨true, 0, 0, S.zero, false⟩
instance : Inhabited Fa := ⟨Fa.zero⟩
def noSet (s : S) : Bool := decide (s.a = 0 ∧ s.b = 0 ∧ s.c = 0 ∧ s.d = 0)
def faCat (a b : Fa) : Fa :=
  if a.never = true ∨ b.never = true then Fa.none_ else
  ⟨false, min (a.least + b.least) 1048576, if a.most < 0 ∨ b.most < 0 then -1 else min (a.most + b.most) 1048576, if a.least = 0 then Bs.or a.first b.first else a.first, false⟩
def faOr (a b : Fa) : Fa :=
  if a.never = true then b else if b.never = true then a else
  ⟨false, min a.least b.least, if a.most < 0 ∨ b.most < 0 then -1 else max a.most b.most, Bs.or a.first b.first, false⟩
def faRep (x : Nd) (a : Fa) : Fa :=
  if x.hi = 0 ∨ x.lo = 0 ∧ a.never = true then Fa.zero else if a.never = true then a else
  ⟨false, min (x.lo * a.least) 1048576, if a.most < 0 ∨ x.hi < 0 ∧ 0 < a.most then -1 else min (x.hi * a.most) 1048576, a.first, false⟩
def fFact (x : Nd) (ks : List Fa) : Fa :=
  if x.kind = 1 then (if noSet x.set = true then Fa.none_ else ⟨false, 1, 1, x.set, false⟩)
  else if x.kind = 5 then faCat (ks.getD 0 Fa.zero) (ks.getD 1 Fa.zero)
  else if x.kind = 6 then faOr (ks.getD 0 Fa.zero) (ks.getD 1 Fa.zero)
  else if x.kind = 7 then faRep x (ks.getD 0 Fa.zero)
  else Fa.zero

theorem min_spec (a b : Int) : min a b ≤ a ∧ min a b ≤ b ∧ (min a b = a ∨ min a b = b) := by omega
theorem max_spec (a b : Int) : a ≤ max a b ∧ b ≤ max a b ∧ (max a b = a ∨ max a b = b) := by omega
abbrev Grid := Nat → Nat → Bool
def evenG (n : Nat) : Grid := fun i j => decide (i = j ∧ j ≤ n)
def behindG (n : Nat) (a b : Grid) : Grid := fun i j => decide (i ≤ j ∧ j ≤ n) && (List.range (n + 1)).any fun m => decide (i ≤ m ∧ m ≤ j) && a i m && b m j
def eitherG (n : Nat) (a b : Grid) : Grid := fun i j => decide (i ≤ j ∧ j ≤ n) && (a i j || b i j)
def powG (n : Nat) (x : Grid) : Nat → Grid
  | 0 => evenG n
  | k + 1 => behindG n (powG n x k) x
def repG (n : Nat) (x : Grid) (lo : Nat) : Nat → Grid
  | 0 => powG n x lo
  | k + 1 => eitherG n (repG n x lo k) (powG n x (lo + k + 1))
def fitG (n : Nat) (text : Nat → Nat) (x : Nd) (ks : List Grid) : Grid :=
  if x.kind = 1 then fun i j => decide (j = i + 1 ∧ j ≤ n) && has x.set (text i)
  else if x.kind = 2 then evenG n
  else if x.kind = 3 then fun i j => decide (i = 0 ∧ j = 0)
  else if x.kind = 4 then fun i j => decide (i = n ∧ j = n)
  else if x.kind = 5 then behindG n (ks.getD 0 (evenG n)) (ks.getD 1 (evenG n))
  else if x.kind = 6 then eitherG n (ks.getD 0 (evenG n)) (ks.getD 1 (evenG n))
  else repG n (ks.getD 0 (evenG n)) x.lo.toNat (if x.hi = -1 then n else (x.hi - x.lo).toNat)

theorem behindG_iff {n : Nat} {a b : Grid} {i j : Nat} : behindG n a b i j = true ↔ i ≤ j ∧ j ≤ n ∧ ∃ m, i ≤ m ∧ m ≤ j ∧ a i m = true ∧ b m j = true := by
  unfold behindG
  simp only [Bool.and_eq_true, decide_eq_true_eq, List.any_eq_true, List.mem_range]
  constructor
  · rintro ⟨⟨h1, h2⟩, m, h3, ⟨⟨h4, h5⟩, h6⟩, h7⟩
    exact ⟨h1, h2, m, h4, h5, h6, h7⟩
  · rintro ⟨h1, h2, m, h4, h5, h6, h7⟩
    exact ⟨⟨h1, h2⟩, m, by omega, ⟨⟨h4, h5⟩, h6⟩, h7⟩
theorem eitherG_iff {n : Nat} {a b : Grid} {i j : Nat} : eitherG n a b i j = true ↔ i ≤ j ∧ j ≤ n ∧ (a i j = true ∨ b i j = true) := by
  unfold eitherG
  simp only [Bool.and_eq_true, decide_eq_true_eq, Bool.or_eq_true, and_assoc]

/-- What facts tell of a grid. -/
def Told (f : Fa) (n : Nat) (text : Nat → Nat) (g : Grid) : Prop :=
  0 ≤ f.least ∧ -1 ≤ f.most ∧ ∀ i j, g i j = true → i ≤ j ∧ j ≤ n ∧ f.never = false ∧ f.least ≤ (j : Int) - i ∧ (f.most < 0 ∨ (j : Int) - i ≤ f.most) ∧ (i < j → has f.first (text i) = true)

theorem told_none (n : Nat) (text : Nat → Nat) (g : Grid) (h : ∀ i j, g i j = false) : Told Fa.none_ n text g :=
  ⟨by decide, by decide, fun i j hg => by rw [h] at hg; cases hg⟩
theorem told_empty {n : Nat} {text : Nat → Nat} {f : Fa} {g : Grid} (h : Told f n text g) (hn : f.never = true) : ∀ i j, g i j = false := fun i j => by
  rcases Bool.eq_false_or_eq_true (g i j) with k | k
  · have := (h.2.2 i j k).2.2.1; rw [hn] at this; cases this
  · exact k
theorem told_even (n : Nat) (text : Nat → Nat) (g : Grid) (h : ∀ i j, g i j = true → i = j ∧ j ≤ n) : Told Fa.zero n text g :=
  ⟨by decide, by decide, fun i j hg => by
    have := h i j hg
    exact ⟨by omega, this.2, rfl, by show (0 : Int) ≤ _; omega, .inr (by show _ ≤ (0 : Int); omega), fun k => by omega⟩⟩

theorem told_cat {n : Nat} {text : Nat → Nat} {a b : Fa} {g k : Grid} (hn : n ≤ 1048576) (h : Told a n text g) (h' : Told b n text k) : Told (faCat a b) n text (behindG n g k) := by
  unfold faCat
  split
  · rename_i hne
    refine told_none _ _ _ fun i j => ?_
    rcases Bool.eq_false_or_eq_true (behindG n g k i j) with z | z
    · obtain ⟨_, _, m, _, _, h1, h2⟩ := behindG_iff.1 z
      rcases hne with q | q
      · rw [told_empty h q] at h1; cases h1
      · rw [told_empty h' q] at h2; cases h2
    · exact z
  · have a0 := h.1
    have b0 := h'.1
    have a1 := h.2.1
    have b1 := h'.2.1
    have ms := min_spec (a.most + b.most) 1048576
    refine ⟨by show 0 ≤ min _ _; omega, ?_, fun i j hg => ?_⟩
    · dsimp only
      split <;> omega
    · obtain ⟨h1, h2, m, h3, h4, h5, h6⟩ := behindG_iff.1 hg
      obtain ⟨p1, p2, p3, p4, p5, p6⟩ := h.2.2 i m h5
      obtain ⟨q1, q2, q3, q4, q5, q6⟩ := h'.2.2 m j h6
      refine ⟨h1, h2, rfl, by show min _ _ ≤ _; omega, ?_, fun hij => ?_⟩
      · dsimp only
        split
        · exact .inl (by omega)
        · exact .inr (by omega)
      · show has (if _ then _ else _) _ = true
        by_cases him : i < m
        · split
          · rw [has_or, p6 him]; rfl
          · exact p6 him
        · obtain rfl : i = m := by omega
          rw [if_pos (by omega), has_or, q6 hij, Bool.or_true]
theorem told_or {n : Nat} {text : Nat → Nat} {a b : Fa} {g k : Grid} (h : Told a n text g) (h' : Told b n text k) : Told (faOr a b) n text (eitherG n g k) := by
  unfold faOr
  split
  · rename_i hne
    refine ⟨h'.1, h'.2.1, fun i j hg => ?_⟩
    obtain ⟨h1, h2, h3⟩ := eitherG_iff.1 hg
    rw [told_empty h hne i j] at h3
    exact h'.2.2 i j (h3.resolve_left (by simp))
  · split
    · rename_i hne
      refine ⟨h.1, h.2.1, fun i j hg => ?_⟩
      obtain ⟨h1, h2, h3⟩ := eitherG_iff.1 hg
      rw [told_empty h' hne i j] at h3
      exact h.2.2 i j (h3.resolve_right (by simp))
    · have a0 := h.1
      have b0 := h'.1
      have a1 := h.2.1
      have b1 := h'.2.1
      have ms := max_spec a.most b.most
      refine ⟨by show 0 ≤ min _ _; omega, ?_, fun i j hg => ?_⟩
      · dsimp only
        split <;> omega
      · obtain ⟨h1, h2, h3⟩ := eitherG_iff.1 hg
        rcases h3 with h3 | h3
        · obtain ⟨p1, p2, p3, p4, p5, p6⟩ := h.2.2 i j h3
          refine ⟨h1, h2, rfl, by show min _ _ ≤ _; omega, ?_, fun hij => by show has (Bs.or _ _) _ = true; rw [has_or, p6 hij]; rfl⟩
          dsimp only
          split
          · exact .inl (by omega)
          · exact .inr (by omega)
        · obtain ⟨p1, p2, p3, p4, p5, p6⟩ := h'.2.2 i j h3
          refine ⟨h1, h2, rfl, by show min _ _ ≤ _; omega, ?_, fun hij => by show has (Bs.or _ _) _ = true; rw [has_or, p6 hij, Bool.or_true]⟩
          dsimp only
          split
          · exact .inl (by omega)
          · exact .inr (by omega)
theorem pow_told {n : Nat} {text : Nat → Nat} {a : Fa} {g : Grid} (h : Told a n text g) (k : Nat) : ∀ i j, powG n g k i j = true → i ≤ j ∧ j ≤ n ∧ (a.never = true → k = 0) ∧ k * a.least ≤ (j : Int) - i ∧ (a.most < 0 ∨ (j : Int) - i ≤ k * a.most) ∧ (i < j → has a.first (text i) = true) := by
  induction k with
  | zero =>
    intro i j hg
    simp only [powG, evenG, decide_eq_true_eq] at hg
    refine ⟨by omega, hg.2, fun _ => rfl, by simp; omega, .inr (by simp; omega), fun hij => by omega⟩
  | succ k ih =>
    intro i j hg
    obtain ⟨h1, h2, m, h3, h4, h5, h6⟩ := behindG_iff.1 hg
    obtain ⟨p1, p2, p3, p4, p5, p6⟩ := ih i m h5
    obtain ⟨q1, q2, q3, q4, q5, q6⟩ := h.2.2 m j h6
    have e1 : ((k + 1 : Nat) : Int) * a.least = k * a.least + a.least := by rw [Int.natCast_add, Int.add_mul]; simp
    have e2 : ((k + 1 : Nat) : Int) * a.most = k * a.most + a.most := by rw [Int.natCast_add, Int.add_mul]; simp
    refine ⟨h1, h2, fun hn => (by rw [q3] at hn; cases hn), by rw [e1]; omega, ?_, fun hij => ?_⟩
    · rw [e2]
      rcases p5 with p5 | p5
      · exact .inl p5
      · rcases q5 with q5 | q5
        · exact .inl q5
        · exact .inr (by omega)
    · by_cases him : i < m
      · exact p6 him
      · obtain rfl : i = m := by omega
        exact q6 hij
theorem rep_pow {n : Nat} {g : Grid} (lo m : Nat) : ∀ i j, repG n g lo m i j = true → ∃ k, lo ≤ k ∧ k ≤ lo + m ∧ powG n g k i j = true := by
  induction m with
  | zero => intro i j h; exact ⟨lo, by omega, by omega, h⟩
  | succ m ih =>
    intro i j h
    rcases (eitherG_iff.1 h).2.2 with h | h
    · obtain ⟨k, h1, h2, h3⟩ := ih i j h
      exact ⟨k, h1, by omega, h3⟩
    · exact ⟨lo + m + 1, by omega, by omega, h⟩
theorem told_rep {n : Nat} {text : Nat → Nat} {a : Fa} {g : Grid} (x : Nd) (h : Told a n text g) (hn : n ≤ 1048576) (h0 : 0 ≤ x.lo) (hh : x.hi = -1 ∨ x.lo ≤ x.hi) :
    Told (faRep x a) n text (repG n g x.lo.toNat (if x.hi = -1 then n else (x.hi - x.lo).toNat)) := by
  have hp := fun k => pow_told h k
  unfold faRep
  split
  · rename_i hz
    refine told_even _ _ _ fun i j hg => ?_
    obtain ⟨k, h1, h2, h3⟩ := rep_pow _ _ _ _ hg
    obtain ⟨q1, q2, q3, q4, q5, q6⟩ := hp k i j h3
    have hk : k = 0 := by
      rcases hz with z | ⟨_, z⟩
      · rw [if_neg (by omega)] at h2; omega
      · exact q3 z
    subst hk
    simp only [powG, evenG, decide_eq_true_eq] at h3
    exact h3
  · rename_i hz
    split
    · rename_i hne
      refine ⟨h.1, h.2.1, fun i j hg => ?_⟩
      obtain ⟨k, h1, h2, h3⟩ := rep_pow _ _ _ _ hg
      have := (hp k i j h3).2.2.1 hne
      exact absurd (.inr ⟨by omega, hne⟩) hz
    · rename_i hne
      have ms := min_spec (x.hi * a.most) 1048576
      have a0 := h.1
      have a1 := h.2.1
      refine ⟨?_, ?_, fun i j hg => ?_⟩
      · have : 0 ≤ x.lo * a.least := Int.mul_nonneg h0 a0
        show 0 ≤ min _ _
        omega
      · dsimp only
        split
        · omega
        · rename_i hm
          have : 0 ≤ x.hi * a.most := by
            rcases hh with e | e
            · have : a.most = 0 := by omega
              rw [this]; omega
            · exact Int.mul_nonneg (by omega) (by omega)
          omega
      · obtain ⟨k, h1, h2, h3⟩ := rep_pow _ _ _ _ hg
        obtain ⟨q1, q2, q3, q4, q5, q6⟩ := hp k i j h3
        refine ⟨q1, q2, rfl, ?_, ?_, fun hij => q6 hij⟩
        · have : x.lo * a.least ≤ k * a.least := Int.mul_le_mul_of_nonneg_right (by omega) a0
          show min _ _ ≤ _
          omega
        · dsimp only
          split
          · exact .inl (by omega)
          · rename_i hm
            have hjn : (j : Int) - i ≤ x.hi * a.most := by
              rcases q5 with q5 | q5
              · omega
              · rcases hh with e | e
                · have : a.most = 0 := by omega
                  rw [this] at q5 ⊢
                  simpa using q5
                · rw [if_neg (by omega)] at h2
                  have : (k : Int) * a.most ≤ x.hi * a.most := Int.mul_le_mul_of_nonneg_right (by omega) (by omega)
                  omega
            exact .inr (by omega)

theorem noSet_iff {s : S} : noSet s = true ↔ s = S.zero := by
  unfold noSet S.zero
  rw [decide_eq_true_eq]
  constructor
  · rintro ⟨h1, h2, h3, h4⟩; cases s; simp_all
  · rintro rfl; exact ⟨rfl, rfl, rfl, rfl⟩
theorem told_node (x : Nd) (hx : fieldsB x = true) (ha : 0 ≤ arity x.kind) (n : Nat) (hn : n ≤ 1048576) (text : Nat → Nat) (htx : ∀ i, text i < 256) (fs : List Fa) (gs : List Grid) (hl : (fs.length : Int) = arity x.kind)
    (h : ∀ j, j < fs.length → Told (fs.getD j Fa.zero) n text (gs.getD j (evenG n))) : Told (fFact x fs) n text (fitG n text x gs) := by
  rcases kind_cases ha with ⟨hk, h0⟩ | ⟨hk, h0⟩ | ⟨hk, h0⟩
  · rcases hk with e | e | e | e <;> unfold fFact fitG <;> rw [e]
    · rw [if_pos rfl, if_pos rfl]
      split
      · rename_i hz
        rw [noSet_iff.1 hz]
        refine told_none _ _ _ fun i j => ?_
        rw [has_zero, Bool.and_false]
      · refine ⟨(by show (0 : Int) ≤ 1; decide), (by show (-1 : Int) ≤ 1; decide), fun i j hg => ?_⟩
        rw [Bool.and_eq_true, decide_eq_true_eq] at hg
        obtain ⟨⟨h1, h2⟩, h3⟩ := hg
        exact ⟨by omega, h2, rfl, by show (1 : Int) ≤ _; omega, .inr (by show _ ≤ (1 : Int); omega), fun _ => h3⟩
    · exact told_even _ _ _ fun i j hg => by
        have : evenG n i j = true := hg
        simpa [evenG] using this
    · exact told_even _ _ _ fun i j hg => by
        have : decide (i = 0 ∧ j = 0) = true := hg
        rw [decide_eq_true_eq] at this
        omega
    · exact told_even _ _ _ fun i j hg => by
        have : decide (i = n ∧ j = n) = true := hg
        rw [decide_eq_true_eq] at this
        omega
  · have a := h 0 (by omega)
    have b := h 1 (by omega)
    rcases hk with e | e <;> unfold fFact fitG <;> rw [e]
    · exact told_cat hn a b
    · exact told_or a b
  · have a := h 0 (by omega)
    obtain ⟨h1, h2, h3⟩ := rep_fields hx hk
    have := told_rep x a hn h1 (by omega)
    unfold fFact fitG
    rw [hk]
    exact this
theorem told_at (l : List Nd) (hr : rightB l = true) (n : Nat) (hn : n ≤ 1048576) (text : Nat → Nat) (htx : ∀ i, text i < 256) (i : Nat) : i < l.length → Told (attr fFact l i) n text (attr (fitG n text) l i) := by
  obtain ⟨_, hall, _⟩ := (rightB_iff l).1 hr
  induction i using Nat.strongRecOn with
  | ind i ih =>
    intro hi
    have hf := (hall i hi).1
    have hx : l[i]? = some l[i] := List.getElem?_eq_getElem hi
    have hg : l.getD i zNd = l[i] := by rw [List.getD_eq_getElem?_getD, hx]; rfl
    obtain ⟨ha, _⟩ := stack_room l hr i _ hx
    have hlen := kidsP_length l i _ hx hf
    rw [attr_eq fFact l i hi hf, attr_eq (fitG n text) l i hi hf]
    refine told_node _ (hall i hi).2 (by rw [hg]; exact ha) n hn text htx _ _ (by rw [hg, List.length_map, hlen]; omega) fun j hj => ?_
    rw [List.length_map] at hj
    have hy := kidsP_ok l i hi hf (kidsP l i)[j] (List.getElem_mem hj)
    have e1 : ((kidsP l i).map fun y => attr fFact l y.toNat).getD j Fa.zero = attr fFact l ((kidsP l i)[j]).toNat := by
      simp [hj]
    have e2 : ((kidsP l i).map fun y => attr (fitG n text) l y.toNat).getD j (evenG n) = attr (fitG n text) l ((kidsP l i)[j]).toNat := by
      simp [hj]
    rw [e1, e2]
    exact ih _ (by omega) (by omega)
end Go.Proofs.Ytibabfgfahlekaa
