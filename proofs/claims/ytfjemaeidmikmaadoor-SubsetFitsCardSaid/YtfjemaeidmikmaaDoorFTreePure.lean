import Derived.Test.YtfjemaeidmikmaaDoorFM1
namespace Go.Proofs.YtfjemaeidmikmaaDoor
open Go.Proofs.Bs
def fst1 (l : List Nd) (j : Nat) : Int := firstOf (firstsTo l j) j (l.getD j zNd)
theorem firstsTo_at (l : List Nd) (n j : Nat) (h : j < n) : (firstsTo l n)[j]? = some (fst1 l j) := by
  induction n with
  | zero => omega
  | succ n ih =>
    unfold firstsTo;rcases Nat.lt_or_ge j n with hj | hj
    · rw [List.getElem?_append_left (by rw [firstsTo_length]; exact hj)];exact ih hj
    · (obtain rfl : j = n := by omega);rw [List.getElem?_append_right (by rw [firstsTo_length]; omega), firstsTo_length, Nat.sub_self];rfl
theorem fst1_range (l : List Nd) (j : Nat) : -1 ≤ fst1 l j ∧ fst1 l j ≤ j := firsts_range l (j + 1) j _ (firstsTo_at l (j + 1) j (by omega))
def popG (l : List Nd) : Nat → Int → Int
  | 0, f => f
  | k + 1, f => if f < 0 then f else popG l k (if f = 0 then -1 else fst1 l (f - 1).toNat)
theorem popG_eq (l : List Nd) (k j : Nat) (f : Int) (h : f ≤ j) : popN (firstsTo l j) k f = popG l k f := by
  induction k generalizing f with
  | zero => rfl
  | succ k ih =>
    unfold popN popG;split
    · rfl
    · split
      · exact ih _ (by omega)
      · rw [List.getD_eq_getElem?_getD, firstsTo_at l j _ (by omega)];have := fst1_range l (f - 1).toNat;exact ih _ (by simp only [Option.getD_some]; omega)
theorem fst1_pop (l : List Nd) (j : Nat) (x : Nd) (h : l[j]? = some x) : fst1 l j = if arity x.kind < 0 then -1 else popG l (arity x.kind).toNat j := by
  unfold fst1 firstOf;rw [List.getD_eq_getElem?_getD, h];simp only [Option.getD_some];split
  · rfl
  · exact popG_eq l _ _ _ (by omega)
theorem popG_neg (l : List Nd) (k : Nat) (f : Int) (h : f < 0) : popG l k f = f := by
  cases k with
  | zero => rfl
  | succ k => unfold popG; rw [if_pos h]
theorem scan_chase (l : List Nd) (j : Nat) : ∀ m : Int, 1 ≤ m → j < l.length → scanDown l (j + 1) m = if fst1 l j < 0 then -1 else if m = 1 then fst1 l j else scanDown l (fst1 l j).toNat (m - 1) := by
  induction j using Nat.strongRecOn with
  | ind j ih =>
    intro m hm hj;have hx : l[j]? = some l[j] := List.getElem?_eq_getElem hj;generalize l[j] = x at hx;have hp := fst1_pop l j x hx;rw [scan_step hx];rcases arity_cases x.kind with ha | ha | ha | ha <;> rw [ha] at hp <;> rw [ha]
    · rw [hp]; simp
    · have hp : fst1 l j = j := hp;rw [hp, if_neg (by omega), if_neg (show ¬ (j : Int) < 0 by omega)];by_cases h1 : m = 1
      · rw [if_pos (by omega), if_pos h1]
      · rw [if_neg (by omega), if_neg h1, Int.toNat_natCast, show m + (0 - 1) = m - 1 by omega]
    · have e1 : fst1 l j = if j = 0 then -1 else fst1 l (j - 1) := by
        rw [hp]
        show popG l 1 (j : Int) = _
        simp only [popG];rw [if_neg (show ¬ (j : Int) < 0 by omega)];by_cases h0 : j = 0
        · rw [if_pos (by omega), if_pos h0]
        · rw [if_neg (by omega), if_neg h0, show ((j : Int) - 1).toNat = j - 1 by omega]
      rw [if_neg (by omega), if_neg (by omega), show m + (1 - 1) = m by omega, e1]
      cases j with
      | zero => simp [scanDown]
      | succ j =>
        rw [if_neg (show ¬ j + 1 = 0 by omega), Nat.add_sub_cancel];exact ih j (by omega) m hm (by omega)
    · have e1 : fst1 l j = if j = 0 then -1 else if fst1 l (j - 1) < 0 then fst1 l (j - 1) else if fst1 l (j - 1) = 0 then -1 else fst1 l (fst1 l (j - 1) - 1).toNat := by
        rw [hp]
        show popG l 2 (j : Int) = _
        simp only [popG];rw [if_neg (show ¬ (j : Int) < 0 by omega)];by_cases h0 : j = 0
        · rw [if_pos (show (j : Int) = 0 by omega), if_pos h0, if_pos (by omega)]
        · rw [if_neg (show ¬ (j : Int) = 0 by omega), if_neg h0, show ((j : Int) - 1).toNat = j - 1 by omega]
      rw [if_neg (by omega), if_neg (by omega), show m + (2 - 1) = m + 1 by omega, e1]
      cases j with
      | zero => simp [scanDown]
      | succ j =>
        rw [if_neg (show ¬ j + 1 = 0 by omega), Nat.add_sub_cancel, ih j (by omega) (m + 1) (by omega) (by omega)];have hr := fst1_range l j;by_cases h1 : fst1 l j < 0
        · rw [if_pos h1, if_pos h1, if_pos h1]
        · rw [if_neg h1, if_neg h1, if_neg (by omega)];by_cases h2 : fst1 l j = 0
          · rw [if_pos h2, if_pos (by omega), h2];simp [scanDown]
          · rw [if_neg h2];obtain ⟨f, hf⟩ : ∃ f : Nat, fst1 l j = (f : Int) + 1 := ⟨(fst1 l j - 1).toNat, by omega⟩;rw [hf, show ((f : Int) + 1).toNat = f + 1 by omega, show ((f : Int) + 1 - 1).toNat = f by omega, show m + 1 - 1 = m by omega];exact ih f (by omega) m hm (by omega)
theorem first_eq (l : List Nd) (j : Nat) (h : j < l.length) : firstI l j = fst1 l j := by
  have hr := fst1_range l j;unfold firstI;rw [if_neg (by omega), Int.toNat_natCast, scan_chase l j 1 (by omega) h];split
  · omega
  · simp
def kidsOk (l : List Nd) : Nat → Int → Prop
  | 0, _ => True
  | k + 1, at_ => 0 ≤ at_ ∧ at_ < l.length ∧ 0 ≤ fst1 l at_.toNat ∧ kidsOk l k (fst1 l at_.toNat - 1)
theorem pop_ok (l : List Nd) (k : Nat) : ∀ f : Int, f ≤ l.length → 0 ≤ popG l k f → kidsOk l k (f - 1) := by
  induction k with
  | zero => intro f _ _; trivial
  | succ k ih =>
    intro f hf hp;unfold popG at hp;by_cases h0 : f < 0
    · rw [if_pos h0] at hp; omega
    · rw [if_neg h0] at hp;by_cases h1 : f = 0
      · rw [if_pos h1, popG_neg _ _ _ (by omega)] at hp; omega
      · rw [if_neg h1] at hp;have hr := fst1_range l (f - 1).toNat
        have h2 : 0 ≤ fst1 l (f - 1).toNat := by
          by_cases h3 : fst1 l (f - 1).toNat < 0
          · rw [popG_neg _ _ _ h3] at hp; exact hp
          · omega
        exact ⟨by omega, by omega, h2, ih _ (by omega) hp⟩
theorem kids_ok (l : List Nd) (i : Nat) (x : Nd) (h : l[i]? = some x) (hf : 0 ≤ fst1 l i) : 0 ≤ arity x.kind ∧ kidsOk l (arity x.kind).toNat ((i : Int) - 1) := by
  rw [fst1_pop l i x h] at hf;have hi := (List.getElem?_eq_some_iff.1 h).1;split at hf
  · omega
  · exact ⟨by omega, pop_ok l _ _ (by omega) hf⟩
theorem kidsDown_ok (l : List Nd) (k : Nat) : ∀ at_ : Int, kidsOk l k at_ → ∀ y ∈ kidsDown l k at_, 0 ≤ y ∧ y ≤ at_ ∧ y < l.length ∧ 0 ≤ fst1 l y.toNat := by
  induction k with
  | zero => intro at_ _ y hy; simp [kidsDown] at hy
  | succ k ih =>
    intro at_ h y hy;obtain ⟨h1, h2, h3, h4⟩ := h
    have hfe : firstI l at_ = fst1 l at_.toNat := by
      obtain ⟨a, rfl⟩ := Int.eq_ofNat_of_zero_le h1;exact first_eq l a (by omega)
    simp only [kidsDown, List.mem_cons] at hy;rcases hy with rfl | hy
    · exact ⟨h1, by omega, h2, h3⟩
    · rw [hfe] at hy;have := ih _ h4 y hy;have hr := fst1_range l at_.toNat;exact ⟨this.1, by omega, this.2.2⟩
theorem kidsP_eq (l : List Nd) (i : Nat) (x : Nd) (h : l[i]? = some x) (hf : 0 ≤ fst1 l i) : kidsP l i = (kidsDown l (arity x.kind).toNat ((i : Int) - 1)).reverse := by
  have hi := (List.getElem?_eq_some_iff.1 h).1;unfold kidsP;rw [first_eq l i hi, if_neg (by omega), Int.toNat_natCast, h]
theorem kidsP_ok (l : List Nd) (i : Nat) (hi : i < l.length) (hf : 0 ≤ fst1 l i) : ∀ y ∈ kidsP l i, 0 ≤ y ∧ y < i ∧ 0 ≤ fst1 l y.toNat := by
  have hx : l[i]? = some l[i] := List.getElem?_eq_getElem hi;rw [kidsP_eq l i _ hx hf];intro y hy;rw [List.mem_reverse] at hy;have := kidsDown_ok l _ _ (kids_ok l i _ hx hf).2 y hy;exact ⟨this.1, by omega, this.2.2.2⟩
def tiles (l : List Nd) : Nat → Nat → Prop
  | k, 0 => k = 0
  | k, m + 1 => 0 < k ∧ 0 ≤ fst1 l (k - 1) ∧ tiles l (fst1 l (k - 1)).toNat m
theorem pop_tiles (l : List Nd) (a : Nat) : ∀ k m : Nat, tiles l k m → (a ≤ m → ∃ s : Nat, popG l a k = s ∧ tiles l s (m - a)) ∧ (m < a → popG l a k < 0) := by
  induction a with
  | zero => intro k m h; exact ⟨fun _ => ⟨k, rfl, h⟩, fun h => by omega⟩
  | succ a ih =>
    intro k m h;unfold popG;rw [if_neg (show ¬ (k : Int) < 0 by omega)]
    cases m with
    | zero =>
      have : k = 0 := h;subst this;refine ⟨fun h => by omega, fun _ => ?_⟩;rw [if_pos (by omega), popG_neg _ _ _ (by omega)];omega
    | succ m =>
      obtain ⟨h1, h2, h3⟩ := h;rw [if_neg (by omega), show ((k : Int) - 1).toNat = k - 1 by omega];obtain ⟨s, hs⟩ := Int.eq_ofNat_of_zero_le h2;rw [hs] at h3 ⊢;rw [Int.toNat_natCast] at h3;have := ih s m h3;refine ⟨fun h => ?_, fun h => this.2 (by omega)⟩;obtain ⟨s', e, ht⟩ := this.1 (by omega);exact ⟨s', e, by rw [show m + 1 - (a + 1) = m - a by omega]; exact ht⟩
theorem tiles_zero {l : List Nd} {m : Nat} (h : tiles l 0 m) : m = 0 := by
  cases m with
  | zero => rfl
  | succ m => exact absurd h.1 (by omega)
theorem rightFrom_spec (l : List Nd) (d : Nat) : ∀ k m : Nat, l.length - k = d → k ≤ l.length → tiles l k m →
    (rightFrom (l.drop k) m = true ↔ (∀ j, k ≤ j → j < l.length → 0 ≤ fst1 l j ∧ fieldsB (l.getD j zNd) = true) ∧ 0 < l.length ∧ fst1 l (l.length - 1) = 0) := by
  induction d with
  | zero =>
    intro k m hd hk ht;(have hkl : k = l.length := by omega);rw [List.drop_eq_nil_of_le (by omega)];simp only [rightFrom, decide_eq_true_eq];rw [hkl] at ht;constructor
    · intro hm;(have hm : m = 1 := by omega);subst hm;obtain ⟨h1, h2, h3⟩ := ht;have h3 : (fst1 l (l.length - 1)).toNat = 0 := h3;exact ⟨fun j h4 h5 => by omega, h1, by omega⟩
    · rintro ⟨_, h1, h2⟩
      cases m with
      | zero =>
        have : l.length = 0 := ht;omega
      | succ m =>
        have := ht.2.2;rw [h2] at this;have := tiles_zero this;omega
  | succ d ih =>
    intro k m hd hk ht;(have hlt : k < l.length := by omega);have hx : l[k]? = some l[k] := List.getElem?_eq_getElem hlt;(have hg : l.getD k zNd = l[k] := by rw [List.getD_eq_getElem?_getD, hx]; rfl);generalize l[k] = x at hx hg;rw [right_step hx];have hp := fst1_pop l k x hx;(have hd1 : l.length - (k + 1) = d := by omega);have hk1 : k + 1 ≤ l.length := hlt;have ht' := pop_tiles l (arity x.kind).toNat k m ht;by_cases ha : arity x.kind < 0
    · rw [if_pos (.inl ha)];rw [if_pos ha] at hp;simp only [Bool.false_eq_true, false_iff];rintro ⟨h, _⟩;have := (h k (by omega) hlt).1;omega
    · rw [if_neg ha] at hp;by_cases hb : (m : Int) < arity x.kind
      · rw [if_pos (.inr (.inl hb))];simp only [Bool.false_eq_true, false_iff];rintro ⟨h, _⟩;have := (h k (by omega) hlt).1;have h9 := ht'.2 (by omega);clear ht';omega
      · by_cases hf : fieldsB x = false
        · rw [if_pos (.inr (.inr hf))];simp only [Bool.false_eq_true, false_iff];rintro ⟨h, _⟩;have := (h k (by omega) hlt).2;rw [hg, hf] at this;cases this
        · rw [if_neg (by rintro (h | h | h) <;> contradiction)];obtain ⟨s, hs, hts⟩ := ht'.1 (by omega);clear ht';(have hm : (m : Int) + (1 - arity x.kind) = ((m - (arity x.kind).toNat + 1 : Nat) : Int) := by omega)
          have hn : tiles l (k + 1) (m - (arity x.kind).toNat + 1) := by
            refine ⟨by omega, ?_, ?_⟩
            · rw [Nat.add_sub_cancel, hp, hs]; omega
            · rw [Nat.add_sub_cancel, hp, hs, Int.toNat_natCast]; exact hts
          rw [hm, ih (k + 1) _ hd1 hk1 hn];have h0 : 0 ≤ fst1 l k ∧ fieldsB (l.getD k zNd) = true := ⟨by rw [hp, hs]; omega, by rw [hg]; simpa using hf⟩;constructor
          · rintro ⟨h1, h2⟩;refine ⟨fun j h3 h4 => ?_, h2⟩;rcases Nat.eq_or_lt_of_le h3 with rfl | h5
            · exact h0
            · exact h1 j h5 h4
          · rintro ⟨h1, h2⟩;exact ⟨fun j h3 h4 => h1 j (by omega) h4, h2⟩
theorem rightB_iff (l : List Nd) : rightB l = true ↔ l.length ≤ 512 ∧ (∀ j, j < l.length → 0 ≤ fst1 l j ∧ fieldsB (l.getD j zNd) = true) ∧ 0 < l.length ∧ fst1 l (l.length - 1) = 0 := by
  unfold rightB;have := rightFrom_spec l l.length 0 0 (by omega) (by omega) rfl;rw [List.drop_zero] at this;split
  · simp only [Bool.false_eq_true, false_iff];rintro ⟨h, _⟩;omega
  · rw [show (0 : Int) = ((0 : Nat) : Int) from rfl, this];constructor
    · rintro ⟨h1, h2⟩; exact ⟨by omega, fun j hj => h1 j (by omega) hj, h2⟩
    · rintro ⟨_, h1, h2⟩; exact ⟨fun j _ hj => h1 j hj, h2⟩
theorem right_no (l : List Nd) (k : Nat) (x : Nd) (h : l[k]? = some x) (hb : fst1 l k < 0 ∨ fieldsB x = false) : rightB l = false := by
  have hk := (List.getElem?_eq_some_iff.1 h).1;(have hg : l.getD k zNd = x := by rw [List.getD_eq_getElem?_getD, h]; rfl)
  cases hr : rightB l with
  | false => rfl
  | true =>
    obtain ⟨_, h1, _⟩ := (rightB_iff l).1 hr;have := h1 k hk;rw [hg] at this;rcases hb with hb | hb
    · omega
    · rw [hb] at this; cases this.2
theorem right_yes (l : List Nd) (h0 : 0 < l.length) (h5 : l.length ≤ 512) (h : ∀ j, j < l.length → 0 ≤ fst1 l j ∧ fieldsB (l.getD j zNd) = true) : rightB l = decide (fst1 l (l.length - 1) = 0) := by
  rw [Bool.eq_iff_iff, rightB_iff, decide_eq_true_eq];exact ⟨fun h1 => h1.2.2.2, fun h1 => ⟨h5, h, h0, h1⟩⟩
theorem right_size (l : List Nd) (h : l.length = 0 ∨ 512 < l.length) : rightB l = false := by
  cases hr : rightB l with
  | false => rfl
  | true =>
    obtain ⟨h1, _, h2, _⟩ := (rightB_iff l).1 hr;omega
end Go.Proofs.YtfjemaeidmikmaaDoor
