/- Several short texts of this proof, one behind the other. -/
import Derived.Deep.RegionHeld3
import Derived.KernelRfl
section

namespace Go.Proofs.Bs
def W : Nat := 18446744073709551616
theorem W_eq : W = 2 ^ 64 := by decide
structure S where
  a : Nat
  b : Nat
  c : Nat
  d : Nat
def S.zero : S := ⟨0, 0, 0, 0⟩
def S.word (s : S) : Nat → Nat
  | 0 => s.a
  | 1 => s.b
  | 2 => s.c
  | _ => s.d
def S.setWord (s : S) (i x : Nat) : S :=
  match i with
  | 0 => ⟨x, s.b, s.c, s.d⟩
  | 1 => ⟨s.a, x, s.c, s.d⟩
  | 2 => ⟨s.a, s.b, x, s.d⟩
  | _ => ⟨s.a, s.b, s.c, x⟩
structure S.wf (s : S) : Prop where
  a : s.a < W
  b : s.b < W
  c : s.c < W
  d : s.d < W
def has (s : S) (i : Nat) : Bool := (s.word (i / 64)).testBit (i % 64)
def put (s : S) (i : Nat) : S := s.setWord (i / 64) (s.word (i / 64) ||| 2 ^ (i % 64))
theorem S.wf.wf_word {s : S} (h : s.wf) (i : Nat) : s.word i < W := by
  obtain ⟨h1, h2, h3, h4⟩ := h
  unfold S.word
  split <;> assumption
theorem has_zero (i : Nat) : has S.zero i = false := by
  unfold has S.word S.zero
  split <;> simp
theorem has_word (s : S) (k i : Nat) (hi : i < 64) : has s (64 * k + i) = (s.word k).testBit i := by
  unfold has
  rw [show (64 * k + i) / 64 = k by omega, show (64 * k + i) % 64 = i by omega]
def puts (s : S) (l : List Nat) : S := l.foldl put s
def upto (p : Nat → Bool) : Nat → S
  | 0 => S.zero
  | n + 1 => if p n then put (upto p n) n else upto p n
def zip (f : Nat → Nat → Nat) (s t : S) : S := ⟨f s.a t.a, f s.b t.b, f s.c t.c, f s.d t.d⟩
def and (s t : S) : S := zip (· &&& ·) s t
def not (s : S) : S := zip (fun x _ => 18446744073709551615 - x) s s
theorem testBit_compl {y : Nat} (hy : y < W) (i : Nat) (hi : i < 64) : (18446744073709551615 - y).testBit i = !y.testBit i := by
  rw [W_eq] at hy
  have h := Nat.testBit_two_pow_sub_succ hy i
  rw [show 2 ^ 64 - (y + 1) = 18446744073709551615 - y by omega] at h
  rw [h]
  simp [hi]
def bits (w : Nat) : List Nat := (List.range 64).filter fun i => w.testBit i
def bytes (s : S) : List Nat := (List.range 256).filter fun i => has s i
theorem bits_zero : bits 0 = [] := by simp [bits]
theorem low_bits (k m j : Nat) : (2 ^ k * (2 * m + 1)).testBit j = (decide (k ≤ j) && (2 * m + 1).testBit (j - k)) := by
  rw [Nat.testBit_two_pow_mul]
theorem low_clear (k m : Nat) : 2 ^ k * (2 * m + 1) &&& (2 ^ k * (2 * m + 1) - 1) = 2 ^ (k + 1) * m := by
  apply Nat.eq_of_testBit_eq
  intro j
  have hp : 0 < 2 ^ k := Nat.two_pow_pos k
  have e : 2 ^ k * (2 * m + 1) - 1 = 2 ^ k * (2 * m) + (2 ^ k - 1) := by
    rw [Nat.mul_add, Nat.mul_one]; omega
  rw [Nat.testBit_and, low_bits, e, Nat.testBit_two_pow_mul_add _ (by omega), Nat.testBit_two_pow_mul]
  by_cases h : j < k
  · simp [show ¬ k ≤ j by omega, show ¬ k + 1 ≤ j by omega]
  · rw [if_neg h]
    by_cases h2 : j = k
    · subst h2
      simp; omega
    · obtain ⟨d, rfl⟩ : ∃ d, j = k + 1 + d := ⟨j - (k + 1), by omega⟩
      rw [show k + 1 + d - k = d + 1 by omega, Nat.testBit_succ, Nat.testBit_succ, show (2 * m + 1) / 2 = m by omega, show 2 * m / 2 = m by omega]
      simp [show k ≤ k + 1 + d by omega]
theorem bits_step (w k m : Nat) (hw : w = 2 ^ k * (2 * m + 1)) (hk : k < 64) : bits w = k :: bits (w &&& (w - 1)) := by
  have hb : ∀ j, w.testBit j = (decide (k ≤ j) && (2 * m + 1).testBit (j - k)) := fun j => by rw [hw, low_bits]
  have hc : ∀ j, (w &&& (w - 1)).testBit j = (decide (k + 1 ≤ j) && m.testBit (j - (k + 1))) := fun j => by rw [hw, low_clear, Nat.testBit_two_pow_mul]
  obtain ⟨n, hn⟩ : ∃ n, 64 = k + 1 + n := ⟨64 - (k + 1), by omega⟩
  unfold bits
  rw [hn, List.range_add, List.filter_append, List.filter_append]
  have h1 : (List.range (k + 1)).filter (fun i => w.testBit i) = [k] := by
    rw [List.range_succ, List.filter_append]
    have : (List.range k).filter (fun i => w.testBit i) = [] := by
      rw [List.filter_eq_nil_iff]
      intro i hi
      have := List.mem_range.1 hi
      rw [hb]
      simp [show ¬ k ≤ i by omega]
    rw [this]
    have hkk : w.testBit k = true := by rw [hb]; simp
    simp [hkk]
  have h2 : (List.range (k + 1)).filter (fun i => (w &&& (w - 1)).testBit i) = [] := by
    rw [List.filter_eq_nil_iff]
    intro i hi
    have := List.mem_range.1 hi
    rw [hc]
    simp [show ¬ k + 1 ≤ i by omega]
  rw [h1, h2, List.nil_append]
  show k :: _ = k :: _
  congr 1
  apply List.filter_congr
  intro i hi
  obtain ⟨d, _, rfl⟩ := List.mem_map.1 hi
  rw [hb, hc, show k + 1 + d - k = d + 1 by omega, Nat.testBit_succ, show (2 * m + 1) / 2 = m by omega, show k + 1 + d - (k + 1) = d by omega]
  simp [show k ≤ k + 1 + d by omega, show k + 1 ≤ k + 1 + d by omega]
theorem bytes_lt {s : S} {i : Nat} (h : i ∈ bytes s) : i < 256 := List.mem_range.1 (List.mem_filter.1 h).1
theorem mem_bytes {s : S} {i : Nat} : i ∈ bytes s ↔ i < 256 ∧ has s i = true := by
  unfold bytes
  rw [List.mem_filter, List.mem_range]
def upBytes (s : S) : Nat → List Nat
  | 0 => []
  | k + 1 => upBytes s k ++ (bits (s.word k)).map (64 * k + ·)
theorem upBytes_eq (s : S) (k : Nat) : upBytes s k = (List.range (64 * k)).filter fun i => has s i := by
  induction k with
  | zero => rfl
  | succ k ih =>
    unfold upBytes
    rw [ih, show 64 * (k + 1) = 64 * k + 64 by omega, List.range_add, List.filter_append]
    congr 1
    unfold bits
    rw [List.filter_map]
    congr 1
    apply List.filter_congr
    intro i hi
    show _ = has s (64 * k + i)
    rw [has_word s k i (List.mem_range.1 hi)]
theorem upBytes_four (s : S) : upBytes s 4 = bytes s := upBytes_eq s 4
end Go.Proofs.Bs
end
section

namespace Go.Proofs.YtfjemaeidmikmaaDoorQ
def EV {α : Type} (g : Nat → Option α) (r : α) : Prop := ∃ k0, ∀ k, k0 ≤ k → g k = some r
namespace EV
variable {α β : Type}
theorem const {r : α} : EV (fun _ => some r) r := ⟨0, fun _ _ => rfl⟩
theorem succ {g : Nat → Option α} {r : α} (h : EV (fun k => g (k + 1)) r) : EV g r := by
  obtain ⟨k0, h⟩ := h
  refine ⟨k0 + 1, fun k hk => ?_⟩
  have := h (k - 1) (by omega)
  simp only at this
  rwa [show k - 1 + 1 = k by omega] at this
theorem bind {g : Nat → Option α} {h : Nat → α → Option β} {a : α} {r : β} (hg : EV g a) (hh : EV (fun k => h k a) r) : EV (fun k => (g k).bind (h k)) r := by
  obtain ⟨k0, hg⟩ := hg
  obtain ⟨k1, hh⟩ := hh
  exact ⟨max k0 k1, fun k hk => by show (g k).bind (h k) = _; rw [hg k (by omega)]; exact hh k (by omega)⟩
theorem congr {g g' : Nat → Option α} {r : α} (h : ∀ k, g k = g' k) (hg : EV g' r) : EV g r := by
  obtain ⟨k0, hg⟩ := hg
  exact ⟨k0, fun k hk => (h k).trans (hg k hk)⟩
theorem step {g g' : Nat → Option α} {r : α} (h : EV g' r) (e : ∀ k, g (k + 1) = g' k) : EV g r := succ (congr e h)
theorem stop {g : Nat → Option α} {r : α} (e : ∀ k, g (k + 1) = some r) : EV g r := succ (congr e const)
theorem now {g : Nat → Option α} {r : α} (e : ∀ k, g k = some r) : EV g r := congr e const
theorem ex {g : Nat → Option α} {r : α} (h : EV g r) : ∃ k, g k = some r := by
  obtain ⟨k0, h⟩ := h
  exact ⟨k0, h k0 (Nat.le_refl _)⟩
theorem cast {g : Nat → Option α} {r r' : α} (h : EV g r) (e : r = r') : EV g r' := e ▸ h
end EV
end Go.Proofs.YtfjemaeidmikmaaDoorQ
end
section

namespace Go.Proofs.Nf
inductive Reach (n : Nat) (E : Nat → Nat → Prop) (S : Nat → Prop) : Nat → Prop
  | base {i : Nat} (h : i < n) (hs : S i) : Reach n E S i
  | step {i j : Nat} (h : Reach n E S i) (e : E i j) (hj : j < n) : Reach n E S j
theorem Reach.lt {n : Nat} {E : Nat → Nat → Prop} {S : Nat → Prop} {i : Nat} (h : Reach n E S i) : i < n := by
  cases h <;> assumption
theorem Reach.in_closed {n : Nat} {E : Nat → Nat → Prop} {S P : Nat → Prop} (h0 : ∀ i, i < n → S i → P i) (hc : ∀ i j, i < n → P i → E i j → j < n → P j) {i : Nat} (h : Reach n E S i) : P i := by
  induction h with
  | base h hs => exact h0 _ h hs
  | step hi e hj ih => exact hc _ _ hi.lt ih e hj
def count (p : Nat → Bool) : Nat → Nat
  | 0 => 0
  | n + 1 => count p n + (if p n then 1 else 0)
theorem count_le (p : Nat → Bool) (n : Nat) : count p n ≤ n := by
  induction n with
  | zero => exact Nat.le_refl _
  | succ n ih => unfold count; split <;> omega
theorem count_mono {p q : Nat → Bool} (n : Nat) (h : ∀ i, i < n → p i = true → q i = true) : count p n ≤ count q n := by
  induction n with
  | zero => exact Nat.le_refl _
  | succ n ih =>
    have := ih fun i hi => h i (by omega)
    unfold count
    by_cases hp : p n = true
    · rw [if_pos hp, if_pos (h n (by omega) hp)]; omega
    · rw [if_neg hp]; split <;> omega
theorem count_lt {p q : Nat → Bool} (n : Nat) (h : ∀ i, i < n → p i = true → q i = true) {k : Nat} (hk : k < n) (h1 : p k = false) (h2 : q k = true) : count p n < count q n := by
  induction n with
  | zero => omega
  | succ n ih =>
    unfold count
    by_cases e : k = n
    · subst e
      have := count_mono (p := p) (q := q) k fun i hi => h i (by omega)
      rw [h1, h2]; simp; omega
    · have := ih (fun i hi => h i (by omega)) (by omega)
      by_cases hp : p n = true
      · rw [if_pos hp, if_pos (h n (by omega) hp)]; omega
      · rw [if_neg hp]; split <;> omega
def mark (E : Nat → Nat → Bool) (i : Nat) (p : Nat → Bool) : Nat → Bool := fun j => p j || (p i && E i j)
def turn (E : Nat → Nat → Bool) : Nat → (Nat → Bool) → Nat → Bool
  | 0, p => p
  | k + 1, p => mark E k (turn E k p)
def turns (n : Nat) (E : Nat → Nat → Bool) : Nat → (Nat → Bool) → Nat → Bool
  | 0, p => p
  | k + 1, p => turn E n (turns n E k p)
theorem mark_le (E : Nat → Nat → Bool) (i : Nat) (p : Nat → Bool) (j : Nat) (h : p j = true) : mark E i p j = true := by unfold mark; rw [h]; rfl
theorem turn_le (E : Nat → Nat → Bool) (k : Nat) (p : Nat → Bool) (j : Nat) (h : p j = true) : turn E k p j = true := by
  induction k with
  | zero => exact h
  | succ k ih => exact mark_le E k _ j ih
theorem turns_le (n : Nat) (E : Nat → Nat → Bool) (k : Nat) (p : Nat → Bool) (j : Nat) (h : p j = true) : turns n E k p j = true := by
  induction k with
  | zero => exact h
  | succ k ih => exact turn_le E n _ j ih
theorem turn_step (E : Nat → Nat → Bool) (k : Nat) (p : Nat → Bool) (i j : Nat) (hi : i < k) (h : p i = true) (e : E i j = true) : turn E k p j = true := by
  induction k with
  | zero => omega
  | succ k ih =>
    unfold turn
    by_cases hik : i = k
    · subst hik
      unfold mark
      rw [turn_le E i p i h, e]; simp
    · exact mark_le E k _ j (ih (by omega))
theorem turn_reach {n : Nat} {E : Nat → Nat → Bool} {S : Nat → Prop} (k : Nat) (hk : k ≤ n) (p : Nat → Bool) (hE : ∀ i j, i < n → E i j = true → j < n) (h : ∀ i, p i = true → Reach n (fun i j => E i j = true) S i) : ∀ i, turn E k p i = true → Reach n (fun i j => E i j = true) S i := by
  induction k with
  | zero => exact h
  | succ k ih =>
    intro j hj
    unfold turn mark at hj
    rw [Bool.or_eq_true, Bool.and_eq_true] at hj
    rcases hj with hj | ⟨h1, h2⟩
    · exact ih (by omega) j hj
    · exact (ih (by omega) k h1).step h2 (hE k j (by omega) h2)
theorem turns_reach (n : Nat) (E : Nat → Nat → Bool) (p : Nat → Bool) (hE : ∀ i j, i < n → E i j = true → j < n) (hp : ∀ i, p i = true → i < n) (j : Nat) : turns n E n p j = true ↔ Reach n (fun i j => E i j = true) (fun i => p i = true) j := by
  have hr : ∀ k j, turns n E k p j = true → Reach n (fun i j => E i j = true) (fun i => p i = true) j := by
    intro k
    induction k with
    | zero => intro j h; exact .base (hp j h) h
    | succ k ih => intro j h; exact turn_reach n (Nat.le_refl _) _ hE (ih) j h
  refine ⟨hr n j, fun h => ?_⟩
  have hgrow : ∀ k, (∀ i j, i < n → turns n E k p i = true → E i j = true → turns n E k p j = true) ∨ (∃ i, i < n ∧ p i = true) ∧ k + 1 ≤ count (turns n E k p) n := by
    intro k
    induction k with
    | zero =>
      by_cases h0 : ∃ i, i < n ∧ p i = true
      · right
        refine ⟨h0, ?_⟩
        obtain ⟨i, hi, h1⟩ := h0
        have := count_lt (p := fun _ => false) (q := p) n (fun _ _ h => by cases h) hi rfl h1
        show 1 ≤ count p n
        omega
      · left
        intro i j hi h1 _
        exact absurd ⟨i, hi, h1⟩ h0
    | succ k ih =>
      rcases ih with hc | ⟨h0, hk⟩
      · left
        have hsame : ∀ q, q ≤ n → ∀ j, turn E q (turns n E k p) j = true → turns n E k p j = true := by
          intro q hq
          induction q with
          | zero => intro j h; exact h
          | succ q ihq =>
            intro j h
            unfold turn mark at h
            rw [Bool.or_eq_true, Bool.and_eq_true] at h
            rcases h with h | ⟨h1, h2⟩
            · exact ihq (by omega) j h
            · exact hc q j (by omega) (ihq (by omega) q h1) h2
        intro i j hi h1 h2
        exact turn_le E n _ j (hc i j hi (hsame n (Nat.le_refl _) i h1) h2)
      · by_cases hc : ∀ i j, i < n → turns n E k p i = true → E i j = true → turns n E k p j = true
        · left
          have hsame : ∀ q, q ≤ n → ∀ j, turn E q (turns n E k p) j = true → turns n E k p j = true := by
            intro q hq
            induction q with
            | zero => intro j h; exact h
            | succ q ihq =>
              intro j h
              unfold turn mark at h
              rw [Bool.or_eq_true, Bool.and_eq_true] at h
              rcases h with h | ⟨h1, h2⟩
              · exact ihq (by omega) j h
              · exact hc q j (by omega) (ihq (by omega) q h1) h2
          intro i j hi h1 h2
          exact turn_le E n _ j (hc i j hi (hsame n (Nat.le_refl _) i h1) h2)
        · right
          refine ⟨h0, ?_⟩
          have : ∃ i j, i < n ∧ turns n E k p i = true ∧ E i j = true ∧ turns n E k p j = false := by
            apply Classical.byContradiction
            intro hno
            apply hc
            intro i j hi h1 h2
            rcases Bool.eq_false_or_eq_true (turns n E k p j) with e | e
            · exact e
            · exact absurd ⟨i, j, hi, h1, h2, e⟩ hno
          obtain ⟨i, j, hi, h1, h2, h3⟩ := this
          have := count_lt (p := turns n E k p) (q := turns n E (k + 1) p) n (fun q _ hq => turn_le E n _ q hq) (hE i j hi h2) h3 (turn_step E n _ i j hi h1 h2)
          omega
  have hclosed : ∀ i j, i < n → turns n E n p i = true → E i j = true → turns n E n p j = true := by
    rcases hgrow n with hc | ⟨_, hk⟩
    · exact hc
    · have := count_le (turns n E n p) n
      omega
  exact Reach.in_closed (P := fun i => turns n E n p i = true) (fun i _ h => turns_le n E n p i h) (fun i j hi h e _ => hclosed i j hi h e) h
end Go.Proofs.Nf
end
section
namespace Go.Proofs.Sk
open Go
def skipB (md : Region.Mode) (ops : Array Oper) : List (Nat × Nat) → Array Bool → Act → Bool
  | [], _, _ => true
  | (i, d) :: is, listed, a =>
    match ops[i]? with
    | some o => (match o.dst with | some d' => decide (d' = d) | none => false) && (Region.ready md ops listed).contains i && Region.free md ops listed i && !Region.wanted o (yielded ops a.tmps) && skipB md ops is (listed.setIfInBounds i true) (a.put (some d) undef)
    | none => false
def skipL : List (Nat × Nat) → Array Bool → Array Bool
  | [], listed => listed
  | (i, _) :: is, listed => skipL is (listed.setIfInBounds i true)
def skipA : List (Nat × Nat) → Act → Act
  | [], a => a
  | (_, d) :: is, a => skipA is (a.put (some d) undef)
theorem skips {P : Program} {ops : Array Oper} {Q : Exit → Act → World → Prop} {md : Region.Mode} {S : World → Prop} (hs : Region.noSelect ops = true) (hQ : ∀ (c : _) (d : Option Tmp) (v : Value) (a : Act) (w : World), Q (.panic c) (a.put d v) w → Q (.panic c) a w) :
    ∀ (is : List (Nat × Nat)) (fuel : Nat) (listed : Array Bool) (a : Act) (w : World), skipB md ops is listed a = true → S w → wpAnyH P md ops Q S fuel (skipL is listed) (skipA is a) w → wpAnyH P md ops Q S (fuel + is.length) listed a w
  | [], _, _, _, _, _, _, h => h
  | (i, d) :: is, fuel, listed, a, w, hB, hS, h => by
    unfold skipB at hB
    unfold skipL skipA at h
    cases ho : ops[i]? with
    | none => rw [ho] at hB; cases hB
    | some o =>
      rw [ho] at hB
      simp only [Bool.and_eq_true, Bool.not_eq_true'] at hB
      obtain ⟨⟨⟨⟨h0, h1⟩, h2⟩, h3⟩, h4⟩ := hB
      have hd : o.dst = some d := by
        cases hd : o.dst with
        | none => rw [hd] at h0; cases h0
        | some d' => rw [hd] at h0; rw [of_decide_eq_true h0]
      refine wpAnyH_take ho hs h2 h1 (fun c a w q => hQ c o.dst undef a w q) (Or.inr ⟨h3, rfl⟩) hS ?_
      rw [hd]
      exact skips hs hQ is fuel _ _ w h4 hS h
end Go.Proofs.Sk
end
