/- Several short texts of this proof, one behind the other. -/
import Derived.Deep.RegionHeld3
import Derived.KernelRfl
section

namespace Go.Proofs.Al
theorem snoc_ind {β : Type} {P : List β → Prop} (h0 : P []) (h1 : ∀ l p, P l → P (l ++ [p])) (l : List β) : P l := by
  have h : ∀ m : List β, P m.reverse := by
    intro m
    induction m with
    | nil => exact h0
    | cons a m ih => rw [List.reverse_cons]; exact h1 _ _ ih
  have := h l.reverse;rwa [List.reverse_reverse] at this
variable {α : Type} [DecidableEq α]
def pos (l : List α) (p : α) : Nat := l.idxOf p
theorem pos_old (s t : List α) {x : α} (h : x ∈ s) : pos (s ++ t) x = pos s x := by unfold pos; rw [List.idxOf_append, if_pos h]
theorem pos_new (s : List α) {x : α} (h : x ∉ s) : pos (s ++ [x]) x = s.length := by unfold pos; rw [List.idxOf_append, if_neg h]; simp
theorem pos_end {s : List α} {x : α} (h : x ∉ s) : pos s x = s.length := List.idxOf_eq_length h
def step (s : List α × List Nat) (p : α) : List α × List Nat := (if p ∈ s.1 then s.1 else s.1 ++ [p], s.2 ++ [s.1.idxOf p])
def run (l : List α) : List α × List Nat := l.foldl step ([], [])
theorem run_snoc (l : List α) (p : α) : run (l ++ [p]) = step (run l) p := by
  unfold run; rw [List.foldl_append]; rfl
theorem run_len (l : List α) : (run l).2.length = l.length := by
  refine snoc_ind (P := fun l : List α => (run l).2.length = l.length) rfl (fun l p ih => ?_) l;rw [run_snoc]; simp [step, ih]
theorem run_mem (l : List α) : ∀ x : α, x ∈ (run l).1 ↔ x ∈ l := by
  refine snoc_ind (P := fun l => ∀ x : α, x ∈ (run l).1 ↔ x ∈ l) (fun x => Iff.rfl) (fun l p ih x => ?_) l;rw [run_snoc];simp only [step];by_cases h : p ∈ (run l).1
  · rw [if_pos h, ih];refine ⟨List.mem_append_left _, fun k => ?_⟩;rcases List.mem_append.1 k with k | k
    · exact k
    · rw [List.mem_singleton.1 k]; exact (ih p).1 h
  · rw [if_neg h];simp [ih]
theorem run_few (l : List α) : (run l).1.length ≤ l.length := by
  refine snoc_ind (P := fun l => (run l).1.length ≤ l.length) (Nat.le_refl _) (fun l p ih => ?_) l;rw [run_snoc];simp only [step];split
  · simp; omega
  · simp; omega
theorem run_at (l : List α) : ∀ x ∈ l, (run l).2.getD (l.idxOf x) 0 = (run l).1.idxOf x := by
  refine snoc_ind (P := fun l => ∀ x ∈ l, (run l).2.getD (l.idxOf x) 0 = (run l).1.idxOf x) (fun x h => by cases h) (fun l p ih x hx => ?_) l;rw [run_snoc, List.idxOf_append];simp only [step];by_cases hl : x ∈ l
  · rw [if_pos hl, List.getD_eq_getElem?_getD, List.getElem?_append_left (by rw [run_len]; exact List.idxOf_lt_length_of_mem hl), ← List.getD_eq_getElem?_getD, ih x hl];split
    · rfl
    · rw [List.idxOf_append, if_pos ((run_mem l x).2 hl)]
  · have hp : x = p := by
      rcases List.mem_append.1 hx with k | k
      · exact absurd k hl
      · exact List.mem_singleton.1 k
    subst hp;rw [if_neg hl];(have hn : x ∉ (run l).1 := fun k => hl ((run_mem l x).1 k));rw [if_neg hn, List.idxOf_append, if_neg hn, List.idxOf_eq_length hn];simp [run_len]
def firsts (l : List α) : List Nat := l.map (fun x => l.idxOf x)
theorem firsts_snoc (l : List α) (p : α) : firsts (l ++ [p]) = firsts l ++ [if p ∈ l then l.idxOf p else l.length] := by
  unfold firsts;rw [List.map_append];congr 1
  · refine List.map_congr_left (fun x hx => ?_);rw [List.idxOf_append, if_pos hx]
  · simp only [List.map_cons, List.map_nil];rw [List.idxOf_append];split
    · rfl
    · simp
def numStep (s : List Nat × Nat) (f : Nat) : List Nat × Nat := if f = s.1.length then (s.1 ++ [s.2], s.2 + 1) else (s.1 ++ [s.1.getD f 0], s.2)
def number (F : List Nat) : List Nat × Nat := F.foldl numStep ([], 0)
theorem number_snoc (F : List Nat) (f : Nat) : number (F ++ [f]) = numStep (number F) f := by
  unfold number; rw [List.foldl_append]; rfl
theorem number_firsts (l : List α) : number (firsts l) = ((run l).2, (run l).1.length) := by
  refine snoc_ind (P := fun l => number (firsts l) = ((run l).2, (run l).1.length)) rfl (fun l p ih => ?_) l;rw [firsts_snoc, number_snoc, run_snoc, ih];simp only [numStep, step, run_len];by_cases h : p ∈ l
  · have h' := (run_mem l p).2 h;rw [if_pos h, if_neg (by have := List.idxOf_lt_length_of_mem h; omega), if_pos h', run_at l p h]
  · (have h' : p ∉ (run l).1 := fun k => h ((run_mem l p).1 k));rw [if_neg h, if_pos rfl, if_neg h', List.idxOf_eq_length h'];simp
def firstAt (l : List Int) (c : Nat) : Int := if (c : Int) ∈ l then (l.idxOf (c : Int) : Nat) else -1
def firstsRow (m : Nat) (l : List Int) : List Int := (List.range m).map (firstAt l)
theorem firstsRow_len (m : Nat) (l : List Int) : (firstsRow m l).length = m := by simp [firstsRow]
theorem firstsRow_get (m : Nat) (l : List Int) (c : Nat) (h : c < m) : (firstsRow m l).getD c 0 = firstAt l c := by
  simp [firstsRow, h]
theorem firstAt_neg (l : List Int) (c : Nat) : firstAt l c < 0 ↔ (c : Int) ∉ l := by
  unfold firstAt; split
  · constructor
    · intro h; omega
    · intro h; contradiction
  · constructor
    · intro _; assumption
    · intro _; omega
theorem firstAt_snoc (l : List Int) (x : Int) (c : Nat) : firstAt (l ++ [x]) c = if (c : Int) ∈ l then firstAt l c else if (c : Int) = x then (l.length : Int) else -1 := by
  unfold firstAt;rw [List.idxOf_append];by_cases h : (c : Int) ∈ l
  · simp [h]
  · by_cases hx : (c : Int) = x
    · subst hx; simp [h]
    · simp [h, hx]
theorem firstsRow_set (m : Nat) (l : List Int) (c : Nat) (hn : (c : Int) ∉ l) : firstsRow m (l ++ [(c : Int)]) = (firstsRow m l).set c (l.length : Int) := by
  refine List.ext_getElem (by simp [firstsRow]) (fun i h1 h2 => ?_);simp only [firstsRow, List.getElem_map, List.getElem_range, List.getElem_set];rw [firstAt_snoc];by_cases e : c = i
  · subst e; simp [hn]
  · rw [if_neg e];(have e' : ¬ ((i : Int) = (c : Int)) := by omega);rw [if_neg e'];by_cases k : (i : Int) ∈ l
    · rw [if_pos k]
    · rw [if_neg k]; unfold firstAt; rw [if_neg k]
theorem firstsRow_same (m : Nat) (l : List Int) (x : Int) (h : x < 0 ∨ (m : Int) ≤ x ∨ x ∈ l) : firstsRow m (l ++ [x]) = firstsRow m l := by
  refine List.ext_getElem (by simp [firstsRow]) (fun i h1 h2 => ?_);simp only [firstsRow, List.getElem_map, List.getElem_range];rw [firstAt_snoc];(have hi : i < m := by simpa [firstsRow] using h2);by_cases k : (i : Int) ∈ l
  · rw [if_pos k]
  · rw [if_neg k]
    have e' : ¬ ((i : Int) = x) := by
      rintro rfl;rcases h with h | h | h
      · omega
      · omega
      · exact k h
    rw [if_neg e']; unfold firstAt; rw [if_neg k]
theorem firstsRow_nil (m : Nat) : firstsRow m [] = List.replicate m (-1) := by
  refine List.ext_getElem (by simp [firstsRow]) (fun i h1 h2 => ?_);simp [firstsRow, firstAt]
theorem take_snoc {β : Type} {l : List β} {q : Nat} {x : β} (h : l[q]? = some x) : l.take (q + 1) = l.take q ++ [x] := by
  rw [List.take_add_one, h]; rfl
theorem idxOf_le {β : Type} [DecidableEq β] {l : List β} {a : Nat} {x : β} (h : l[a]? = some x) : l.idxOf x ≤ a := by
  induction l generalizing a with
  | nil => simp at h
  | cons y l ih =>
    rw [List.idxOf_cons];by_cases e : y = x
    · subst e; simp
    · rw [beq_false_of_ne e]
      cases a with
      | zero => simp at h; exact absurd h e
      | succ a =>
        simp only [cond_false];have := ih (a := a) (by simpa using h);omega
theorem row_step (a : List Nat) (m x : Nat) : (a ++ List.replicate (m + 1) 0).set a.length x = a ++ [x] ++ List.replicate m 0 := by
  rw [List.set_append_right _ _ (Nat.le_refl _), Nat.sub_self, List.replicate_succ, List.set_cons_zero, List.append_assoc];rfl
theorem run_snd {β : Type} [DecidableEq β] (l : List β) (p : β) : (run (l ++ [p])).2 = (run l).2 ++ [pos (run l).1 p] := by rw [run_snoc]; rfl
end Go.Proofs.Al
end
section

namespace Go.Proofs.Bs
def W : Nat := 18446744073709551616
theorem W_eq : W = 2 ^ 64 := by decide
structure S where
  a : Nat
  b : Nat
  c : Nat
  d : Nat
def S.zero : S := ⟨0, 0, 0, 0⟩
def S.word (s : S) : Nat → Nat
  | 0 => s.a
  | 1 => s.b
  | 2 => s.c
  | _ => s.d
def S.setWord (s : S) (i x : Nat) : S :=
  match i with
  | 0 => ⟨x, s.b, s.c, s.d⟩
  | 1 => ⟨s.a, x, s.c, s.d⟩
  | 2 => ⟨s.a, s.b, x, s.d⟩
  | _ => ⟨s.a, s.b, s.c, x⟩
structure S.wf (s : S) : Prop where
  a : s.a < W
  b : s.b < W
  c : s.c < W
  d : s.d < W
def has (s : S) (i : Nat) : Bool := (s.word (i / 64)).testBit (i % 64)
def put (s : S) (i : Nat) : S := s.setWord (i / 64) (s.word (i / 64) ||| 2 ^ (i % 64))
theorem S.wf.wf_word {s : S} (h : s.wf) (i : Nat) : s.word i < W := by
  obtain ⟨h1, h2, h3, h4⟩ := h;unfold S.word;split <;> assumption
theorem has_zero (i : Nat) : has S.zero i = false := by
  unfold has S.word S.zero;split <;> simp
theorem has_word (s : S) (k i : Nat) (hi : i < 64) : has s (64 * k + i) = (s.word k).testBit i := by
  unfold has;rw [show (64 * k + i) / 64 = k by omega, show (64 * k + i) % 64 = i by omega]
def puts (s : S) (l : List Nat) : S := l.foldl put s
def upto (p : Nat → Bool) : Nat → S
  | 0 => S.zero
  | n + 1 => if p n then put (upto p n) n else upto p n
def zip (f : Nat → Nat → Nat) (s t : S) : S := ⟨f s.a t.a, f s.b t.b, f s.c t.c, f s.d t.d⟩
def and (s t : S) : S := zip (· &&& ·) s t
def not (s : S) : S := zip (fun x _ => 18446744073709551615 - x) s s
theorem testBit_compl {y : Nat} (hy : y < W) (i : Nat) (hi : i < 64) : (18446744073709551615 - y).testBit i = !y.testBit i := by
  rw [W_eq] at hy;have h := Nat.testBit_two_pow_sub_succ hy i;rw [show 2 ^ 64 - (y + 1) = 18446744073709551615 - y by omega] at h;rw [h];simp [hi]
def bits (w : Nat) : List Nat := (List.range 64).filter fun i => w.testBit i
def bytes (s : S) : List Nat := (List.range 256).filter fun i => has s i
theorem bits_zero : bits 0 = [] := by simp [bits]
theorem low_bits (k m j : Nat) : (2 ^ k * (2 * m + 1)).testBit j = (decide (k ≤ j) && (2 * m + 1).testBit (j - k)) := by
  rw [Nat.testBit_two_pow_mul]
theorem low_clear (k m : Nat) : 2 ^ k * (2 * m + 1) &&& (2 ^ k * (2 * m + 1) - 1) = 2 ^ (k + 1) * m := by
  apply Nat.eq_of_testBit_eq;intro j;have hp : 0 < 2 ^ k := Nat.two_pow_pos k
  have e : 2 ^ k * (2 * m + 1) - 1 = 2 ^ k * (2 * m) + (2 ^ k - 1) := by
    rw [Nat.mul_add, Nat.mul_one]; omega
  rw [Nat.testBit_and, low_bits, e, Nat.testBit_two_pow_mul_add _ (by omega), Nat.testBit_two_pow_mul];by_cases h : j < k
  · simp [show ¬ k ≤ j by omega, show ¬ k + 1 ≤ j by omega]
  · rw [if_neg h];by_cases h2 : j = k
    · subst h2;simp; omega
    · obtain ⟨d, rfl⟩ : ∃ d, j = k + 1 + d := ⟨j - (k + 1), by omega⟩;rw [show k + 1 + d - k = d + 1 by omega, Nat.testBit_succ, Nat.testBit_succ, show (2 * m + 1) / 2 = m by omega, show 2 * m / 2 = m by omega];simp [show k ≤ k + 1 + d by omega]
theorem bits_step (w k m : Nat) (hw : w = 2 ^ k * (2 * m + 1)) (hk : k < 64) : bits w = k :: bits (w &&& (w - 1)) := by
  (have hb : ∀ j, w.testBit j = (decide (k ≤ j) && (2 * m + 1).testBit (j - k)) := fun j => by rw [hw, low_bits]);(have hc : ∀ j, (w &&& (w - 1)).testBit j = (decide (k + 1 ≤ j) && m.testBit (j - (k + 1))) := fun j => by rw [hw, low_clear, Nat.testBit_two_pow_mul]);obtain ⟨n, hn⟩ : ∃ n, 64 = k + 1 + n := ⟨64 - (k + 1), by omega⟩;unfold bits;rw [hn, List.range_add, List.filter_append, List.filter_append]
  have h1 : (List.range (k + 1)).filter (fun i => w.testBit i) = [k] := by
    rw [List.range_succ, List.filter_append]
    have : (List.range k).filter (fun i => w.testBit i) = [] := by
      rw [List.filter_eq_nil_iff];intro i hi;have := List.mem_range.1 hi;rw [hb];simp [show ¬ k ≤ i by omega]
    rw [this];(have hkk : w.testBit k = true := by rw [hb]; simp);simp [hkk]
  have h2 : (List.range (k + 1)).filter (fun i => (w &&& (w - 1)).testBit i) = [] := by
    rw [List.filter_eq_nil_iff];intro i hi;have := List.mem_range.1 hi;rw [hc];simp [show ¬ k + 1 ≤ i by omega]
  rw [h1, h2, List.nil_append]
  show k :: _ = k :: _
  congr 1;apply List.filter_congr;intro i hi;obtain ⟨d, _, rfl⟩ := List.mem_map.1 hi;rw [hb, hc, show k + 1 + d - k = d + 1 by omega, Nat.testBit_succ, show (2 * m + 1) / 2 = m by omega, show k + 1 + d - (k + 1) = d by omega];simp [show k ≤ k + 1 + d by omega, show k + 1 ≤ k + 1 + d by omega]
theorem bytes_lt {s : S} {i : Nat} (h : i ∈ bytes s) : i < 256 := List.mem_range.1 (List.mem_filter.1 h).1
theorem mem_bytes {s : S} {i : Nat} : i ∈ bytes s ↔ i < 256 ∧ has s i = true := by
  unfold bytes;rw [List.mem_filter, List.mem_range]
def upBytes (s : S) : Nat → List Nat
  | 0 => []
  | k + 1 => upBytes s k ++ (bits (s.word k)).map (64 * k + ·)
theorem upBytes_eq (s : S) (k : Nat) : upBytes s k = (List.range (64 * k)).filter fun i => has s i := by
  induction k with
  | zero => rfl
  | succ k ih =>
    unfold upBytes;rw [ih, show 64 * (k + 1) = 64 * k + 64 by omega, List.range_add, List.filter_append];congr 1;unfold bits;rw [List.filter_map];congr 1;apply List.filter_congr;intro i hi
    show _ = has s (64 * k + i)
    rw [has_word s k i (List.mem_range.1 hi)]
theorem upBytes_four (s : S) : upBytes s 4 = bytes s := upBytes_eq s 4
end Go.Proofs.Bs
end
section

namespace Go.Proofs.YtfjemaeidmikmaaDoorQ
def EV {α : Type} (g : Nat → Option α) (r : α) : Prop := ∃ k0, ∀ k, k0 ≤ k → g k = some r
namespace EV
variable {α β : Type}
theorem const {r : α} : EV (fun _ => some r) r := ⟨0, fun _ _ => rfl⟩
theorem succ {g : Nat → Option α} {r : α} (h : EV (fun k => g (k + 1)) r) : EV g r := by
  obtain ⟨k0, h⟩ := h;refine ⟨k0 + 1, fun k hk => ?_⟩;have := h (k - 1) (by omega);simp only at this;rwa [show k - 1 + 1 = k by omega] at this
theorem bind {g : Nat → Option α} {h : Nat → α → Option β} {a : α} {r : β} (hg : EV g a) (hh : EV (fun k => h k a) r) : EV (fun k => (g k).bind (h k)) r := by
  obtain ⟨k0, hg⟩ := hg;obtain ⟨k1, hh⟩ := hh;exact ⟨max k0 k1, fun k hk => by show (g k).bind (h k) = _; rw [hg k (by omega)]; exact hh k (by omega)⟩
theorem congr {g g' : Nat → Option α} {r : α} (h : ∀ k, g k = g' k) (hg : EV g' r) : EV g r := by
  obtain ⟨k0, hg⟩ := hg;exact ⟨k0, fun k hk => (h k).trans (hg k hk)⟩
theorem step {g g' : Nat → Option α} {r : α} (h : EV g' r) (e : ∀ k, g (k + 1) = g' k) : EV g r := succ (congr e h)
theorem stop {g : Nat → Option α} {r : α} (e : ∀ k, g (k + 1) = some r) : EV g r := succ (congr e const)
theorem now {g : Nat → Option α} {r : α} (e : ∀ k, g k = some r) : EV g r := congr e const
theorem ex {g : Nat → Option α} {r : α} (h : EV g r) : ∃ k, g k = some r := by
  obtain ⟨k0, h⟩ := h;exact ⟨k0, h k0 (Nat.le_refl _)⟩
theorem cast {g : Nat → Option α} {r r' : α} (h : EV g r) (e : r = r') : EV g r' := e ▸ h
end EV
end Go.Proofs.YtfjemaeidmikmaaDoorQ
end
section

namespace Go.Proofs.Nf
inductive Reach (n : Nat) (E : Nat → Nat → Prop) (S : Nat → Prop) : Nat → Prop
  | base {i : Nat} (h : i < n) (hs : S i) : Reach n E S i
  | step {i j : Nat} (h : Reach n E S i) (e : E i j) (hj : j < n) : Reach n E S j
theorem Reach.lt {n : Nat} {E : Nat → Nat → Prop} {S : Nat → Prop} {i : Nat} (h : Reach n E S i) : i < n := by
  cases h <;> assumption
theorem Reach.mono {n : Nat} {E : Nat → Nat → Prop} {S T : Nat → Prop} (hST : ∀ i, i < n → S i → Reach n E T i) {i : Nat} (h : Reach n E S i) : Reach n E T i := by
  induction h with
  | base h hs => exact hST _ h hs
  | step _ e hj ih => exact ih.step e hj
theorem Reach.in_closed {n : Nat} {E : Nat → Nat → Prop} {S P : Nat → Prop} (h0 : ∀ i, i < n → S i → P i) (hc : ∀ i j, i < n → P i → E i j → j < n → P j) {i : Nat} (h : Reach n E S i) : P i := by
  induction h with
  | base h hs => exact h0 _ h hs
  | step hi e hj ih => exact hc _ _ hi.lt ih e hj
def count (p : Nat → Bool) : Nat → Nat
  | 0 => 0
  | n + 1 => count p n + (if p n then 1 else 0)
theorem count_le (p : Nat → Bool) (n : Nat) : count p n ≤ n := by
  induction n with
  | zero => exact Nat.le_refl _
  | succ n ih => unfold count; split <;> omega
theorem count_mono {p q : Nat → Bool} (n : Nat) (h : ∀ i, i < n → p i = true → q i = true) : count p n ≤ count q n := by
  induction n with
  | zero => exact Nat.le_refl _
  | succ n ih =>
    (have := ih fun i hi => h i (by omega));unfold count;by_cases hp : p n = true
    · rw [if_pos hp, if_pos (h n (by omega) hp)]; omega
    · rw [if_neg hp]; split <;> omega
theorem count_lt {p q : Nat → Bool} (n : Nat) (h : ∀ i, i < n → p i = true → q i = true) {k : Nat} (hk : k < n) (h1 : p k = false) (h2 : q k = true) : count p n < count q n := by
  induction n with
  | zero => omega
  | succ n ih =>
    unfold count;by_cases e : k = n
    · subst e;(have := count_mono (p := p) (q := q) k fun i hi => h i (by omega));rw [h1, h2]; simp; omega
    · have := ih (fun i hi => h i (by omega)) (by omega);by_cases hp : p n = true
      · rw [if_pos hp, if_pos (h n (by omega) hp)]; omega
      · rw [if_neg hp]; split <;> omega
def mark (E : Nat → Nat → Bool) (i : Nat) (p : Nat → Bool) : Nat → Bool := fun j => p j || (p i && E i j)
def turn (E : Nat → Nat → Bool) : Nat → (Nat → Bool) → Nat → Bool
  | 0, p => p
  | k + 1, p => mark E k (turn E k p)
def turns (n : Nat) (E : Nat → Nat → Bool) : Nat → (Nat → Bool) → Nat → Bool
  | 0, p => p
  | k + 1, p => turn E n (turns n E k p)
theorem mark_le (E : Nat → Nat → Bool) (i : Nat) (p : Nat → Bool) (j : Nat) (h : p j = true) : mark E i p j = true := by unfold mark; rw [h]; rfl
theorem turn_le (E : Nat → Nat → Bool) (k : Nat) (p : Nat → Bool) (j : Nat) (h : p j = true) : turn E k p j = true := by
  induction k with
  | zero => exact h
  | succ k ih => exact mark_le E k _ j ih
theorem turns_le (n : Nat) (E : Nat → Nat → Bool) (k : Nat) (p : Nat → Bool) (j : Nat) (h : p j = true) : turns n E k p j = true := by
  induction k with
  | zero => exact h
  | succ k ih => exact turn_le E n _ j ih
theorem turn_step (E : Nat → Nat → Bool) (k : Nat) (p : Nat → Bool) (i j : Nat) (hi : i < k) (h : p i = true) (e : E i j = true) : turn E k p j = true := by
  induction k with
  | zero => omega
  | succ k ih =>
    unfold turn;by_cases hik : i = k
    · subst hik;unfold mark;rw [turn_le E i p i h, e]; simp
    · exact mark_le E k _ j (ih (by omega))
theorem turn_reach {n : Nat} {E : Nat → Nat → Bool} {S : Nat → Prop} (k : Nat) (hk : k ≤ n) (p : Nat → Bool) (hE : ∀ i j, i < n → E i j = true → j < n) (h : ∀ i, p i = true → Reach n (fun i j => E i j = true) S i) : ∀ i, turn E k p i = true → Reach n (fun i j => E i j = true) S i := by
  induction k with
  | zero => exact h
  | succ k ih =>
    intro j hj;unfold turn mark at hj;rw [Bool.or_eq_true, Bool.and_eq_true] at hj;rcases hj with hj | ⟨h1, h2⟩
    · exact ih (by omega) j hj
    · exact (ih (by omega) k h1).step h2 (hE k j (by omega) h2)
theorem turns_reach (n : Nat) (E : Nat → Nat → Bool) (p : Nat → Bool) (hE : ∀ i j, i < n → E i j = true → j < n) (hp : ∀ i, p i = true → i < n) (j : Nat) : turns n E n p j = true ↔ Reach n (fun i j => E i j = true) (fun i => p i = true) j := by
  have hr : ∀ k j, turns n E k p j = true → Reach n (fun i j => E i j = true) (fun i => p i = true) j := by
    intro k
    induction k with
    | zero => intro j h; exact .base (hp j h) h
    | succ k ih => intro j h; exact turn_reach n (Nat.le_refl _) _ hE (ih) j h
  refine ⟨hr n j, fun h => ?_⟩
  have hgrow : ∀ k, (∀ i j, i < n → turns n E k p i = true → E i j = true → turns n E k p j = true) ∨ (∃ i, i < n ∧ p i = true) ∧ k + 1 ≤ count (turns n E k p) n := by
    intro k
    induction k with
    | zero =>
      by_cases h0 : ∃ i, i < n ∧ p i = true
      · right;refine ⟨h0, ?_⟩;obtain ⟨i, hi, h1⟩ := h0;have := count_lt (p := fun _ => false) (q := p) n (fun _ _ h => by cases h) hi rfl h1
        show 1 ≤ count p n
        omega
      · left;intro i j hi h1 _;exact absurd ⟨i, hi, h1⟩ h0
    | succ k ih =>
      rcases ih with hc | ⟨h0, hk⟩
      · left
        have hsame : ∀ q, q ≤ n → ∀ j, turn E q (turns n E k p) j = true → turns n E k p j = true := by
          intro q hq
          induction q with
          | zero => intro j h; exact h
          | succ q ihq =>
            intro j h;unfold turn mark at h;rw [Bool.or_eq_true, Bool.and_eq_true] at h;rcases h with h | ⟨h1, h2⟩
            · exact ihq (by omega) j h
            · exact hc q j (by omega) (ihq (by omega) q h1) h2
        intro i j hi h1 h2;exact turn_le E n _ j (hc i j hi (hsame n (Nat.le_refl _) i h1) h2)
      · by_cases hc : ∀ i j, i < n → turns n E k p i = true → E i j = true → turns n E k p j = true
        · left
          have hsame : ∀ q, q ≤ n → ∀ j, turn E q (turns n E k p) j = true → turns n E k p j = true := by
            intro q hq
            induction q with
            | zero => intro j h; exact h
            | succ q ihq =>
              intro j h;unfold turn mark at h;rw [Bool.or_eq_true, Bool.and_eq_true] at h;rcases h with h | ⟨h1, h2⟩
              · exact ihq (by omega) j h
              · exact hc q j (by omega) (ihq (by omega) q h1) h2
          intro i j hi h1 h2;exact turn_le E n _ j (hc i j hi (hsame n (Nat.le_refl _) i h1) h2)
        · right;refine ⟨h0, ?_⟩
          have : ∃ i j, i < n ∧ turns n E k p i = true ∧ E i j = true ∧ turns n E k p j = false := by
            apply Classical.byContradiction;intro hno;apply hc;intro i j hi h1 h2;rcases Bool.eq_false_or_eq_true (turns n E k p j) with e | e
            · exact e
            · exact absurd ⟨i, j, hi, h1, h2, e⟩ hno
          obtain ⟨i, j, hi, h1, h2, h3⟩ := this;have := count_lt (p := turns n E k p) (q := turns n E (k + 1) p) n (fun q _ hq => turn_le E n _ q hq) (hE i j hi h2) h3 (turn_step E n _ i j hi h1 h2);omega
  have hclosed : ∀ i j, i < n → turns n E n p i = true → E i j = true → turns n E n p j = true := by
    rcases hgrow n with hc | ⟨_, hk⟩
    · exact hc
    · have := count_le (turns n E n p) n;omega
  exact Reach.in_closed (P := fun i => turns n E n p i = true) (fun i _ h => turns_le n E n p i h) (fun i j hi h e _ => hclosed i j hi h e) h
end Go.Proofs.Nf
end
section
namespace Go.Proofs.Sk
open Go
def skipB (md : Region.Mode) (ops : Array Oper) : List (Nat × Nat) → Array Bool → Act → Bool
  | [], _, _ => true
  | (i, d) :: is, listed, a =>
    match ops[i]? with
    | some o => (match o.dst with | some d' => decide (d' = d) | none => false) && (Region.ready md ops listed).contains i && Region.free md ops listed i && !Region.wanted o (yielded ops a.tmps) && skipB md ops is (listed.setIfInBounds i true) (a.put (some d) undef)
    | none => false
def skipL : List (Nat × Nat) → Array Bool → Array Bool
  | [], listed => listed
  | (i, _) :: is, listed => skipL is (listed.setIfInBounds i true)
def skipA : List (Nat × Nat) → Act → Act
  | [], a => a
  | (_, d) :: is, a => skipA is (a.put (some d) undef)
theorem skips {P : Program} {ops : Array Oper} {Q : Exit → Act → World → Prop} {md : Region.Mode} {S : World → Prop} (hs : Region.noSelect ops = true) (hQ : ∀ (c : _) (d : Option Tmp) (v : Value) (a : Act) (w : World), Q (.panic c) (a.put d v) w → Q (.panic c) a w) :
    ∀ (is : List (Nat × Nat)) (fuel : Nat) (listed : Array Bool) (a : Act) (w : World), skipB md ops is listed a = true → S w → wpAnyH P md ops Q S fuel (skipL is listed) (skipA is a) w → wpAnyH P md ops Q S (fuel + is.length) listed a w
  | [], _, _, _, _, _, _, h => h
  | (i, d) :: is, fuel, listed, a, w, hB, hS, h => by
    unfold skipB at hB
    unfold skipL skipA at h
    cases ho : ops[i]? with
    | none => rw [ho] at hB; cases hB
    | some o =>
      rw [ho] at hB
      simp only [Bool.and_eq_true, Bool.not_eq_true'] at hB
      obtain ⟨⟨⟨⟨h0, h1⟩, h2⟩, h3⟩, h4⟩ := hB
      have hd : o.dst = some d := by
        cases hd : o.dst with
        | none => rw [hd] at h0; cases h0
        | some d' => rw [hd] at h0; rw [of_decide_eq_true h0]
      refine wpAnyH_take ho hs h2 h1 (fun c a w q => hQ c o.dst undef a w q) (Or.inr ⟨h3, rfl⟩) hS ?_
      rw [hd]
      exact skips hs hQ is fuel _ _ w h4 hS h
end Go.Proofs.Sk
end
section
set_option linter.unusedVariables false
namespace Go.Proofs.Al
section
variable {α : Type} [DecidableEq α] {β : Type} [DecidableEq β]
theorem run_snd_map (l : List α) : (run l).2 = l.map fun x => (run l).1.idxOf x := by
  refine snoc_ind (P := fun l : List α => (run l).2 = l.map fun x => (run l).1.idxOf x) rfl (fun l p ih => ?_) l;rw [run_snoc, List.map_append];simp only [step]
  have hk : ∀ x ∈ l, (if p ∈ (run l).1 then (run l).1 else (run l).1 ++ [p]).idxOf x = (run l).1.idxOf x := by
    intro x hx;split
    · rfl
    · rw [List.idxOf_append, if_pos ((run_mem l x).2 hx)]
  rw [ih];congr 1
  · exact (List.map_congr_left fun x hx => (hk x hx).symm)
  · simp only [List.map_cons, List.map_nil];split
    · rfl
    · rename_i h;rw [List.idxOf_append, if_neg h, List.idxOf_eq_length h];simp
theorem run_le (l : List α) : ∀ n ∈ (run l).2, n ≤ l.length := by
  intro n hn;rw [run_snd_map] at hn;obtain ⟨p, hp, rfl⟩ := List.mem_map.1 hn;have h1 := List.idxOf_lt_length_of_mem ((run_mem l p).2 hp);have h2 := run_few l;omega
theorem idxOf_inj {l : List α} {x y : α} (hx : x ∈ l) (hy : y ∈ l) (h : l.idxOf x = l.idxOf y) : x = y := by
  have h1 := List.getElem_idxOf (List.idxOf_lt_length_of_mem hx);have h2 := List.getElem_idxOf (List.idxOf_lt_length_of_mem hy);rw [← h1, ← h2];congr 1
theorem run_get (l : List α) (i : Nat) (h : i < l.length) : (run l).2[i]'(by rw [run_len]; exact h) = (run l).1.idxOf l[i] := by
  have e := run_snd_map l
  have : (run l).2[i]? = some ((run l).1.idxOf l[i]) := by
    rw [e, List.getElem?_map, List.getElem?_eq_getElem h];rfl
  rw [List.getElem?_eq_getElem (by rw [run_len]; exact h)] at this;exact Option.some.inj this
theorem run_same (l : List α) (i j : Nat) (hi : i < l.length) (hj : j < l.length) : (run l).2[i]'(by rw [run_len]; exact hi) = (run l).2[j]'(by rw [run_len]; exact hj) ↔ l[i] = l[j] := by
  rw [run_get l i hi, run_get l j hj];constructor
  · exact idxOf_inj ((run_mem l _).2 (List.getElem_mem hi)) ((run_mem l _).2 (List.getElem_mem hj))
  · intro h; rw [h]
theorem firsts_pattern (p : List α) (q : List β) (hl : p.length = q.length) (h : ∀ i j (hi : i < p.length) (hj : j < p.length), p[i] = p[j] ↔ q[i]'(hl ▸ hi) = q[j]'(hl ▸ hj)) : firsts p = firsts q := by
  unfold firsts;apply List.ext_getElem (by simp [hl]);intro i h1 h2;rw [List.length_map] at h1 h2;rw [List.getElem_map, List.getElem_map];have a1 := List.idxOf_lt_length_of_mem (List.getElem_mem h1);have b1 := List.idxOf_lt_length_of_mem (List.getElem_mem h2);have a2 : p[p.idxOf p[i]] = p[i] := List.getElem_idxOf a1;have b2 : q[q.idxOf q[i]] = q[i] := List.getElem_idxOf b1
  have le1 : p.idxOf p[i] ≤ q.idxOf q[i] := by
    have : p[q.idxOf q[i]]? = some p[i] := by
      rw [List.getElem?_eq_getElem (by omega)];exact congrArg some ((h _ _ (by omega) h1).2 b2)
    exact idxOf_le this
  have le2 : q.idxOf q[i] ≤ p.idxOf p[i] := by
    have : q[p.idxOf p[i]]? = some q[i] := by
      rw [List.getElem?_eq_getElem (by omega)];exact congrArg some ((h _ _ a1 h1).1 a2)
    exact idxOf_le this
  omega
theorem run_pattern (p : List α) (q : List β) (hl : p.length = q.length) (h : ∀ i j (hi : i < p.length) (hj : j < p.length), p[i] = p[j] ↔ q[i]'(hl ▸ hi) = q[j]'(hl ▸ hj)) : (run p).2 = (run q).2 ∧ (run p).1.length = (run q).1.length := by
  have e := firsts_pattern p q hl h;have h1 := number_firsts p;have h2 := number_firsts q;rw [e, h2] at h1;injection h1 with h3 h4;exact ⟨h3.symm, h4.symm⟩
theorem run_nodup (l : List α) : (run l).1.Nodup := by
  refine snoc_ind (P := fun l : List α => (run l).1.Nodup) List.nodup_nil (fun l p ih => ?_) l;rw [run_snoc];simp only [step];split
  · exact ih
  · rename_i h
    exact List.nodup_append.2 ⟨ih, by simp, fun x hx y hy e => by
      rw [List.mem_singleton] at hy;subst hy e
      exact h hx⟩
end
end Go.Proofs.Al
end
section
namespace Go.Proofs.YtfjemaeidmikmaaDoor
open Go.Proofs.Bs
structure Nd where
  kind : Int
  set : S
  lo : Int
  hi : Int
def arity (k : Int) : Int := if k = 1 ∨ k = 2 ∨ k = 3 ∨ k = 4 then 0 else if k = 7 then 1 else if k = 5 ∨ k = 6 then 2 else -1
theorem arity_cases (k : Int) : arity k = -1 ∨ arity k = 0 ∨ arity k = 1 ∨ arity k = 2 := by unfold arity; grind
theorem arity_lo (k : Int) : -1 ≤ arity k := by have := arity_cases k; omega
theorem arity_hi (k : Int) : arity k ≤ 2 := by have := arity_cases k; omega
def fieldsB (n : Nd) : Bool :=
  if n.kind ≠ 1 ∧ ¬ (n.set.a = 0 ∧ n.set.b = 0 ∧ n.set.c = 0 ∧ n.set.d = 0) then false
  else if n.kind ≠ 7 then decide (n.lo = 0 ∧ n.hi = 0)
  else decide (0 ≤ n.lo ∧ n.lo ≤ 32 ∧ (n.hi = -1 ∨ n.lo ≤ n.hi ∧ n.hi ≤ 32))
def rightFrom : List Nd → Int → Bool
  | [], o => decide (o = 1)
  | n :: l, o => if arity n.kind < 0 ∨ o < arity n.kind ∨ fieldsB n = false then false else rightFrom l (o + (1 - arity n.kind))
def rightB (l : List Nd) : Bool := if 512 < l.length then false else rightFrom l 0
def scanDown (l : List Nd) : Nat → Int → Int
  | 0, _ => -1
  | i + 1, want =>
    match l[i]? with
    | none => -1
    | some x => if arity x.kind < 0 then -1 else if want + (arity x.kind - 1) = 0 then i else scanDown l i (want + (arity x.kind - 1))
def firstI (l : List Nd) (i : Int) : Int := if i < 0 ∨ (l.length : Int) ≤ i then -1 else scanDown l (i.toNat + 1) 1
theorem scan_range (l : List Nd) (k : Nat) (m : Int) : -1 ≤ scanDown l k m ∧ scanDown l k m < (k : Int) := by
  induction k generalizing m with
  | zero => simp [scanDown]
  | succ k ih =>
    unfold scanDown;split
    · omega
    · rename_i x _;split
      · omega
      · split
        · omega
        · have := ih (m + (arity x.kind - 1)); omega
theorem first_range (l : List Nd) (i : Int) : -1 ≤ firstI l i ∧ firstI l i < max (l.length : Int) 1 := by
  unfold firstI;split
  · omega
  · have := scan_range l (i.toNat + 1) 1; omega
def kidsDown (l : List Nd) : Nat → Int → List Int
  | 0, _ => []
  | n + 1, at_ => at_ :: kidsDown l n (firstI l at_ - 1)
theorem kidsDown_length (l : List Nd) (n : Nat) (i : Int) : (kidsDown l n i).length = n := by
  induction n generalizing i with
  | zero => rfl
  | succ n ih => simp [kidsDown, ih]
def kidsP (l : List Nd) (i : Int) : List Int :=
  if firstI l i < 0 then [] else
    match l[i.toNat]? with
    | none => []
    | some x => (kidsDown l (arity x.kind).toNat (i - 1)).reverse
theorem scan_step {l : List Nd} {k : Nat} {x : Nd} (h : l[k]? = some x) (m : Int) : scanDown l (k + 1) m = if arity x.kind < 0 then -1 else if m + (arity x.kind - 1) = 0 then (k : Int) else scanDown l k (m + (arity x.kind - 1)) := by
  rw [scanDown, h]
def popN (out : List Int) : Nat → Int → Int
  | 0, f => f
  | k + 1, f => if f < 0 then f else popN out k (if f = 0 then -1 else out.getD (f - 1).toNat 0)
def firstOf (out : List Int) (i : Nat) (x : Nd) : Int := if arity x.kind < 0 then -1 else popN out (arity x.kind).toNat i
def zNd : Nd := ⟨0, S.zero, 0, 0⟩
def firstsTo (l : List Nd) : Nat → List Int
  | 0 => []
  | i + 1 => firstsTo l i ++ [firstOf (firstsTo l i) i (l.getD i zNd)]
theorem firstsTo_length (l : List Nd) (n : Nat) : (firstsTo l n).length = n := by
  induction n with
  | zero => rfl
  | succ n ih => simp [firstsTo, ih]
theorem popN_range {out : List Int} (ho : ∀ (j : Nat) v, out[j]? = some v → -1 ≤ v ∧ v ≤ (j : Int)) (k : Nat) (f : Int) (h0 : -1 ≤ f) (h1 : f ≤ out.length) : -1 ≤ popN out k f ∧ popN out k f ≤ f := by
  induction k generalizing f with
  | zero => simp [popN]; omega
  | succ k ih =>
    unfold popN;split
    · omega
    · split
      · have := ih (-1) (by omega) (by omega);omega
      · (have hlt : (f - 1).toNat < out.length := by omega);(have hg : out[(f - 1).toNat]? = some (out.getD (f - 1).toNat 0) := by rw [List.getD_eq_getElem?_getD, List.getElem?_eq_getElem hlt]; rfl);have h2 := ho _ _ hg;have := ih (out.getD (f - 1).toNat 0) h2.1 (by omega);omega
theorem popN_neg (out : List Int) (k : Nat) (f : Int) (h : f < 0) : popN out k f = f := by
  cases k with
  | zero => rfl
  | succ k => unfold popN; rw [if_pos h]
theorem popN_step (out : List Int) (k : Nat) (f : Int) (h : 0 ≤ f) : popN out (k + 1) f = popN out k (if f = 0 then -1 else out.getD (f - 1).toNat 0) := by
  rw [popN, if_neg (by omega)]
theorem firsts_range (l : List Nd) (n : Nat) : ∀ (j : Nat) v, (firstsTo l n)[j]? = some v → -1 ≤ v ∧ v ≤ (j : Int) := by
  induction n with
  | zero => intro j v h; simp [firstsTo] at h
  | succ n ih =>
    intro j v h;unfold firstsTo at h;generalize l.getD n zNd = x at h;rcases Nat.lt_or_ge j n with hj | hj
    · rw [List.getElem?_append_left (by rw [firstsTo_length]; exact hj)] at h;exact ih j v h
    · rw [List.getElem?_append_right (by rw [firstsTo_length]; exact hj), firstsTo_length] at h
      have hjn : j = n := by
        have := (List.getElem?_eq_some_iff.1 h).1;simp at this; omega
      subst hjn;simp at h;subst h;unfold firstOf;split
      · omega
      · have := popN_range ih (arity x.kind).toNat (j : Int) (by omega) (by rw [firstsTo_length]; omega);omega
theorem drop_get {α : Type} {l : List α} {k : Nat} {x : α} (h : l[k]? = some x) : l.drop k = x :: l.drop (k + 1) := by
  obtain ⟨hk, rfl⟩ := List.getElem?_eq_some_iff.1 h;exact List.drop_eq_getElem_cons hk
theorem right_step {l : List Nd} {k : Nat} {x : Nd} (h : l[k]? = some x) (m : Int) : rightFrom (l.drop k) m = if arity x.kind < 0 ∨ m < arity x.kind ∨ fieldsB x = false then false else rightFrom (l.drop (k + 1)) (m + (1 - arity x.kind)) := by
  rw [drop_get h]; rfl
end Go.Proofs.YtfjemaeidmikmaaDoor
end
