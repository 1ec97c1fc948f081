
/- Plain mathematics of sets of bytes: four words of 64 bits. No program in sight. -/
namespace Go.Proofs.Bs

def W : Nat := 18446744073709551616
theorem W_eq : W = 2 ^ 64 := by decide

structure S where
  a : Nat
  b : Nat
  c : Nat
  d : Nat

def S.zero : S := ⟨0, 0, 0, 0⟩
def S.word (s : S) : Nat → Nat
  | 0 => s.a
  | 1 => s.b
  | 2 => s.c
  | _ => s.d
def S.setWord (s : S) (i x : Nat) : S :=
  match i with
  | 0 => ⟨x, s.b, s.c, s.d⟩
  | 1 => ⟨s.a, x, s.c, s.d⟩
  | 2 => ⟨s.a, s.b, x, s.d⟩
  | _ => ⟨s.a, s.b, s.c, x⟩
structure S.wf (s : S) : Prop where
  a : s.a < W
  b : s.b < W
  c : s.c < W
  d : s.d < W
def has (s : S) (i : Nat) : Bool := (s.word (i / 64)).testBit (i % 64)
def put (s : S) (i : Nat) : S := s.setWord (i / 64) (s.word (i / 64) ||| 2 ^ (i % 64))

theorem S.wf.wf_word {s : S} (h : s.wf) (i : Nat) : s.word i < W := by
  obtain ⟨h1, h2, h3, h4⟩ := h
  unfold S.word
  split <;> assumption

theorem has_zero (i : Nat) : has S.zero i = false := by
  unfold has S.word S.zero
  split <;> simp

theorem has_word (s : S) (k i : Nat) (hi : i < 64) : has s (64 * k + i) = (s.word k).testBit i := by
  unfold has
  rw [show (64 * k + i) / 64 = k by omega, show (64 * k + i) % 64 = i by omega]

/-- Bytes put one behind the other. -/
def puts (s : S) (l : List Nat) : S := l.foldl put s

/-- The set of the numbers below n that p lets in. -/
def upto (p : Nat → Bool) : Nat → S
  | 0 => S.zero
  | n + 1 => if p n then put (upto p n) n else upto p n

/-- Word by word. -/
def zip (f : Nat → Nat → Nat) (s t : S) : S := ⟨f s.a t.a, f s.b t.b, f s.c t.c, f s.d t.d⟩
def and (s t : S) : S := zip (· &&& ·) s t
def not (s : S) : S := zip (fun x _ => 18446744073709551615 - x) s s
theorem testBit_compl {y : Nat} (hy : y < W) (i : Nat) (hi : i < 64) : (18446744073709551615 - y).testBit i = !y.testBit i := by
  rw [W_eq] at hy
  have h := Nat.testBit_two_pow_sub_succ hy i
  rw [show 2 ^ 64 - (y + 1) = 18446744073709551615 - y by omega] at h
  rw [h]
  simp [hi]

def bits (w : Nat) : List Nat := (List.range 64).filter fun i => w.testBit i
def bytes (s : S) : List Nat := (List.range 256).filter fun i => has s i

theorem bits_zero : bits 0 = [] := by simp [bits]

theorem low_bits (k m j : Nat) : (2 ^ k * (2 * m + 1)).testBit j = (decide (k ≤ j) && (2 * m + 1).testBit (j - k)) := by
  rw [Nat.testBit_two_pow_mul]
theorem low_clear (k m : Nat) : 2 ^ k * (2 * m + 1) &&& (2 ^ k * (2 * m + 1) - 1) = 2 ^ (k + 1) * m := by
  apply Nat.eq_of_testBit_eq
  intro j
  have hp : 0 < 2 ^ k := Nat.two_pow_pos k
  have e : 2 ^ k * (2 * m + 1) - 1 = 2 ^ k * (2 * m) + (2 ^ k - 1) := by
    rw [Nat.mul_add, Nat.mul_one]; omega
  rw [Nat.testBit_and, low_bits, e, Nat.testBit_two_pow_mul_add _ (by omega), Nat.testBit_two_pow_mul]
  by_cases h : j < k
  · simp [show ¬ k ≤ j by omega, show ¬ k + 1 ≤ j by omega]
  · rw [if_neg h]
    by_cases h2 : j = k
    · subst h2
      simp; omega
    · obtain ⟨d, rfl⟩ : ∃ d, j = k + 1 + d := ⟨j - (k + 1), by omega⟩
      rw [show k + 1 + d - k = d + 1 by omega, Nat.testBit_succ, Nat.testBit_succ, show (2 * m + 1) / 2 = m by omega, show 2 * m / 2 = m by omega]
      simp [show k ≤ k + 1 + d by omega]

theorem bits_step (w k m : Nat) (hw : w = 2 ^ k * (2 * m + 1)) (hk : k < 64) : bits w = k :: bits (w &&& (w - 1)) := by
  have hb : ∀ j, w.testBit j = (decide (k ≤ j) && (2 * m + 1).testBit (j - k)) := fun j => by rw [hw, low_bits]
  have hc : ∀ j, (w &&& (w - 1)).testBit j = (decide (k + 1 ≤ j) && m.testBit (j - (k + 1))) := fun j => by rw [hw, low_clear, Nat.testBit_two_pow_mul]
  obtain ⟨n, hn⟩ : ∃ n, 64 = k + 1 + n := ⟨64 - (k + 1), by omega⟩
  unfold bits
  rw [hn, List.range_add, List.filter_append, List.filter_append]
  have h1 : (List.range (k + 1)).filter (fun i => w.testBit i) = [k] := by
    rw [List.range_succ, List.filter_append]
    have : (List.range k).filter (fun i => w.testBit i) = [] := by
      rw [List.filter_eq_nil_iff]
      intro i hi
      have := List.mem_range.1 hi
      rw [hb]
      simp [show ¬ k ≤ i by omega]
    rw [this]
    have hkk : w.testBit k = true := by rw [hb]; simp
    simp [hkk]
  have h2 : (List.range (k + 1)).filter (fun i => (w &&& (w - 1)).testBit i) = [] := by
    rw [List.filter_eq_nil_iff]
    intro i hi
    have := List.mem_range.1 hi
    rw [hc]
    simp [show ¬ k + 1 ≤ i by omega]
  rw [h1, h2, List.nil_append]
  show k :: _ = k :: _
  congr 1
  apply List.filter_congr
  intro i hi
  obtain ⟨d, _, rfl⟩ := List.mem_map.1 hi
  rw [hb, hc, show k + 1 + d - k = d + 1 by omega, Nat.testBit_succ, show (2 * m + 1) / 2 = m by omega, show k + 1 + d - (k + 1) = d by omega]
  simp [show k ≤ k + 1 + d by omega, show k + 1 ≤ k + 1 + d by omega]

theorem bytes_lt {s : S} {i : Nat} (h : i ∈ bytes s) : i < 256 := List.mem_range.1 (List.mem_filter.1 h).1
theorem mem_bytes {s : S} {i : Nat} : i ∈ bytes s ↔ i < 256 ∧ has s i = true := by
  unfold bytes
  rw [List.mem_filter, List.mem_range]

/-- The bytes of the first k words. -/
def upBytes (s : S) : Nat → List Nat
  | 0 => []
  | k + 1 => upBytes s k ++ (bits (s.word k)).map (64 * k + ·)
theorem upBytes_eq (s : S) (k : Nat) : upBytes s k = (List.range (64 * k)).filter fun i => has s i := by
  induction k with
  | zero => rfl
  | succ k ih =>
    unfold upBytes
    rw [ih, show 64 * (k + 1) = 64 * k + 64 by omega, List.range_add, List.filter_append]
    congr 1
    unfold bits
    rw [List.filter_map]
    congr 1
    apply List.filter_congr
    intro i hi
    show _ = has s (64 * k + i)
    rw [has_word s k i (List.mem_range.1 hi)]
theorem upBytes_four (s : S) : upBytes s 4 = bytes s := upBytes_eq s 4

end Go.Proofs.Bs
