
/- Plain mathematics of sets of bytes: four words of 64 bits. No program in sight. -/
namespace Go.Proofs.Bs

def W : Nat := 18446744073709551616
theorem W_eq : W = 2 ^ 64 := by decide

structure S where
  a : Nat
  b : Nat
  c : Nat
  d : Nat

def S.zero : S := ⟨0, 0, 0, 0⟩
def S.word (s : S) : Nat → Nat
  | 0 => s.a
  | 1 => s.b
  | 2 => s.c
  | _ => s.d
def S.setWord (s : S) (i x : Nat) : S :=
  match i with
  | 0 => ⟨x, s.b, s.c, s.d⟩
  | 1 => ⟨s.a, x, s.c, s.d⟩
  | 2 => ⟨s.a, s.b, x, s.d⟩
  | _ => ⟨s.a, s.b, s.c, x⟩
structure S.wf (s : S) : Prop where
  a : s.a < W
  b : s.b < W
  c : s.c < W
  d : s.d < W
def has (s : S) (i : Nat) : Bool := (s.word (i / 64)).testBit (i % 64)
def put (s : S) (i : Nat) : S := s.setWord (i / 64) (s.word (i / 64) ||| 2 ^ (i % 64))

theorem S.wf.wf_word {s : S} (h : s.wf) (i : Nat) : s.word i < W := by
  obtain ⟨h1, h2, h3, h4⟩ := h
  unfold S.word
  split <;> assumption
theorem S.wf_set {s : S} (h : s.wf) (i x : Nat) (hx : x < W) : (s.setWord i x).wf := by
  obtain ⟨h1, h2, h3, h4⟩ := h
  unfold S.setWord
  split <;> exact ⟨by assumption, by assumption, by assumption, by assumption⟩
theorem S.wf_zero : S.zero.wf := by constructor <;> simp [S.zero, W]
theorem or_lt {x y : Nat} (hx : x < W) (hy : y < W) : x ||| y < W := by
  rw [W_eq] at *; exact Nat.or_lt_two_pow hx hy
theorem pow_lt (i : Nat) : 2 ^ (i % 64) < W := by
  rw [W_eq]; exact Nat.pow_lt_pow_right (by omega) (by omega)
theorem wf_put {s : S} (h : s.wf) (i : Nat) : (put s i).wf := S.wf_set h _ _ (or_lt (h.wf_word _) (pow_lt i))

theorem has_zero (i : Nat) : has S.zero i = false := by
  unfold has S.word S.zero
  split <;> simp

/-- Bytes put one behind the other. -/
def puts (s : S) (l : List Nat) : S := l.foldl put s
theorem wf_puts {s : S} (h : s.wf) (l : List Nat) : (puts s l).wf := by
  induction l generalizing s with
  | nil => exact h
  | cons x l ih => exact ih (wf_put h x)

/-- The set of the numbers below n that p lets in. -/
def upto (p : Nat → Bool) : Nat → S
  | 0 => S.zero
  | n + 1 => if p n then put (upto p n) n else upto p n

/-- Word by word. -/
def zip (f : Nat → Nat → Nat) (s t : S) : S := ⟨f s.a t.a, f s.b t.b, f s.c t.c, f s.d t.d⟩
theorem word_zip (f : Nat → Nat → Nat) (s t : S) (i : Nat) : (zip f s t).word i = f (s.word i) (t.word i) := by
  unfold S.word zip
  split <;> rfl
def or (s t : S) : S := zip (· ||| ·) s t
def and (s t : S) : S := zip (· &&& ·) s t
def not (s : S) : S := zip (fun x _ => 18446744073709551615 - x) s s
theorem wf_or {s t : S} (hs : s.wf) (ht : t.wf) : (or s t).wf := ⟨or_lt hs.a ht.a, or_lt hs.b ht.b, or_lt hs.c ht.c, or_lt hs.d ht.d⟩
theorem has_or (s t : S) (i : Nat) : has (or s t) i = (has s i || has t i) := by
  unfold has or; rw [word_zip, Nat.testBit_or]

def bits (w : Nat) : List Nat := (List.range 64).filter fun i => w.testBit i
def bytes (s : S) : List Nat := (List.range 256).filter fun i => has s i

end Go.Proofs.Bs
