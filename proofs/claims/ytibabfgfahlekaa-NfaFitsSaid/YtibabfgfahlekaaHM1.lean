/- Several short texts of this proof, one behind the other. -/
section

/- Plain mathematics of sets of bytes: four words of 64 bits. No program in sight. -/
namespace Go.Proofs.Bs

def W : Nat := 18446744073709551616

structure S where
  a : Nat
  b : Nat
  c : Nat
  d : Nat

def S.zero : S := ⟨0, 0, 0, 0⟩
def S.word (s : S) : Nat → Nat
  | 0 => s.a
  | 1 => s.b
  | 2 => s.c
  | _ => s.d
def S.setWord (s : S) (i x : Nat) : S :=
  match i with
  | 0 => ⟨x, s.b, s.c, s.d⟩
  | 1 => ⟨s.a, x, s.c, s.d⟩
  | 2 => ⟨s.a, s.b, x, s.d⟩
  | _ => ⟨s.a, s.b, s.c, x⟩
structure S.wf (s : S) : Prop where
  a : s.a < W
  b : s.b < W
  c : s.c < W
  d : s.d < W
def has (s : S) (i : Nat) : Bool := (s.word (i / 64)).testBit (i % 64)
def put (s : S) (i : Nat) : S := s.setWord (i / 64) (s.word (i / 64) ||| 2 ^ (i % 64))

theorem S.wf.wf_word {s : S} (h : s.wf) (i : Nat) : s.word i < W := by
  obtain ⟨h1, h2, h3, h4⟩ := h
  unfold S.word
  split <;> assumption

/-- Bytes put one behind the other. -/
def puts (s : S) (l : List Nat) : S := l.foldl put s

/-- The set of the numbers below n that p lets in. -/
def upto (p : Nat → Bool) : Nat → S
  | 0 => S.zero
  | n + 1 => if p n then put (upto p n) n else upto p n

/-- Word by word. -/
def zip (f : Nat → Nat → Nat) (s t : S) : S := ⟨f s.a t.a, f s.b t.b, f s.c t.c, f s.d t.d⟩
def and (s t : S) : S := zip (· &&& ·) s t
def not (s : S) : S := zip (fun x _ => 18446744073709551615 - x) s s

def bits (w : Nat) : List Nat := (List.range 64).filter fun i => w.testBit i
def bytes (s : S) : List Nat := (List.range 256).filter fun i => has s i

end Go.Proofs.Bs
end
section

/- Plain: what holds with rounds enough. -/
namespace Go.Proofs.YtibabfgfahlekaaQ
def EV {α : Type} (g : Nat → Option α) (r : α) : Prop := ∃ k0, ∀ k, k0 ≤ k → g k = some r
namespace EV
variable {α β : Type}
theorem const {r : α} : EV (fun _ => some r) r := ⟨0, fun _ _ => rfl⟩
theorem succ {g : Nat → Option α} {r : α} (h : EV (fun k => g (k + 1)) r) : EV g r := by
  obtain ⟨k0, h⟩ := h
  refine ⟨k0 + 1, fun k hk => ?_⟩
  have := h (k - 1) (by omega)
  simp only at this
  rwa [show k - 1 + 1 = k by omega] at this
theorem bind {g : Nat → Option α} {h : Nat → α → Option β} {a : α} {r : β} (hg : EV g a) (hh : EV (fun k => h k a) r) : EV (fun k => (g k).bind (h k)) r := by
  obtain ⟨k0, hg⟩ := hg
  obtain ⟨k1, hh⟩ := hh
  exact ⟨max k0 k1, fun k hk => by show (g k).bind (h k) = _; rw [hg k (by omega)]; exact hh k (by omega)⟩
theorem congr {g g' : Nat → Option α} {r : α} (h : ∀ k, g k = g' k) (hg : EV g' r) : EV g r := by
  obtain ⟨k0, hg⟩ := hg
  exact ⟨k0, fun k hk => (h k).trans (hg k hk)⟩
theorem step {g g' : Nat → Option α} {r : α} (h : EV g' r) (e : ∀ k, g (k + 1) = g' k) : EV g r := succ (congr e h)
theorem stop {g : Nat → Option α} {r : α} (e : ∀ k, g (k + 1) = some r) : EV g r := succ (congr e const)
theorem now {g : Nat → Option α} {r : α} (e : ∀ k, g k = some r) : EV g r := congr e const
theorem ex {g : Nat → Option α} {r : α} (h : EV g r) : ∃ k, g k = some r := by
  obtain ⟨k0, h⟩ := h
  exact ⟨k0, h k0 (Nat.le_refl _)⟩
theorem cast {g : Nat → Option α} {r r' : α} (h : EV g r) (e : r = r') : EV g r' := e ▸ h
end EV
end Go.Proofs.YtibabfgfahlekaaQ
end
