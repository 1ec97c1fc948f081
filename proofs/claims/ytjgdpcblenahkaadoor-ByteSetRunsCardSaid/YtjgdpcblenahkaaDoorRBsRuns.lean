/- Pruned from its seat's text: what the theorem hangs on. -/
import Derived.Test.YtjgdpcblenahkaaDoorRBsPure
/- Plain mathematics: the runs of a set of bytes. No program in sight. -/
namespace Go.Proofs.Bs

def isStart (s : S) (i : Nat) : Bool := has s i && (decide (i = 0) || !has s (i - 1))
def extF (s : S) : Nat → Nat → Nat
  | 0, i => i
  | d + 1, i => if has s (i + 1) then extF s d (i + 1) else i
/-- The last byte of the run that i is in. -/
def rend (s : S) (i : Nat) : Nat := extF s (255 - i) i
theorem extF_ge (s : S) : ∀ d i, i ≤ extF s d i
  | 0, i => Nat.le_refl _
  | d + 1, i => by
    unfold extF
    split
    · have := extF_ge s d (i + 1); omega
    · exact Nat.le_refl _
theorem extF_le (s : S) : ∀ d i, extF s d i ≤ i + d
  | 0, i => Nat.le_refl _
  | d + 1, i => by
    unfold extF
    split
    · have := extF_le s d (i + 1); omega
    · omega
theorem extF_in (s : S) : ∀ d i, has s i = true → ∀ j, i ≤ j → j ≤ extF s d i → has s j = true
  | 0, i, h, j, h1, h2 => by
    obtain rfl : j = i := by unfold extF at h2; omega
    exact h
  | d + 1, i, h, j, h1, h2 => by
    unfold extF at h2
    split at h2
    · rename_i h3
      by_cases e : j = i
      · subst e; exact h
      · exact extF_in s d (i + 1) h3 j (by omega) h2
    · obtain rfl : j = i := by omega
      exact h
theorem extF_max (s : S) : ∀ d i m, m ≤ i + d → (∀ j, i ≤ j → j ≤ m → has s j = true) → m ≤ extF s d i
  | 0, i, m, h, _ => by unfold extF; omega
  | d + 1, i, m, h, hm => by
    unfold extF
    split
    · by_cases e : m ≤ i
      · have := extF_ge s d (i + 1); omega
      · exact extF_max s d (i + 1) m (by omega) fun j h1 h2 => hm j (by omega) h2
    · rename_i h3
      by_cases e : m ≤ i
      · exact e
      · exact absurd (hm (i + 1) (by omega) (by omega)) (by simpa using h3)
theorem ext_ge (s : S) (i : Nat) : i ≤ rend s i := extF_ge s _ _
theorem ext_le (s : S) (i : Nat) (h : i < 256) : rend s i ≤ 255 := by
  have := extF_le s (255 - i) i
  unfold rend
  omega
theorem ext_in {s : S} {i j : Nat} (h : has s i = true) (h1 : i ≤ j) (h2 : j ≤ rend s i) : has s j = true := extF_in s _ i h j h1 h2
theorem ext_max {s : S} {i m : Nat} (hm : m ≤ 255) (h : ∀ j, i ≤ j → j ≤ m → has s j = true) : m ≤ rend s i := extF_max s _ i m (by omega) h

def starts (s : S) (n : Nat) : List Nat := (List.range n).filter (isStart s)
theorem starts_succ (s : S) (n : Nat) : starts s (n + 1) = if isStart s n = true then starts s n ++ [n] else starts s n := by
  unfold starts
  rw [List.range_succ, List.filter_append]
  by_cases h : isStart s n = true
  · rw [if_pos h]; simp [h]
  · rw [if_neg h]; simp [h]
theorem mem_starts {s : S} {n p : Nat} : p ∈ starts s n ↔ p < n ∧ isStart s p = true := by
  unfold starts
  rw [List.mem_filter, List.mem_range]
theorem start_has {s : S} {p : Nat} (h : isStart s p = true) : has s p = true := by
  unfold isStart at h
  rw [Bool.and_eq_true] at h
  exact h.1
theorem start_pre {s : S} {p : Nat} (h : isStart s p = true) : p = 0 ∨ has s (p - 1) = false := by
  unfold isStart at h
  simp only [Bool.and_eq_true, Bool.or_eq_true, decide_eq_true_eq, Bool.not_eq_true'] at h
  exact h.2
theorem ext_before {s : S} {p q : Nat} (hp : isStart s p = true) (h : p < q) (hq : has s (q - 1) = false) : rend s p + 1 < q := by
  rcases Nat.lt_or_ge (rend s p + 1) q with h1 | h1
  · exact h1
  · have := ext_in (start_has hp) (show p ≤ q - 1 by omega) (by omega)
    rw [this] at hq
    cases hq
/-- The run that n - 1 is in is the last one. -/
theorem last_run (s : S) : ∀ n, 0 < n → has s (n - 1) = true → ∃ pre lo, starts s n = pre ++ [lo] ∧ (∀ i, lo ≤ i → i < n → has s i = true) ∧ lo < n ∧ ∀ p ∈ pre, rend s p + 1 < n := by
  intro n
  induction n with
  | zero => intro h; omega
  | succ n ih =>
    intro _ hn
    rw [Nat.add_sub_cancel] at hn
    rw [starts_succ]
    by_cases h : isStart s n = true
    · rw [if_pos h]
      refine ⟨_, n, rfl, fun i h1 h2 => ?_, by omega, fun p hp => ?_⟩
      · obtain rfl : i = n := by omega
        exact hn
      · obtain ⟨h1, h2⟩ := mem_starts.1 hp
        rcases start_pre h with e | e
        · omega
        · have := ext_before h2 h1 e
          omega
    · rw [if_neg h]
      have hn0 : 0 < n := by
        rcases Nat.eq_zero_or_pos n with e | e
        · subst e
          exact absurd (show isStart s 0 = true by unfold isStart; simp [hn]) h
        · exact e
      have hp : has s (n - 1) = true := by
        unfold isStart at h
        simp [hn] at h
        exact h.2
      obtain ⟨pre, lo, e, h1, h2, h3⟩ := ih hn0 hp
      refine ⟨pre, lo, e, fun i h4 h5 => ?_, by omega, fun p hp => by have := h3 p hp; omega⟩
      by_cases e : i = n
      · subst e; exact hn
      · exact h1 i h4 (by omega)

def runsS (s : S) : List (Nat × Nat) := (starts s 256).map fun p => (p, rend s p)
/-- One byte more, as the program goes. -/
def runStep (acc : List (Nat × Nat)) (b : Nat) : List (Nat × Nat) :=
  match acc.getLast? with
  | none => acc ++ [(b, b)]
  | some (lo, hi) => if hi + 1 = b then acc.dropLast ++ [(lo, b)] else acc ++ [(b, b)]
def upRuns (s : S) (n : Nat) : List (Nat × Nat) := (starts s n).map fun p => (p, min (rend s p) (n - 1))
theorem runStep_end (l : List (Nat × Nat)) (lo hi b : Nat) : runStep (l ++ [(lo, hi)]) b = if hi + 1 = b then l ++ [(lo, b)] else l ++ [(lo, hi)] ++ [(b, b)] := by
  unfold runStep
  simp
theorem upRuns_succ (s : S) (n : Nat) (hn : n < 256) : upRuns s (n + 1) = if has s n = true then runStep (upRuns s n) n else upRuns s n := by
  have keep : (∀ p ∈ starts s n, rend s p < n) → (starts s n).map (fun p => (p, min (rend s p) (n + 1 - 1))) = upRuns s n := fun h => by
    unfold upRuns
    apply List.map_congr_left
    intro p hp
    have := h p hp
    rw [Nat.min_eq_left (by omega), Nat.min_eq_left (by omega)]
  by_cases h : has s n = true
  · rw [if_pos h]
    by_cases hst : isStart s n = true
    · have hk : ∀ p ∈ starts s n, rend s p + 1 < n := fun p hp => by
        obtain ⟨h1, h2⟩ := mem_starts.1 hp
        rcases start_pre hst with e | e
        · omega
        · exact ext_before h2 h1 e
      have e1 : upRuns s (n + 1) = upRuns s n ++ [(n, n)] := by
        have e2 := keep fun p hp => by have := hk p hp; omega
        have e3 := ext_ge s n
        show (starts s (n + 1)).map _ = _
        rw [starts_succ, if_pos hst, List.map_append, e2]
        simp only [List.map_cons, List.map_nil, Nat.add_sub_cancel, Nat.min_eq_right e3]
      rw [e1]
      rcases List.eq_nil_or_concat (starts s n) with e | ⟨l, p, e⟩
      · unfold upRuns
        rw [e]
        rfl
      · have hp := hk p (by rw [e]; simp)
        have e4 : upRuns s n = (l.map fun p => (p, min (rend s p) (n - 1))) ++ [(p, rend s p)] := by
          unfold upRuns
          rw [e, List.concat_eq_append, List.map_append]
          simp only [List.map_cons, List.map_nil]
          rw [Nat.min_eq_left (show rend s p ≤ n - 1 by omega)]
        rw [e4, runStep_end, if_neg (by omega)]
    · have hn0 : 0 < n := by
        rcases Nat.eq_zero_or_pos n with e | e
        · subst e
          exact absurd (show isStart s 0 = true by unfold isStart; simp [h]) hst
        · exact e
      have hp : has s (n - 1) = true := by
        unfold isStart at hst
        simp [h] at hst
        exact hst.2
      obtain ⟨pre, lo, e, h1, h2, h3⟩ := last_run s n hn0 hp
      have he : n ≤ rend s lo := ext_max (by omega) fun j h4 h5 => by
        by_cases e : j = n
        · subst e; exact h
        · exact h1 j h4 (by omega)
      unfold upRuns
      rw [starts_succ, if_neg hst, e, List.map_append, List.map_append]
      simp only [List.map_cons, List.map_nil]
      rw [runStep_end, Nat.min_eq_right (show n - 1 ≤ rend s lo by omega), if_pos (by omega), Nat.min_eq_right (show n + 1 - 1 ≤ rend s lo by omega), Nat.add_sub_cancel]
      congr 1
      apply List.map_congr_left
      intro p hp
      have := h3 p hp
      rw [Nat.min_eq_left (by omega), Nat.min_eq_left (by omega)]
  · rw [if_neg h]
    have hst : ¬ isStart s n = true := fun c => h (start_has c)
    show (starts s (n + 1)).map _ = _
    rw [starts_succ, if_neg hst]
    refine keep fun p hp => ?_
    obtain ⟨h1, h2⟩ := mem_starts.1 hp
    rcases Nat.lt_or_ge (rend s p) n with h3 | h3
    · exact h3
    · exact absurd (ext_in (start_has h2) (by omega) h3) h
theorem foldl_upto (s : S) : ∀ n, n ≤ 256 → ((List.range n).filter fun i => has s i).foldl runStep [] = upRuns s n
  | 0, _ => rfl
  | n + 1, h => by
    rw [List.range_succ, List.filter_append, List.foldl_append, foldl_upto s n (by omega), upRuns_succ s n (by omega)]
    by_cases hn : has s n = true
    · simp [hn]
    · simp [hn]
/-- The program's runs are the page's. -/
theorem fold_runs (s : S) : (bytes s).foldl runStep [] = runsS s := by
  have h := foldl_upto s 256 (Nat.le_refl _)
  unfold bytes
  rw [h]
  unfold upRuns runsS
  apply List.map_congr_left
  intro p hp
  obtain ⟨h1, _⟩ := mem_starts.1 hp
  have := ext_le s p h1
  rw [Nat.min_eq_left (by omega)]

/-- What is in any of some runs. -/
def unionS (l : List (Nat × Nat)) : S := l.foldl (fun s r => or s (span S.zero r.1 (r.2 + 1 - r.1))) S.zero
theorem wf_fold (l : List (Nat × Nat)) : ∀ s : S, s.wf → (l.foldl (fun s r => or s (span S.zero r.1 (r.2 + 1 - r.1))) s).wf := by
  induction l with
  | nil => intro s h; exact h
  | cons r l ih => intro s h; exact ih _ (wf_or h (wf_span S.wf_zero _ _))
theorem wf_union (l : List (Nat × Nat)) : (unionS l).wf := wf_fold l _ S.wf_zero
theorem has_range (lo hi j : Nat) (hh : hi < 256) (hj : j < 256) : has (span S.zero lo (hi + 1 - lo)) j = decide (lo ≤ j ∧ j ≤ hi) := by
  by_cases h : lo ≤ hi
  · rw [has_span _ _ _ _ (by omega) hj, has_zero, Bool.false_or]
    rw [decide_eq_decide]
    omega
  · rw [show hi + 1 - lo = 0 by omega]
    show has S.zero j = _
    rw [has_zero]
    symm
    rw [decide_eq_false_iff_not]
    omega
theorem has_fold (l : List (Nat × Nat)) (hl : ∀ r ∈ l, r.2 < 256) (j : Nat) (hj : j < 256) : ∀ s : S, has (l.foldl (fun s r => or s (span S.zero r.1 (r.2 + 1 - r.1))) s) j = true ↔ has s j = true ∨ ∃ r ∈ l, r.1 ≤ j ∧ j ≤ r.2 := by
  induction l with
  | nil => intro s; simp
  | cons r l ih =>
    intro s
    rw [List.foldl_cons, ih (fun r h => hl r (List.mem_cons_of_mem _ h)), has_or, has_range _ _ _ (hl r List.mem_cons_self) hj]
    simp only [Bool.or_eq_true, decide_eq_true_eq, List.mem_cons, exists_eq_or_imp, or_assoc]
theorem has_union {l : List (Nat × Nat)} (hl : ∀ r ∈ l, r.2 < 256) {j : Nat} (hj : j < 256) : has (unionS l) j = true ↔ ∃ r ∈ l, r.1 ≤ j ∧ j ≤ r.2 := by
  unfold unionS
  rw [has_fold l hl j hj]
  simp [has_zero]
theorem runs_lt {s : S} {r : Nat × Nat} (h : r ∈ runsS s) : r.1 ≤ r.2 ∧ r.2 < 256 := by
  obtain ⟨p, hp, rfl⟩ := List.mem_map.1 h
  obtain ⟨h1, _⟩ := mem_starts.1 hp
  have h2 := ext_le s p h1
  have h3 := ext_ge s p
  exact ⟨h3, by show rend s p < 256; omega⟩
theorem union_runs (s : S) (hs : s.wf) : unionS (runsS s) = s := by
  apply ext (wf_union _) hs
  intro j hj
  rw [Bool.eq_iff_iff, has_union (fun r h => (runs_lt h).2) hj]
  constructor
  · rintro ⟨r, hr, h1, h2⟩
    obtain ⟨p, hp, rfl⟩ := List.mem_map.1 hr
    exact ext_in (start_has (mem_starts.1 hp).2) h1 h2
  · intro h
    obtain ⟨pre, lo, e, h1, h2, h3⟩ := last_run s (j + 1) (by omega) h
    have hm : lo ∈ starts s (j + 1) := by rw [e]; simp
    obtain ⟨h4, h5⟩ := mem_starts.1 hm
    exact ⟨(lo, rend s lo), List.mem_map.2 ⟨lo, mem_starts.2 ⟨by omega, h5⟩, rfl⟩, by show lo ≤ j; omega, ext_max (by omega) fun i h6 h7 => h1 i h6 (by omega)⟩
theorem starts_sorted (s : S) (n : Nat) : (starts s n).Pairwise (· < ·) := List.Pairwise.filter _ List.pairwise_lt_range
/-- Between two runs lies a gap. -/
theorem runs_gap (s : S) : (runsS s).Pairwise fun a b => a.2 + 2 ≤ b.1 := by
  unfold runsS
  rw [List.pairwise_map]
  refine List.Pairwise.imp_of_mem ?_ (starts_sorted s 256)
  intro p q hp hq h
  obtain ⟨_, h1⟩ := mem_starts.1 hp
  obtain ⟨_, h2⟩ := mem_starts.1 hq
  rcases start_pre h2 with e | e
  · omega
  · have := ext_before h1 h e
    show rend s p + 2 ≤ q
    omega
theorem sub_length : ∀ (a b : List Nat), a.Nodup → (∀ x ∈ a, x ∈ b) → a.length ≤ b.length
  | [], b, _, _ => by simp
  | x :: a, b, h, hs => by
    obtain ⟨h1, h2⟩ := List.nodup_cons.1 h
    have hx := hs x List.mem_cons_self
    have := sub_length a (b.erase x) h2 fun y hy => (List.mem_erase_of_ne (fun e : y = x => h1 (by rw [← e]; exact hy))).2 (hs y (List.mem_cons_of_mem _ hy))
    rw [List.length_erase_of_mem hx] at this
    have hp : 0 < b.length := List.length_pos_of_mem hx
    simp only [List.length_cons]
    omega
/-- There are no more runs than came. -/
theorem runs_few (l : List (Nat × Nat)) (hl : ∀ r ∈ l, r.2 < 256) : (runsS (unionS l)).length ≤ l.length := by
  unfold runsS
  rw [List.length_map]
  have hn : (starts (unionS l) 256).Nodup := (starts_sorted _ _).imp fun h => by omega
  have := sub_length (starts (unionS l) 256) (l.map Prod.fst) hn fun p hp => by
    obtain ⟨h1, h2⟩ := mem_starts.1 hp
    obtain ⟨r, hr, h3, h4⟩ := (has_union hl h1).1 (start_has h2)
    refine List.mem_map.2 ⟨r, hr, ?_⟩
    rcases start_pre h2 with e | e
    · omega
    · rcases Nat.lt_or_ge r.1 p with h5 | h5
      · have : has (unionS l) (p - 1) = true := (has_union hl (by omega)).2 ⟨r, hr, by omega, by omega⟩
        rw [this] at e
        cases e
      · omega
  simpa using this
end Go.Proofs.Bs
