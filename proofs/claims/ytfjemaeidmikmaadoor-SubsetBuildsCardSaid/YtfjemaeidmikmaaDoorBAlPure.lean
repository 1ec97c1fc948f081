
namespace Go.Proofs.Al
theorem snoc_ind {β : Type} {P : List β → Prop} (h0 : P []) (h1 : ∀ l p, P l → P (l ++ [p])) (l : List β) : P l := by
  have h : ∀ m : List β, P m.reverse := by
    intro m
    induction m with
    | nil => exact h0
    | cons a m ih => rw [List.reverse_cons]; exact h1 _ _ ih
  have := h l.reverse
  rwa [List.reverse_reverse] at this
variable {α : Type} [DecidableEq α]
def pos (l : List α) (p : α) : Nat := l.idxOf p
theorem pos_old (s t : List α) {x : α} (h : x ∈ s) : pos (s ++ t) x = pos s x := by unfold pos; rw [List.idxOf_append, if_pos h]
theorem pos_new (s : List α) {x : α} (h : x ∉ s) : pos (s ++ [x]) x = s.length := by unfold pos; rw [List.idxOf_append, if_neg h]; simp
theorem pos_end {s : List α} {x : α} (h : x ∉ s) : pos s x = s.length := List.idxOf_eq_length h
def step (s : List α × List Nat) (p : α) : List α × List Nat := (if p ∈ s.1 then s.1 else s.1 ++ [p], s.2 ++ [s.1.idxOf p])
def run (l : List α) : List α × List Nat := l.foldl step ([], [])
theorem run_snoc (l : List α) (p : α) : run (l ++ [p]) = step (run l) p := by
  unfold run; rw [List.foldl_append]; rfl
theorem run_len (l : List α) : (run l).2.length = l.length := by
  refine snoc_ind (P := fun l : List α => (run l).2.length = l.length) rfl (fun l p ih => ?_) l
  rw [run_snoc]; simp [step, ih]
theorem run_mem (l : List α) : ∀ x : α, x ∈ (run l).1 ↔ x ∈ l := by
  refine snoc_ind (P := fun l => ∀ x : α, x ∈ (run l).1 ↔ x ∈ l) (fun x => Iff.rfl) (fun l p ih x => ?_) l
  rw [run_snoc]
  simp only [step]
  by_cases h : p ∈ (run l).1
  · rw [if_pos h, ih]
    refine ⟨List.mem_append_left _, fun k => ?_⟩
    rcases List.mem_append.1 k with k | k
    · exact k
    · rw [List.mem_singleton.1 k]; exact (ih p).1 h
  · rw [if_neg h]
    simp [ih]
theorem run_few (l : List α) : (run l).1.length ≤ l.length := by
  refine snoc_ind (P := fun l => (run l).1.length ≤ l.length) (Nat.le_refl _) (fun l p ih => ?_) l
  rw [run_snoc]
  simp only [step]
  split
  · simp; omega
  · simp; omega
theorem run_at (l : List α) : ∀ x ∈ l, (run l).2.getD (l.idxOf x) 0 = (run l).1.idxOf x := by
  refine snoc_ind (P := fun l => ∀ x ∈ l, (run l).2.getD (l.idxOf x) 0 = (run l).1.idxOf x) (fun x h => by cases h) (fun l p ih x hx => ?_) l
  rw [run_snoc, List.idxOf_append]
  simp only [step]
  by_cases hl : x ∈ l
  · rw [if_pos hl, List.getD_eq_getElem?_getD, List.getElem?_append_left (by rw [run_len]; exact List.idxOf_lt_length_of_mem hl), ← List.getD_eq_getElem?_getD, ih x hl]
    split
    · rfl
    · rw [List.idxOf_append, if_pos ((run_mem l x).2 hl)]
  · have hp : x = p := by
      rcases List.mem_append.1 hx with k | k
      · exact absurd k hl
      · exact List.mem_singleton.1 k
    subst hp
    rw [if_neg hl]
    have hn : x ∉ (run l).1 := fun k => hl ((run_mem l x).1 k)
    rw [if_neg hn, List.idxOf_append, if_neg hn, List.idxOf_eq_length hn]
    simp [run_len]
def firsts (l : List α) : List Nat := l.map (fun x => l.idxOf x)
theorem firsts_snoc (l : List α) (p : α) : firsts (l ++ [p]) = firsts l ++ [if p ∈ l then l.idxOf p else l.length] := by
  unfold firsts
  rw [List.map_append]
  congr 1
  · refine List.map_congr_left (fun x hx => ?_)
    rw [List.idxOf_append, if_pos hx]
  · simp only [List.map_cons, List.map_nil]
    rw [List.idxOf_append]
    split
    · rfl
    · simp
def numStep (s : List Nat × Nat) (f : Nat) : List Nat × Nat := if f = s.1.length then (s.1 ++ [s.2], s.2 + 1) else (s.1 ++ [s.1.getD f 0], s.2)
def number (F : List Nat) : List Nat × Nat := F.foldl numStep ([], 0)
theorem number_snoc (F : List Nat) (f : Nat) : number (F ++ [f]) = numStep (number F) f := by
  unfold number; rw [List.foldl_append]; rfl
theorem number_len (F : List Nat) : (number F).1.length = F.length := by
  refine snoc_ind (P := fun F => (number F).1.length = F.length) rfl (fun F f ih => ?_) F
  rw [number_snoc]; unfold numStep; split <;> simp [ih]
theorem number_firsts (l : List α) : number (firsts l) = ((run l).2, (run l).1.length) := by
  refine snoc_ind (P := fun l => number (firsts l) = ((run l).2, (run l).1.length)) rfl (fun l p ih => ?_) l
  rw [firsts_snoc, number_snoc, run_snoc, ih]
  simp only [numStep, step, run_len]
  by_cases h : p ∈ l
  · have h' := (run_mem l p).2 h
    rw [if_pos h, if_neg (by have := List.idxOf_lt_length_of_mem h; omega), if_pos h', run_at l p h]
  · have h' : p ∉ (run l).1 := fun k => h ((run_mem l p).1 k)
    rw [if_neg h, if_pos rfl, if_neg h', List.idxOf_eq_length h']
    simp
def firstAt (l : List Int) (c : Nat) : Int := if (c : Int) ∈ l then (l.idxOf (c : Int) : Nat) else -1
def firstsRow (m : Nat) (l : List Int) : List Int := (List.range m).map (firstAt l)
theorem firstsRow_len (m : Nat) (l : List Int) : (firstsRow m l).length = m := by simp [firstsRow]
theorem firstsRow_get (m : Nat) (l : List Int) (c : Nat) (h : c < m) : (firstsRow m l).getD c 0 = firstAt l c := by
  simp [firstsRow, h]
theorem firstAt_neg (l : List Int) (c : Nat) : firstAt l c < 0 ↔ (c : Int) ∉ l := by
  unfold firstAt; split
  · constructor
    · intro h; omega
    · intro h; contradiction
  · constructor
    · intro _; assumption
    · intro _; omega
theorem firstAt_snoc (l : List Int) (x : Int) (c : Nat) : firstAt (l ++ [x]) c = if (c : Int) ∈ l then firstAt l c else if (c : Int) = x then (l.length : Int) else -1 := by
  unfold firstAt
  rw [List.idxOf_append]
  by_cases h : (c : Int) ∈ l
  · simp [h]
  · by_cases hx : (c : Int) = x
    · subst hx; simp [h]
    · simp [h, hx]
theorem firstsRow_set (m : Nat) (l : List Int) (c : Nat) (hn : (c : Int) ∉ l) : firstsRow m (l ++ [(c : Int)]) = (firstsRow m l).set c (l.length : Int) := by
  refine List.ext_getElem (by simp [firstsRow]) (fun i h1 h2 => ?_)
  simp only [firstsRow, List.getElem_map, List.getElem_range, List.getElem_set]
  rw [firstAt_snoc]
  by_cases e : c = i
  · subst e; simp [hn]
  · rw [if_neg e]
    have e' : ¬ ((i : Int) = (c : Int)) := by omega
    rw [if_neg e']
    by_cases k : (i : Int) ∈ l
    · rw [if_pos k]
    · rw [if_neg k]; unfold firstAt; rw [if_neg k]
theorem firstsRow_same (m : Nat) (l : List Int) (x : Int) (h : x < 0 ∨ (m : Int) ≤ x ∨ x ∈ l) : firstsRow m (l ++ [x]) = firstsRow m l := by
  refine List.ext_getElem (by simp [firstsRow]) (fun i h1 h2 => ?_)
  simp only [firstsRow, List.getElem_map, List.getElem_range]
  rw [firstAt_snoc]
  have hi : i < m := by simpa [firstsRow] using h2
  by_cases k : (i : Int) ∈ l
  · rw [if_pos k]
  · rw [if_neg k]
    have e' : ¬ ((i : Int) = x) := by
      rintro rfl
      rcases h with h | h | h
      · omega
      · omega
      · exact k h
    rw [if_neg e']; unfold firstAt; rw [if_neg k]
theorem firstsRow_nil (m : Nat) : firstsRow m [] = List.replicate m (-1) := by
  refine List.ext_getElem (by simp [firstsRow]) (fun i h1 h2 => ?_)
  simp [firstsRow, firstAt]
theorem number_few (F : List Nat) : (number F).2 ≤ F.length := by
  refine snoc_ind (P := fun F => (number F).2 ≤ F.length) (Nat.le_refl _) (fun F f ih => ?_) F
  rw [number_snoc]; unfold numStep; split <;> simp <;> omega
theorem take_snoc {β : Type} {l : List β} {q : Nat} {x : β} (h : l[q]? = some x) : l.take (q + 1) = l.take q ++ [x] := by
  rw [List.take_add_one, h]; rfl
theorem firstsRow_snoc (m : Nat) (l : List Int) : firstsRow (m + 1) l = firstsRow m l ++ [firstAt l m] := by
  unfold firstsRow; rw [List.range_succ, List.map_append]; rfl
theorem idxOf_le {β : Type} [DecidableEq β] {l : List β} {a : Nat} {x : β} (h : l[a]? = some x) : l.idxOf x ≤ a := by
  induction l generalizing a with
  | nil => simp at h
  | cons y l ih =>
    rw [List.idxOf_cons]
    by_cases e : y = x
    · subst e; simp
    · rw [beq_false_of_ne e]
      cases a with
      | zero => simp at h; exact absurd h e
      | succ a =>
        simp only [cond_false]
        have := ih (a := a) (by simpa using h)
        omega
theorem firsts_le {β : Type} [DecidableEq β] {l : List β} {a f : Nat} (h : (firsts l)[a]? = some f) : f ≤ a := by
  unfold firsts at h
  rw [List.getElem?_map, Option.map_eq_some_iff] at h
  obtain ⟨x, h1, rfl⟩ := h
  exact idxOf_le h1
theorem row_step (a : List Nat) (m x : Nat) : (a ++ List.replicate (m + 1) 0).set a.length x = a ++ [x] ++ List.replicate m 0 := by
  rw [List.set_append_right _ _ (Nat.le_refl _), Nat.sub_self, List.replicate_succ, List.set_cons_zero, List.append_assoc]
  rfl
theorem run_snd {β : Type} [DecidableEq β] (l : List β) (p : β) : (run (l ++ [p])).2 = (run l).2 ++ [pos (run l).1 p] := by rw [run_snoc]; rfl
end Go.Proofs.Al
