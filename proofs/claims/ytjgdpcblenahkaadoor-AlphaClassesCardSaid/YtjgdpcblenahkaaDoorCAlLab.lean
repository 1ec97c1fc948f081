/- Pruned from its seat's text: what the theorem hangs on. -/
import Derived.Test.YtjgdpcblenahkaaDoorCAlPure
/- Plain mathematics of classes: what is told apart by labels. No program in sight. -/
set_option linter.unusedVariables false
namespace Go.Proofs.Al
section
variable {α : Type} [DecidableEq α] {β : Type} [DecidableEq β]

theorem run_snd_map (l : List α) : (run l).2 = l.map fun x => (run l).1.idxOf x := by
  refine snoc_ind (P := fun l : List α => (run l).2 = l.map fun x => (run l).1.idxOf x) rfl (fun l p ih => ?_) l
  rw [run_snoc, List.map_append]
  simp only [step]
  have hk : ∀ x ∈ l, (if p ∈ (run l).1 then (run l).1 else (run l).1 ++ [p]).idxOf x = (run l).1.idxOf x := by
    intro x hx
    split
    · rfl
    · rw [List.idxOf_append, if_pos ((run_mem l x).2 hx)]
  rw [ih]
  congr 1
  · exact (List.map_congr_left fun x hx => (hk x hx).symm)
  · simp only [List.map_cons, List.map_nil]
    split
    · rfl
    · rename_i h
      rw [List.idxOf_append, if_neg h, List.idxOf_eq_length h]
      simp
theorem run_le (l : List α) : ∀ n ∈ (run l).2, n ≤ l.length := by
  intro n hn
  rw [run_snd_map] at hn
  obtain ⟨p, hp, rfl⟩ := List.mem_map.1 hn
  have h1 := List.idxOf_lt_length_of_mem ((run_mem l p).2 hp)
  have h2 := run_few l
  omega
theorem idxOf_inj {l : List α} {x y : α} (hx : x ∈ l) (hy : y ∈ l) (h : l.idxOf x = l.idxOf y) : x = y := by
  have h1 := List.getElem_idxOf (List.idxOf_lt_length_of_mem hx)
  have h2 := List.getElem_idxOf (List.idxOf_lt_length_of_mem hy)
  rw [← h1, ← h2]
  congr 1
theorem run_get (l : List α) (i : Nat) (h : i < l.length) : (run l).2[i]'(by rw [run_len]; exact h) = (run l).1.idxOf l[i] := by
  have e := run_snd_map l
  have : (run l).2[i]? = some ((run l).1.idxOf l[i]) := by
    rw [e, List.getElem?_map, List.getElem?_eq_getElem h]
    rfl
  rw [List.getElem?_eq_getElem (by rw [run_len]; exact h)] at this
  exact Option.some.inj this
/-- Two places have one class just if they have one label. -/
theorem run_same (l : List α) (i j : Nat) (hi : i < l.length) (hj : j < l.length) : (run l).2[i]'(by rw [run_len]; exact hi) = (run l).2[j]'(by rw [run_len]; exact hj) ↔ l[i] = l[j] := by
  rw [run_get l i hi, run_get l j hj]
  constructor
  · exact idxOf_inj ((run_mem l _).2 (List.getElem_mem hi)) ((run_mem l _).2 (List.getElem_mem hj))
  · intro h; rw [h]
/-- The classes hang on nothing but on what is alike. -/
theorem firsts_pattern (p : List α) (q : List β) (hl : p.length = q.length) (h : ∀ i j (hi : i < p.length) (hj : j < p.length), p[i] = p[j] ↔ q[i]'(hl ▸ hi) = q[j]'(hl ▸ hj)) : firsts p = firsts q := by
  unfold firsts
  apply List.ext_getElem (by simp [hl])
  intro i h1 h2
  rw [List.length_map] at h1 h2
  rw [List.getElem_map, List.getElem_map]
  have a1 := List.idxOf_lt_length_of_mem (List.getElem_mem h1)
  have b1 := List.idxOf_lt_length_of_mem (List.getElem_mem h2)
  have a2 : p[p.idxOf p[i]] = p[i] := List.getElem_idxOf a1
  have b2 : q[q.idxOf q[i]] = q[i] := List.getElem_idxOf b1
  have le1 : p.idxOf p[i] ≤ q.idxOf q[i] := by
    have : p[q.idxOf q[i]]? = some p[i] := by
      rw [List.getElem?_eq_getElem (by omega)]
      exact congrArg some ((h _ _ (by omega) h1).2 b2)
    exact idxOf_le this
  have le2 : q.idxOf q[i] ≤ p.idxOf p[i] := by
    have : q[p.idxOf p[i]]? = some q[i] := by
      rw [List.getElem?_eq_getElem (by omega)]
      exact congrArg some ((h _ _ a1 h1).1 a2)
    exact idxOf_le this
  omega
theorem run_pattern (p : List α) (q : List β) (hl : p.length = q.length) (h : ∀ i j (hi : i < p.length) (hj : j < p.length), p[i] = p[j] ↔ q[i]'(hl ▸ hi) = q[j]'(hl ▸ hj)) : (run p).2 = (run q).2 ∧ (run p).1.length = (run q).1.length := by
  have e := firsts_pattern p q hl h
  have h1 := number_firsts p
  have h2 := number_firsts q
  rw [e, h2] at h1
  injection h1 with h3 h4
  exact ⟨h3.symm, h4.symm⟩
/-- The heads: the places that are the first of their kind. -/
def heads (L : Nat → α) (n : Nat) : List Nat := (List.range n).filter fun i => (List.range i).all fun j => decide (L j ≠ L i)
theorem heads_succ (L : Nat → α) (n : Nat) : heads L (n + 1) = heads L n ++ (if (List.range n).all (fun j => decide (L j ≠ L n)) = true then [n] else []) := by
  unfold heads
  rw [List.range_succ, List.filter_append]
  congr 1
  by_cases h : (List.range n).all (fun j => decide (L j ≠ L n)) = true
  · rw [if_pos h]; exact List.filter_cons_of_pos (p := fun i => (List.range i).all fun j => decide (L j ≠ L i)) h
  · rw [if_neg h]; exact List.filter_cons_of_neg (p := fun i => (List.range i).all fun j => decide (L j ≠ L i)) h
theorem mem_heads {L : Nat → α} {n i : Nat} : i ∈ heads L n ↔ i < n ∧ ∀ j, j < i → L j ≠ L i := by
  unfold heads
  rw [List.mem_filter, List.mem_range, List.all_eq_true]
  simp
theorem map_idxOf (L : Nat → α) (n i : Nat) (hi : i < n) : ((List.range n).map L).idxOf (L i) ≤ i ∧ L (((List.range n).map L).idxOf (L i)) = L i ∧ ∀ j, j < ((List.range n).map L).idxOf (L i) → L j ≠ L i := by
  have hm : L i ∈ (List.range n).map L := List.mem_map.2 ⟨i, List.mem_range.2 hi, rfl⟩
  have h1 := List.idxOf_lt_length_of_mem hm
  have h2 := List.getElem_idxOf h1
  have h3 : ((List.range n).map L)[i]? = some (L i) := by simp [hi]
  rw [List.getElem_map, List.getElem_range] at h2
  refine ⟨idxOf_le h3, h2, fun j hj e => ?_⟩
  have hl : ((List.range n).map L).length = n := by simp
  have h4 : ((List.range n).map L)[j]? = some (L i) := by
    rw [List.getElem?_eq_getElem (by omega)]
    simp [e]
  have := idxOf_le h4
  omega
end
end Go.Proofs.Al
