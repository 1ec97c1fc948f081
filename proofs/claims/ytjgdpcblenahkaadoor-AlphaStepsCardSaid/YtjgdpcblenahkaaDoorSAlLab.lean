/- Pruned from its seat's text: what the theorem hangs on. -/
import Derived.Test.YtjgdpcblenahkaaDoorSAlPure
/- Plain mathematics of classes: what is told apart by labels. No program in sight. -/
set_option linter.unusedVariables false
namespace Go.Proofs.Al
section
variable {α : Type} [DecidableEq α] {β : Type} [DecidableEq β]

theorem run_snd_map (l : List α) : (run l).2 = l.map fun x => (run l).1.idxOf x := by
  refine snoc_ind (P := fun l : List α => (run l).2 = l.map fun x => (run l).1.idxOf x) rfl (fun l p ih => ?_) l
  rw [run_snoc, List.map_append]
  simp only [step]
  have hk : ∀ x ∈ l, (if p ∈ (run l).1 then (run l).1 else (run l).1 ++ [p]).idxOf x = (run l).1.idxOf x := by
    intro x hx
    split
    · rfl
    · rw [List.idxOf_append, if_pos ((run_mem l x).2 hx)]
  rw [ih]
  congr 1
  · exact (List.map_congr_left fun x hx => (hk x hx).symm)
  · simp only [List.map_cons, List.map_nil]
    split
    · rfl
    · rename_i h
      rw [List.idxOf_append, if_neg h, List.idxOf_eq_length h]
      simp
theorem run_le (l : List α) : ∀ n ∈ (run l).2, n ≤ l.length := by
  intro n hn
  rw [run_snd_map] at hn
  obtain ⟨p, hp, rfl⟩ := List.mem_map.1 hn
  have h1 := List.idxOf_lt_length_of_mem ((run_mem l p).2 hp)
  have h2 := run_few l
  omega
theorem idxOf_inj {l : List α} {x y : α} (hx : x ∈ l) (hy : y ∈ l) (h : l.idxOf x = l.idxOf y) : x = y := by
  have h1 := List.getElem_idxOf (List.idxOf_lt_length_of_mem hx)
  have h2 := List.getElem_idxOf (List.idxOf_lt_length_of_mem hy)
  rw [← h1, ← h2]
  congr 1
theorem run_get (l : List α) (i : Nat) (h : i < l.length) : (run l).2[i]'(by rw [run_len]; exact h) = (run l).1.idxOf l[i] := by
  have e := run_snd_map l
  have : (run l).2[i]? = some ((run l).1.idxOf l[i]) := by
    rw [e, List.getElem?_map, List.getElem?_eq_getElem h]
    rfl
  rw [List.getElem?_eq_getElem (by rw [run_len]; exact h)] at this
  exact Option.some.inj this
/-- Two places have one class just if they have one label. -/
theorem run_same (l : List α) (i j : Nat) (hi : i < l.length) (hj : j < l.length) : (run l).2[i]'(by rw [run_len]; exact hi) = (run l).2[j]'(by rw [run_len]; exact hj) ↔ l[i] = l[j] := by
  rw [run_get l i hi, run_get l j hj]
  constructor
  · exact idxOf_inj ((run_mem l _).2 (List.getElem_mem hi)) ((run_mem l _).2 (List.getElem_mem hj))
  · intro h; rw [h]
/-- The classes hang on nothing but on what is alike. -/
theorem firsts_pattern (p : List α) (q : List β) (hl : p.length = q.length) (h : ∀ i j (hi : i < p.length) (hj : j < p.length), p[i] = p[j] ↔ q[i]'(hl ▸ hi) = q[j]'(hl ▸ hj)) : firsts p = firsts q := by
  unfold firsts
  apply List.ext_getElem (by simp [hl])
  intro i h1 h2
  rw [List.length_map] at h1 h2
  rw [List.getElem_map, List.getElem_map]
  have a1 := List.idxOf_lt_length_of_mem (List.getElem_mem h1)
  have b1 := List.idxOf_lt_length_of_mem (List.getElem_mem h2)
  have a2 : p[p.idxOf p[i]] = p[i] := List.getElem_idxOf a1
  have b2 : q[q.idxOf q[i]] = q[i] := List.getElem_idxOf b1
  have le1 : p.idxOf p[i] ≤ q.idxOf q[i] := by
    have : p[q.idxOf q[i]]? = some p[i] := by
      rw [List.getElem?_eq_getElem (by omega)]
      exact congrArg some ((h _ _ (by omega) h1).2 b2)
    exact idxOf_le this
  have le2 : q.idxOf q[i] ≤ p.idxOf p[i] := by
    have : q[p.idxOf p[i]]? = some q[i] := by
      rw [List.getElem?_eq_getElem (by omega)]
      exact congrArg some ((h _ _ a1 h1).1 a2)
    exact idxOf_le this
  omega
theorem run_pattern (p : List α) (q : List β) (hl : p.length = q.length) (h : ∀ i j (hi : i < p.length) (hj : j < p.length), p[i] = p[j] ↔ q[i]'(hl ▸ hi) = q[j]'(hl ▸ hj)) : (run p).2 = (run q).2 ∧ (run p).1.length = (run q).1.length := by
  have e := firsts_pattern p q hl h
  have h1 := number_firsts p
  have h2 := number_firsts q
  rw [e, h2] at h1
  injection h1 with h3 h4
  exact ⟨h3.symm, h4.symm⟩
theorem sub_len : ∀ (a b : List α), a.Nodup → (∀ x ∈ a, x ∈ b) → a.length ≤ b.length
  | [], b, _, _ => by simp
  | x :: a, b, h, hs => by
    obtain ⟨h1, h2⟩ := List.nodup_cons.1 h
    have hx := hs x List.mem_cons_self
    have := sub_len a (b.erase x) h2 fun y hy => (List.mem_erase_of_ne (fun e : y = x => h1 (by rw [← e]; exact hy))).2 (hs y (List.mem_cons_of_mem _ hy))
    rw [List.length_erase_of_mem hx] at this
    have hp : 0 < b.length := List.length_pos_of_mem hx
    simp only [List.length_cons]
    omega
/-- So many different labels, so many classes at least. -/
theorem run_many (l m : List α) (hm : m.Nodup) (hs : ∀ x ∈ m, x ∈ l) : m.length ≤ (run l).1.length := sub_len m _ hm fun x hx => (run_mem l x).2 (hs x hx)
end
end Go.Proofs.Al
