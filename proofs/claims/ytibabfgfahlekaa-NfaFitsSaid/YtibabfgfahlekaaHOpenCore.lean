/- Pruned from its seat's text: what the theorem hangs on. -/
import Derived.Test.YtibabfgfahlekaaHCore
import Derived.ProofKit
import Derived.OpenShut
import Derived.ShutString
import Derived.ChangeOld
import Derived.SizedLaws
import Derived.Deep.Slices
import Derived.Deep.Fields
/- A law's arguments, laid open: numbers, slices. -/
set_option linter.unusedVariables false
set_option linter.unusedSimpArgs false
namespace Go.Proofs.Ytibabfgfahlekaa
open Go.ChangeShapes Go.WideShapes Go.ChangeAt Go.RowKit Go.Deep

theorem laidOut : laidOutB Try.prog = true := by kernel_rfl
theorem ownKnob_none : ownKnob Try.prog.godebug = none := by kernel_rfl

section
variable {H : Type} {enc : TypeId × Value → H} {w : World} {base : Nat} {spare : Nat → Bool} {held : Bool}

theorem cellsInt : Try.prog.cellsOf 3 = 1 := by kernel_rfl
theorem open_i64 {fuel : Nat} {cs : List Value} {x : DataW H × List MemPlace} (h : DataW.trod enc Try.prog w base spare held fuel 3 cs = some x) : ∃ a : Int, cs = [.int .i64 a] ∧ -9223372036854775808 ≤ a ∧ a ≤ 9223372036854775807 := by
  obtain ⟨n, rfl, _, hw⟩ := DataW.trod_int Try.underlying3 h
  exact ⟨n, rfl, bounds_i64 hw⟩
/-- An argument that is a slice of elements of so many cells, each of which is laid open. -/
theorem open_list {α : Type} (f : α → List Value) (ok : α → Prop) {size : Nat} (hf : ∀ x, (f x).length = size) (z : α) {t e : TypeId} (ht : Try.prog.underlying t = some (.slice e)) (he : Try.prog.cellsOf e = size)
    (hopen : ∀ {fuel : Nat} {cs : List Value} {x : DataW H × List MemPlace}, DataW.trod enc Try.prog w base spare held fuel e cs = some x → ∃ n, cs = f n ∧ ok n)
    {A : Option Addr} {len cap : Nat} {d : DataW H} {ps : List MemPlace} (h : DataW.Trod enc Try.prog w base spare held t (.slice A len cap) d ps) :
    ∃ l : List α, Reads w size A len (l.flatMap f) ∧ len ≤ cap ∧ (∀ n ∈ l, ok n) ∧ (d = .nil ∧ len = 0 ∨ ∃ es sp, d = .slice es sp ∧ es.length = len) := by
  obtain ⟨fuel, h⟩ := h
  rcases open_slice ht h with ⟨hcs, hx⟩ | ⟨a, len', cap', m, n, D, Pl, hcs, _, hl, _, hm, hx, hi⟩
  · simp only [Value.cells] at hcs
    have hcs : Value.slice A len cap = .slice none 0 0 := by simpa using hcs
    injection hcs with h1 h2 h3
    subst h1 h2 h3
    injection hx with hx
    exact ⟨[], ⟨by simp, fun h => absurd h (by omega)⟩, by omega, (fun n hn => by cases hn), .inl ⟨hx, rfl⟩⟩
  · have hcs : Value.slice A len cap = .slice (some a) len' cap' := by simpa [Value.cells] using hcs
    injection hcs with h1 h2 h3
    subst h1 h2 h3
    have hlm : len ≤ m := by rw [hm]; split <;> omega
    rw [he] at hi
    have hex : ∀ i, ∃ n : α, i < m → ((∀ j u, (f n)[j]? = some u → w.cell? (a.add (i * size + j)) = some u) ∧ ok n) := by
      intro i
      by_cases him : i < m
      · obtain ⟨cs', hc, ht'⟩ := hi i him
        obtain ⟨n, rfl, hn⟩ := hopen ht'
        obtain ⟨_, hcl, hat⟩ := World.cells?_some hc
        refine ⟨n, fun _ => ⟨fun j u hu => ?_, hn⟩⟩
        have hj : j < size := by have := (List.getElem?_eq_some_iff.1 hu).1; rwa [hf] at this
        rw [← add_of_add, hat j hj]
        exact hu
      · exact ⟨z, fun h => absurd h him⟩
    have hch : ∃ g : Nat → α, ∀ i, i < m → ((∀ j u, (f (g i))[j]? = some u → w.cell? (a.add (i * size + j)) = some u) ∧ ok (g i)) := ⟨fun i => Classical.choose (hex i), fun i => Classical.choose_spec (hex i)⟩
    obtain ⟨g, hg⟩ := hch
    refine ⟨(List.range len).map g, ⟨?_, fun hp => ⟨a, rfl, fun j u hu => ?_⟩⟩, hl, ?_, .inr ⟨_, _, (Prod.mk.inj hx).1, by simp⟩⟩
    · rw [flat_length f size hf]; simp
    · have hjl := (List.getElem?_eq_some_iff.1 hu).1
      rw [flat_length f size hf, List.length_map, List.length_range] at hjl
      have hs : 0 < size := by
        rcases Nat.eq_zero_or_pos size with h0 | h0
        · rw [h0] at hjl; omega
        · exact h0
      have hq : j / size < len := Nat.div_lt_of_lt_mul (by rw [Nat.mul_comm]; exact hjl)
      have hr : j % size < size := Nat.mod_lt _ hs
      have hj : j = j / size * size + j % size := by rw [Nat.mul_comm]; exact (Nat.div_add_mod j size).symm
      have hel : ((List.range len).map g)[j / size]? = some (g (j / size)) := by simp [hq]
      rw [hj, flat_at f size hf _ _ _ hel _ hr] at hu
      rw [hj]
      exact (hg _ (by omega)).1 _ u hu
    · intro n hn
      obtain ⟨i, hi', rfl⟩ := List.mem_map.1 hn
      exact (hg i (by have := List.mem_range.1 hi'; omega)).2
end
end Go.Proofs.Ytibabfgfahlekaa
