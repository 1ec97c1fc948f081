/- More that the walks share. -/
import Derived.Test.YtghkkganbhpbhaaBase
import Derived.Deep.Light
set_option linter.unusedVariables false
set_option linter.unusedSimpArgs false
namespace Go.Proofs.Ytghkkganbhpbhaa
open Go.RowKit Go.Proofs.Bs
theorem cell_alloc {w : World} {a : Addr} {v : Value} (h : w.cell? a = some v) (o : Obj) : (w.alloc o).cell? a = some v :=
  (World.cell?_alloc_lt w o a (World.block_lt_of_cell? w a h)).trans h
/-- 'xs[m:]' without a case on the capacity. -/
theorem cut_from {P : Program} (t e : TypeId) (kl : IntKind) {z : Value} {size bytes : Nat} (ht : P.underlying t = some (.slice e)) (hinfo : (P.info? e).map (fun i => (i.zero, i.size, i.bytes)) = some (some z, size, bytes)) (A : Option Addr) (n c : Nat) (mi : Int) (m : Nat) (hmi : mi = m) (hm : m ≤ n) (hc : n ≤ c) :
    ∃ A' : Option Addr, (∀ W : World, (Instr.slice t (.slice A n c) (some (.int kl mi)) none none).run P W = .ok (.slice A' (n - m) (c - m)) W) ∧
      ∀ (w : World) (xs : List Value), Reads w size A n xs → Reads w size A' (n - m) (xs.drop (m * size)) := by
  obtain ⟨i0, hi, hz0, hz1, hz2⟩ := info_parts hinfo
  subst hmi
  refine ⟨if c = m then A else A.map (·.add (m * size)), fun W => ?_, fun w xs h => ?_⟩
  · have hel : P.elem t = e := by simp [Program.elem, ht]
    have hu : P.underlying t = some (.slice (P.elem t)) := by rw [hel]; exact ht
    rw [run_slice_l W t A n c hu kl (m : Int) (Int.natCast_nonneg _) (by omega), hel]
    simp [sizeOf, typeInfo, hi, hz1, sliced, Result.andThen]
  · refine ⟨by rw [List.length_drop, h.1, Nat.sub_mul], fun hp => ?_⟩
    obtain ⟨ad, rfl, hcell⟩ := h.2 (by omega)
    rw [if_neg (by omega)]
    refine ⟨ad.add (m * size), rfl, fun j u hu => ?_⟩
    rw [add_of_add]
    exact hcell _ u (by rw [← hu, List.getElem?_drop])
theorem Reads.take {α : Type} {w : World} {size : Nat} {A : Option Addr} {n : Nat} (f : α → List Value) (hf : ∀ x, (f x).length = size) {l : List α} (hs : 0 < size) (h : Reads w size A n (l.flatMap f)) (m : Nat) (hm : m ≤ n) : Reads w size A m ((l.take m).flatMap f) := by
  have hl := h.length f hf hs
  refine ⟨by rw [flat_length f size hf, List.length_take, hl, Nat.min_eq_left hm], fun hp => ?_⟩
  obtain ⟨ad, e, hc⟩ := h.2 (by omega)
  refine ⟨ad, e, fun j u hu => hc j u ?_⟩
  have e1 : l.flatMap f = (l.take m).flatMap f ++ (l.drop m).flatMap f := by rw [← List.flatMap_append, List.take_append_drop]
  rw [e1, List.getElem?_append_left (List.getElem?_eq_some_iff.1 hu).1]
  exact hu
theorem own_take {w : World} {base n : Nat} {e : TypeId} {size : Nat} {A : Option Addr} {c : Nat} {xs : List Value} (h : w.ownsRow base e size (.slice A n c) n xs) (m : Nat) (hm : m ≤ n) : w.ownsRow base e size (.slice A m c) m (xs.take (m * size)) := by
  refine ⟨by rw [List.length_take, h.1]; exact Nat.min_eq_left (Nat.mul_le_mul_right _ hm), ?_⟩
  rcases h.2 with ⟨hv, hn⟩ | ⟨g, cap, cur, hv, hb, hh, hnc, hm', hs, ht⟩
  · left
    injection hv with h1 h2 h3
    subst h1 h3
    have : m = 0 := by omega
    subst this
    exact ⟨rfl, rfl⟩
  · right
    injection hv with h1 h2 h3
    subst h1 h3
    refine ⟨g, c, cur, rfl, hb, hh, by omega, hm', hs, ?_⟩
    rw [← ht, List.take_take, Nat.min_eq_left (Nat.mul_le_mul_right _ hm)]
end Go.Proofs.Ytghkkganbhpbhaa
