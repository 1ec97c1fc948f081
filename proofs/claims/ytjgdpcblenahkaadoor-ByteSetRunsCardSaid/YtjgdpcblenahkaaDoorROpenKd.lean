/- Pruned from its seat's text: what the theorem hangs on. -/
import Derived.Test.YtjgdpcblenahkaaDoorROpenCore
import Derived.Test.YtjgdpcblenahkaaDoorRQSets
import Derived.Lib.SmallJoins
/- Lists as the printed texts read them; sets and runs among a law's arguments. -/
set_option linter.unusedVariables false
set_option linter.unusedSimpArgs false
namespace Go.Proofs.YtjgdpcblenahkaaDoorQ
open Go.ChangeShapes Go.WideShapes Go.ChangeAt Go.RowKit Go.Deep Go.Proofs.YtjgdpcblenahkaaDoor Go.Proofs.Bs
open Go.Proofs.YtjgdpcblenahkaaDoorW.PrintWords (Kd)
section
variable {H : Type} {enc : TypeId × Value → H} {w : World} {base : Nat} {spare : Nat → Bool} {held : Bool}
theorem kslice_le {t e : TypeId} (ht : Tryd.prog.underlying t = some (.slice e)) {A : Option Addr} {len cap : Nat} {d : DataW H} {ps : List MemPlace} (h : DataW.Trod enc Tryd.prog w base spare held t (.slice A len cap) d ps) : len ≤ 9223372036854775807 := by
  obtain ⟨fuel, h⟩ := h
  rcases open_slice ht h with ⟨hcs, hx⟩ | ⟨a, len', cap', m, n, D, Pl, hcs, _, hl, hm, _⟩
  · have hcs : Value.slice A len cap = .slice none 0 0 := by simpa [Value.cells] using hcs
    injection hcs with h1 h2 h3
    omega
  · have hcs : Value.slice A len cap = .slice (some a) len' cap' := by simpa [Value.cells] using hcs
    injection hcs with h1 h2 h3
    have : maxLen ≤ 9223372036854775807 := by simp only [maxLen]; omega
    omega
theorem kC_of {α : Type} (d : Kd α) (f : α → List Value) {size : Nat} (hs : d.sz = size) (hf : ∀ x, (f x).length = size) (hk : ∀ x, d.K w x (f x)) {A : Option Addr} {n : Nat} {l : List α} (hp : 0 < size) (h : Reads w size A n (l.flatMap f)) (hn : n ≤ 9223372036854775807) : Kd.C d w A n l := by
  subst hs
  refine ⟨Reads.length f hf hp h, by omega, fun h0 => ?_⟩
  obtain ⟨ad, e, hc⟩ := h.2 h0
  refine ⟨ad, e, fun j p hj => ⟨f p, hf p, hk p, fun i u hu => hc _ u ?_⟩⟩
  have hi := (List.getElem?_eq_some_iff.1 hu).1
  rw [hf] at hi
  rw [flat_at f d.sz hf l j p hj i hi]
  exact hu
end
end Go.Proofs.YtjgdpcblenahkaaDoorQ
