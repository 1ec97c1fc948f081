/- Pruned from its seat's text: what the theorem hangs on. -/
import Derived.Test.YtibabfgfahlekaaBOpenCore
import Derived.Test.YtibabfgfahlekaaBQSets
import Derived.Lib.SmallJoins
/- Lists as the printed texts read them; sets and runs among a law's arguments. -/
set_option linter.unusedVariables false
set_option linter.unusedSimpArgs false
namespace Go.Proofs.YtibabfgfahlekaaQ
open Go.ChangeShapes Go.WideShapes Go.ChangeAt Go.RowKit Go.Deep Go.Proofs.Ytibabfgfahlekaa Go.Proofs.Bs
open Go.Proofs.YtibabfgfahlekaaW.PrintWords (Kd)
section
variable {H : Type} {enc : TypeId × Value → H} {w : World} {base : Nat} {spare : Nat → Bool} {held : Bool}
theorem kslice_le {t e : TypeId} (ht : Try.prog.underlying t = some (.slice e)) {A : Option Addr} {len cap : Nat} {d : DataW H} {ps : List MemPlace} (h : DataW.Trod enc Try.prog w base spare held t (.slice A len cap) d ps) : len ≤ 9223372036854775807 := by
  obtain ⟨fuel, h⟩ := h
  rcases open_slice ht h with ⟨hcs, hx⟩ | ⟨a, len', cap', m, n, D, Pl, hcs, _, hl, hm, _⟩
  · have hcs : Value.slice A len cap = .slice none 0 0 := by simpa [Value.cells] using hcs
    injection hcs with h1 h2 h3
    omega
  · have hcs : Value.slice A len cap = .slice (some a) len' cap' := by simpa [Value.cells] using hcs
    injection hcs with h1 h2 h3
    have : maxLen ≤ 9223372036854775807 := by simp only [maxLen]; omega
    omega
theorem kC_of {α : Type} (d : Kd α) (f : α → List Value) {size : Nat} (hs : d.sz = size) (hf : ∀ x, (f x).length = size) (hk : ∀ x, d.K w x (f x)) {A : Option Addr} {n : Nat} {l : List α} (hp : 0 < size) (h : Reads w size A n (l.flatMap f)) (hn : n ≤ 9223372036854775807) : Kd.C d w A n l := by
  subst hs
  refine ⟨Reads.length f hf hp h, by omega, fun h0 => ?_⟩
  obtain ⟨ad, e, hc⟩ := h.2 h0
  refine ⟨ad, e, fun j p hj => ⟨f p, hf p, hk p, fun i u hu => hc _ u ?_⟩⟩
  have hi := (List.getElem?_eq_some_iff.1 hu).1
  rw [hf] at hi
  rw [flat_at f d.sz hf l j p hj i hi]
  exact hu
theorem kcellsU64 : Try.prog.cellsOf 27 = 1 := by kernel_rfl
theorem kcellsSet : Try.prog.cellsOf 29 = 4 := by kernel_rfl
theorem kopen_u64 {fuel : Nat} {cs : List Value} {x : DataW H × List MemPlace} (h : DataW.trod enc Try.prog w base spare held fuel 27 cs = some x) : ∃ a : Int, cs = [.int .u64 a] ∧ 0 ≤ a ∧ a < 18446744073709551616 := by
  obtain ⟨n, rfl, _, hw⟩ := DataW.trod_int Try.underlying27 h
  have hb := bounds_u64 hw
  exact ⟨n, rfl, by omega, by omega⟩
theorem kopen_set {fuel : Nat} {cs : List Value} {x : DataW H × List MemPlace} (h : DataW.trod enc Try.prog w base spare held fuel 29 cs = some x) :
    ∃ s : S29, wfI s.f0 s.f1 s.f2 s.f3 ∧ cs = [.int .u64 s.f0, .int .u64 s.f1, .int .u64 s.f2, .int .u64 s.f3] := by
  obtain ⟨xs, m, _, _, hlen, hxl, hf⟩ := DataW.trod_array Try.underlying29 h
  rw [kcellsSet] at hlen
  simp only [kcellsU64, Nat.mul_one] at hf
  match cs, hlen, xs, hxl with
  | [c0, c1, c2, c3], _, [x0, x1, x2, x3], _ =>
    obtain ⟨a, ha, wa⟩ := kopen_u64 (by simpa using hf 0 (by omega))
    obtain ⟨b, hb, wb⟩ := kopen_u64 (by simpa using hf 1 (by omega))
    obtain ⟨c, hc, wc⟩ := kopen_u64 (by simpa using hf 2 (by omega))
    obtain ⟨d, hd, wd⟩ := kopen_u64 (by simpa using hf 3 (by omega))
    injection ha with ha
    injection hb with hb
    injection hc with hc
    injection hd with hd
    subst ha hb hc hd
    exact ⟨⟨a, b, c, d⟩, ⟨wa, wb, wc, wd⟩, rfl⟩
end
end Go.Proofs.YtibabfgfahlekaaQ
