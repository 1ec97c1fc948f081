/- Pruned from its seat's text: what the theorem hangs on. -/
import Derived.Test.YtjgdpcblenahkaaDoorSOpenInts
import Derived.Test.YtjgdpcblenahkaaDoorSStCells
import Derived.Test.YtjgdpcblenahkaaDoorSNfImpl2
import Derived.Lib.SmallJoins
/- An argument that is an automaton, laid open; lists as the printed texts read them. -/
set_option linter.unusedVariables false
set_option linter.unusedSimpArgs false
namespace Go.Proofs.YtjgdpcblenahkaaDoorQ
open Go.ChangeShapes Go.WideShapes Go.ChangeAt Go.RowKit Go.Deep Go.Proofs.YtjgdpcblenahkaaDoor
open Go.Proofs.YtjgdpcblenahkaaDoorW.PrintWords (Kd)
section
variable {H : Type} {enc : TypeId × Value → H} {w : World} {base : Nat} {spare : Nat → Bool} {held : Bool}
theorem slice_le {t e : TypeId} (ht : Tryd.prog.underlying t = some (.slice e)) {A : Option Addr} {len cap : Nat} {d : DataW H} {ps : List MemPlace} (h : DataW.Trod enc Tryd.prog w base spare held t (.slice A len cap) d ps) : len ≤ 9223372036854775807 := by
  obtain ⟨fuel, h⟩ := h
  rcases open_slice ht h with ⟨hcs, hx⟩ | ⟨a, len', cap', m, n, D, Pl, hcs, _, hl, hm, _⟩
  · have hcs : Value.slice A len cap = .slice none 0 0 := by simpa [Value.cells] using hcs
    injection hcs with h1 h2 h3
    omega
  · have hcs : Value.slice A len cap = .slice (some a) len' cap' := by simpa [Value.cells] using hcs
    injection hcs with h1 h2 h3
    have : maxLen ≤ 9223372036854775807 := by simp only [maxLen]; omega
    omega
theorem C_of {α : Type} (d : Kd α) (f : α → List Value) {size : Nat} (hs : d.sz = size) (hf : ∀ x, (f x).length = size) (hk : ∀ x, d.K w x (f x)) {A : Option Addr} {n : Nat} {l : List α} (hp : 0 < size) (h : Reads w size A n (l.flatMap f)) (hn : n ≤ 9223372036854775807) : Kd.C d w A n l := by
  subst hs
  refine ⟨Reads.length f hf hp h, by omega, fun h0 => ?_⟩
  obtain ⟨ad, e, hc⟩ := h.2 h0
  refine ⟨ad, e, fun j p hj => ⟨f p, hf p, hk p, fun i u hu => hc _ u ?_⟩⟩
  have hi := (List.getElem?_eq_some_iff.1 hu).1
  rw [hf] at hi
  rw [flat_at f d.sz hf l j p hj i hi]
  exact hu
theorem cellsU64 : Tryd.prog.cellsOf 22 = 1 := by kernel_rfl
theorem cellsSet : Tryd.prog.cellsOf 24 = 4 := by kernel_rfl
theorem cellsSt : Tryd.prog.cellsOf 88 = 7 := by kernel_rfl
theorem open_u64 {fuel : Nat} {cs : List Value} {x : DataW H × List MemPlace} (h : DataW.trod enc Tryd.prog w base spare held fuel 22 cs = some x) : ∃ a : Int, cs = [.int .u64 a] ∧ 0 ≤ a ∧ a < 18446744073709551616 := by
  obtain ⟨n, rfl, _, hw⟩ := DataW.trod_int Tryd.underlying22 h
  have hb := bounds_u64 hw
  exact ⟨n, rfl, by omega, by omega⟩
theorem open_set {fuel : Nat} {cs : List Value} {x : DataW H × List MemPlace} (h : DataW.trod enc Tryd.prog w base spare held fuel 24 cs = some x) :
    ∃ s : S24, wfI s.f0 s.f1 s.f2 s.f3 ∧ cs = [.int .u64 s.f0, .int .u64 s.f1, .int .u64 s.f2, .int .u64 s.f3] := by
  obtain ⟨xs, m, _, _, hlen, hxl, hf⟩ := DataW.trod_array Tryd.underlying24 h
  rw [cellsSet] at hlen
  simp only [cellsU64, Nat.mul_one] at hf
  match cs, hlen, xs, hxl with
  | [c0, c1, c2, c3], _, [x0, x1, x2, x3], _ =>
    obtain ⟨a, ha, wa⟩ := open_u64 (by simpa using hf 0 (by omega))
    obtain ⟨b, hb, wb⟩ := open_u64 (by simpa using hf 1 (by omega))
    obtain ⟨c, hc, wc⟩ := open_u64 (by simpa using hf 2 (by omega))
    obtain ⟨d, hd, wd⟩ := open_u64 (by simpa using hf 3 (by omega))
    injection ha with ha
    injection hb with hb
    injection hc with hc
    injection hd with hd
    subst ha hb hc hd
    exact ⟨⟨a, b, c, d⟩, ⟨wa, wb, wc, wd⟩, rfl⟩
set_option maxRecDepth 100000 in
theorem open_st {fuel : Nat} {cs : List Value} {x : DataW H × List MemPlace} (h : DataW.trod enc Tryd.prog w base spare held fuel 88 cs = some x) : ∃ n : St, cs = stCells n ∧ wfSt n := by
  obtain ⟨xs, m, _, _, hlen, hxl, hf⟩ := DataW.trod_struct Tryd.underlying88 h
  rw [cellsSt] at hlen
  have hxl : xs.length = 4 := hxl
  match cs, hlen, xs, hxl with
  | [c0, c1, c2, c3, c4, c5, c6], _, [x0, x1, x2, x3], _ =>
    have h0 := hf 0 _ rfl
    have h1 := hf 1 _ rfl
    have h2 := hf 2 _ rfl
    have h3 := hf 3 _ rfl
    simp [cellsInt] at h0
    simp [cellsInt] at h1
    simp [cellsInt] at h2
    simp [cellsSet] at h3
    obtain ⟨k, hk, k0, k1⟩ := open_i64 h0
    obtain ⟨a, ha, l0, l1⟩ := open_i64 h1
    obtain ⟨b, hb, q0, q1⟩ := open_i64 h2
    obtain ⟨s, hs, hse⟩ := open_set h3
    obtain rfl : c0 = .int .i64 k := by simpa using hk
    obtain rfl : c1 = .int .i64 a := by simpa using ha
    obtain rfl : c2 = .int .i64 b := by simpa using hb
    obtain ⟨rfl, rfl, rfl, rfl⟩ : c3 = .int .u64 s.f0 ∧ c4 = .int .u64 s.f1 ∧ c5 = .int .u64 s.f2 ∧ c6 = .int .u64 s.f3 := by simpa using hse
    exact ⟨⟨k, a, b, s⟩, rfl, hs⟩
set_option maxRecDepth 100000 in
theorem open_nfa {r : Reach} {b0 : Nat} {v : Value} {d : DataW H} {p : List MemPlace} (hv : Value.okWide Tryd.prog w r b0 45 v) (h : DataW.Trod enc Tryd.prog w base spare held 45 v d p) :
    ∃ (A : Option Addr) (sts : List St) (c : Nat) (s f : Int), v = .agg #[.slice A sts.length c, .int .i64 s, .int .i64 f] ∧ Kd.C k88 w A sts.length sts ∧ sts.length ≤ c ∧ wfSts sts := by
  obtain ⟨v0, v1, v2, y0, y1, y2, n, rfl, hd, hp, h0, h1, h2⟩ := Joins.open_agg3 Tryd.underlying45 (by kernel_rfl) (by kernel_rfl) hv h
  obtain ⟨s, e1, x1, w1⟩ := DataW.trod_int Tryd.underlying3 h1
  obtain ⟨f, e2, x2, w2⟩ := DataW.trod_int Tryd.underlying3 h2
  injection e1 with e1
  injection e2 with e2
  subst e1 e2
  obtain ⟨A, len, cap, rfl⟩ : ∃ A len cap, v0 = .slice A len cap := by
    rcases open_slice Tryd.underlying43 h0 with ⟨hcs, hx⟩ | ⟨a, len', cap', m, n, D, Pl, hcs, _⟩
    · injection hcs with hcs
      exact ⟨_, _, _, hcs⟩
    · injection hcs with hcs
      exact ⟨_, _, _, hcs⟩
  have ht : DataW.Trod enc Tryd.prog w base spare held 43 (.slice A len cap) y0.1 y0.2 := ⟨n, by simpa [Value.cells] using h0⟩
  obtain ⟨l, hr, hl, hok, _⟩ := open_list stCells wfSt stCells_length z88 Tryd.underlying43 cellsSt open_st ht
  have hb := slice_le Tryd.underlying43 ht
  have hC : Kd.C k88 w A len l := C_of (size := 7) k88 stCells rfl stCells_length (fun x => k88_mk w x) (by omega) hr hb
  have hlen : l.length = len := hC.1
  subst hlen
  refine ⟨A, l, cap, s, f, rfl, hC, hl, fun i h0 h1 => ?_⟩
  have hi : i.toNat < l.length := by omega
  have e : rd_T88 l i = l[i.toNat] := by
    unfold rd_T88
    rw [List.getD_eq_getElem?_getD, List.getElem?_eq_getElem hi]
    rfl
  rw [e]
  exact hok _ (List.getElem_mem hi)
theorem open_kints {A : Option Addr} {len cap : Nat} {d : DataW H} {ps : List MemPlace} (h : DataW.Trod enc Tryd.prog w base spare held 46 (.slice A len cap) d ps) :
    ∃ l : List Int, Kd.C (Kd.int .i64) w A len l ∧ len ≤ cap ∧ ∀ x ∈ l, I64ok x := by
  obtain ⟨l, hr, hl, hok, _⟩ := open_list (fun x : Int => [Value.int .i64 x]) I64ok (fun _ => rfl) 0 Tryd.underlying46 cellsInt open_i64l h
  exact ⟨l, C_of (size := 1) (Kd.int .i64) (fun x : Int => [Value.int .i64 x]) rfl (fun _ => rfl) (fun x => rfl) (by omega) hr (slice_le Tryd.underlying46 h), hl, hok⟩
end
end Go.Proofs.YtjgdpcblenahkaaDoorQ
