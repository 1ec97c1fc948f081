/- Several short texts of this proof, one behind the other. -/
import Derived.Test.YtfjemaeidmikmaaDoorBCore
import Derived.Test.YtfjemaeidmikmaaDoorBAlPure
import Derived.ProofKit
import Derived.OpenShut
import Derived.ShutString
import Derived.ChangeOld
import Derived.SizedLaws
import Derived.Deep.Slices
import Derived.Deep.Fields
import Derived.Maps.OwnSet
import Derived.DeepKeys4
import Derived.MapViews
import Derived.Laws.BytesArg
import Derived.OwnWalk
import Derived.StringKeys
section
set_option linter.unusedVariables false
set_option linter.unusedSimpArgs false
namespace Go.Proofs.YtfjemaeidmikmaaDoor
open Go.RowKit
def casts (l : List Nat) : List Int := l.map Int.ofNat
theorem map_at {l : List (Int × Int)} {g : Int × Int → Int} {k : Nat} {x : Int} (h : (l.map g)[k]? = some x) : ∃ p, l[k]? = some p ∧ x = g p := by
  simp only [List.getElem?_map, Option.map_eq_some_iff] at h
  obtain ⟨y, h1, h2⟩ := h
  exact ⟨y, h1, h2.symm⟩
theorem ints_set (l : List Int) (k : Nat) (x : Int) : (ints l).set k (.int .i64 x) = ints (l.set k x) := by simp [ints, List.map_set]
end Go.Proofs.YtfjemaeidmikmaaDoor
end
section
set_option linter.unusedVariables false
namespace Go.Proofs.Al
section
variable {α : Type} [DecidableEq α] {β : Type} [DecidableEq β]
theorem run_snd_map (l : List α) : (run l).2 = l.map fun x => (run l).1.idxOf x := by
  refine snoc_ind (P := fun l : List α => (run l).2 = l.map fun x => (run l).1.idxOf x) rfl (fun l p ih => ?_) l
  rw [run_snoc, List.map_append]
  simp only [step]
  have hk : ∀ x ∈ l, (if p ∈ (run l).1 then (run l).1 else (run l).1 ++ [p]).idxOf x = (run l).1.idxOf x := by
    intro x hx
    split
    · rfl
    · rw [List.idxOf_append, if_pos ((run_mem l x).2 hx)]
  rw [ih]
  congr 1
  · exact (List.map_congr_left fun x hx => (hk x hx).symm)
  · simp only [List.map_cons, List.map_nil]
    split
    · rfl
    · rename_i h
      rw [List.idxOf_append, if_neg h, List.idxOf_eq_length h]
      simp
theorem run_le (l : List α) : ∀ n ∈ (run l).2, n ≤ l.length := by
  intro n hn
  rw [run_snd_map] at hn
  obtain ⟨p, hp, rfl⟩ := List.mem_map.1 hn
  have h1 := List.idxOf_lt_length_of_mem ((run_mem l p).2 hp)
  have h2 := run_few l
  omega
theorem idxOf_inj {l : List α} {x y : α} (hx : x ∈ l) (hy : y ∈ l) (h : l.idxOf x = l.idxOf y) : x = y := by
  have h1 := List.getElem_idxOf (List.idxOf_lt_length_of_mem hx)
  have h2 := List.getElem_idxOf (List.idxOf_lt_length_of_mem hy)
  rw [← h1, ← h2]
  congr 1
theorem run_get (l : List α) (i : Nat) (h : i < l.length) : (run l).2[i]'(by rw [run_len]; exact h) = (run l).1.idxOf l[i] := by
  have e := run_snd_map l
  have : (run l).2[i]? = some ((run l).1.idxOf l[i]) := by
    rw [e, List.getElem?_map, List.getElem?_eq_getElem h]
    rfl
  rw [List.getElem?_eq_getElem (by rw [run_len]; exact h)] at this
  exact Option.some.inj this
theorem run_same (l : List α) (i j : Nat) (hi : i < l.length) (hj : j < l.length) : (run l).2[i]'(by rw [run_len]; exact hi) = (run l).2[j]'(by rw [run_len]; exact hj) ↔ l[i] = l[j] := by
  rw [run_get l i hi, run_get l j hj]
  constructor
  · exact idxOf_inj ((run_mem l _).2 (List.getElem_mem hi)) ((run_mem l _).2 (List.getElem_mem hj))
  · intro h; rw [h]
theorem firsts_pattern (p : List α) (q : List β) (hl : p.length = q.length) (h : ∀ i j (hi : i < p.length) (hj : j < p.length), p[i] = p[j] ↔ q[i]'(hl ▸ hi) = q[j]'(hl ▸ hj)) : firsts p = firsts q := by
  unfold firsts
  apply List.ext_getElem (by simp [hl])
  intro i h1 h2
  rw [List.length_map] at h1 h2
  rw [List.getElem_map, List.getElem_map]
  have a1 := List.idxOf_lt_length_of_mem (List.getElem_mem h1)
  have b1 := List.idxOf_lt_length_of_mem (List.getElem_mem h2)
  have a2 : p[p.idxOf p[i]] = p[i] := List.getElem_idxOf a1
  have b2 : q[q.idxOf q[i]] = q[i] := List.getElem_idxOf b1
  have le1 : p.idxOf p[i] ≤ q.idxOf q[i] := by
    have : p[q.idxOf q[i]]? = some p[i] := by
      rw [List.getElem?_eq_getElem (by omega)]
      exact congrArg some ((h _ _ (by omega) h1).2 b2)
    exact idxOf_le this
  have le2 : q.idxOf q[i] ≤ p.idxOf p[i] := by
    have : q[p.idxOf p[i]]? = some q[i] := by
      rw [List.getElem?_eq_getElem (by omega)]
      exact congrArg some ((h _ _ a1 h1).1 a2)
    exact idxOf_le this
  omega
theorem run_pattern (p : List α) (q : List β) (hl : p.length = q.length) (h : ∀ i j (hi : i < p.length) (hj : j < p.length), p[i] = p[j] ↔ q[i]'(hl ▸ hi) = q[j]'(hl ▸ hj)) : (run p).2 = (run q).2 ∧ (run p).1.length = (run q).1.length := by
  have e := firsts_pattern p q hl h
  have h1 := number_firsts p
  have h2 := number_firsts q
  rw [e, h2] at h1
  injection h1 with h3 h4
  exact ⟨h3.symm, h4.symm⟩
theorem run_nodup (l : List α) : (run l).1.Nodup := by
  refine snoc_ind (P := fun l : List α => (run l).1.Nodup) List.nodup_nil (fun l p ih => ?_) l
  rw [run_snoc]
  simp only [step]
  split
  · exact ih
  · rename_i h
    exact List.nodup_append.2 ⟨ih, by simp, fun x hx y hy e => by
      rw [List.mem_singleton] at hy
      subst hy e
      exact h hx⟩
def heads (L : Nat → α) (n : Nat) : List Nat := (List.range n).filter fun i => (List.range i).all fun j => decide (L j ≠ L i)
theorem heads_succ (L : Nat → α) (n : Nat) : heads L (n + 1) = heads L n ++ (if (List.range n).all (fun j => decide (L j ≠ L n)) = true then [n] else []) := by
  unfold heads
  rw [List.range_succ, List.filter_append]
  congr 1
  by_cases h : (List.range n).all (fun j => decide (L j ≠ L n)) = true
  · rw [if_pos h]; exact List.filter_cons_of_pos (p := fun i => (List.range i).all fun j => decide (L j ≠ L i)) h
  · rw [if_neg h]; exact List.filter_cons_of_neg (p := fun i => (List.range i).all fun j => decide (L j ≠ L i)) h
theorem mem_heads {L : Nat → α} {n i : Nat} : i ∈ heads L n ↔ i < n ∧ ∀ j, j < i → L j ≠ L i := by
  unfold heads
  rw [List.mem_filter, List.mem_range, List.all_eq_true]
  simp
theorem map_idxOf (L : Nat → α) (n i : Nat) (hi : i < n) : ((List.range n).map L).idxOf (L i) ≤ i ∧ L (((List.range n).map L).idxOf (L i)) = L i ∧ ∀ j, j < ((List.range n).map L).idxOf (L i) → L j ≠ L i := by
  have hm : L i ∈ (List.range n).map L := List.mem_map.2 ⟨i, List.mem_range.2 hi, rfl⟩
  have h1 := List.idxOf_lt_length_of_mem hm
  have h2 := List.getElem_idxOf h1
  have h3 : ((List.range n).map L)[i]? = some (L i) := by simp [hi]
  rw [List.getElem_map, List.getElem_range] at h2
  refine ⟨idxOf_le h3, h2, fun j hj e => ?_⟩
  have hl : ((List.range n).map L).length = n := by simp
  have h4 : ((List.range n).map L)[j]? = some (L i) := by
    rw [List.getElem?_eq_getElem (by omega)]
    simp [e]
  have := idxOf_le h4
  omega
end
end Go.Proofs.Al
end
section
set_option linter.unusedVariables false
set_option linter.unusedSimpArgs false
namespace Go.Proofs.YtfjemaeidmikmaaDoor
open Go.ChangeShapes Go.WideShapes Go.ChangeAt Go.RowKit Go.Deep
theorem laidOut : laidOutB Tryd.prog = true := by kernel_rfl
theorem ownKnob_none : ownKnob Tryd.prog.godebug = none := by kernel_rfl
section
variable {H : Type} {enc : TypeId × Value → H} {w : World} {base : Nat} {spare : Nat → Bool} {held : Bool}
theorem cellsInt : Tryd.prog.cellsOf 3 = 1 := by kernel_rfl
theorem open_i64 {fuel : Nat} {cs : List Value} {x : DataW H × List MemPlace} (h : DataW.trod enc Tryd.prog w base spare held fuel 3 cs = some x) : ∃ a : Int, cs = [.int .i64 a] ∧ -9223372036854775808 ≤ a ∧ a ≤ 9223372036854775807 := by
  obtain ⟨n, rfl, _, hw⟩ := DataW.trod_int Tryd.underlying3 h
  exact ⟨n, rfl, bounds_i64 hw⟩
theorem open_list {α : Type} (f : α → List Value) (ok : α → Prop) {size : Nat} (hf : ∀ x, (f x).length = size) (z : α) {t e : TypeId} (ht : Tryd.prog.underlying t = some (.slice e)) (he : Tryd.prog.cellsOf e = size)
    (hopen : ∀ {fuel : Nat} {cs : List Value} {x : DataW H × List MemPlace}, DataW.trod enc Tryd.prog w base spare held fuel e cs = some x → ∃ n, cs = f n ∧ ok n)
    {A : Option Addr} {len cap : Nat} {d : DataW H} {ps : List MemPlace} (h : DataW.Trod enc Tryd.prog w base spare held t (.slice A len cap) d ps) :
    ∃ l : List α, Reads w size A len (l.flatMap f) ∧ len ≤ cap ∧ (∀ n ∈ l, ok n) ∧ (d = .nil ∧ len = 0 ∨ ∃ es sp, d = .slice es sp ∧ es.length = len) := by
  obtain ⟨fuel, h⟩ := h
  rcases open_slice ht h with ⟨hcs, hx⟩ | ⟨a, len', cap', m, n, D, Pl, hcs, _, hl, _, hm, hx, hi⟩
  · simp only [Value.cells] at hcs
    have hcs : Value.slice A len cap = .slice none 0 0 := by simpa using hcs
    injection hcs with h1 h2 h3
    subst h1 h2 h3
    injection hx with hx
    exact ⟨[], ⟨by simp, fun h => absurd h (by omega)⟩, by omega, (fun n hn => by cases hn), .inl ⟨hx, rfl⟩⟩
  · have hcs : Value.slice A len cap = .slice (some a) len' cap' := by simpa [Value.cells] using hcs
    injection hcs with h1 h2 h3
    subst h1 h2 h3
    have hlm : len ≤ m := by rw [hm]; split <;> omega
    rw [he] at hi
    have hex : ∀ i, ∃ n : α, i < m → ((∀ j u, (f n)[j]? = some u → w.cell? (a.add (i * size + j)) = some u) ∧ ok n) := by
      intro i
      by_cases him : i < m
      · obtain ⟨cs', hc, ht'⟩ := hi i him
        obtain ⟨n, rfl, hn⟩ := hopen ht'
        obtain ⟨_, hcl, hat⟩ := World.cells?_some hc
        refine ⟨n, fun _ => ⟨fun j u hu => ?_, hn⟩⟩
        have hj : j < size := by have := (List.getElem?_eq_some_iff.1 hu).1; rwa [hf] at this
        rw [← add_of_add, hat j hj]
        exact hu
      · exact ⟨z, fun h => absurd h him⟩
    have hch : ∃ g : Nat → α, ∀ i, i < m → ((∀ j u, (f (g i))[j]? = some u → w.cell? (a.add (i * size + j)) = some u) ∧ ok (g i)) := ⟨fun i => Classical.choose (hex i), fun i => Classical.choose_spec (hex i)⟩
    obtain ⟨g, hg⟩ := hch
    refine ⟨(List.range len).map g, ⟨?_, fun hp => ⟨a, rfl, fun j u hu => ?_⟩⟩, hl, ?_, .inr ⟨_, _, (Prod.mk.inj hx).1, by simp⟩⟩
    · rw [flat_length f size hf]; simp
    · have hjl := (List.getElem?_eq_some_iff.1 hu).1
      rw [flat_length f size hf, List.length_map, List.length_range] at hjl
      have hs : 0 < size := by
        rcases Nat.eq_zero_or_pos size with h0 | h0
        · rw [h0] at hjl; omega
        · exact h0
      have hq : j / size < len := Nat.div_lt_of_lt_mul (by rw [Nat.mul_comm]; exact hjl)
      have hr : j % size < size := Nat.mod_lt _ hs
      have hj : j = j / size * size + j % size := by rw [Nat.mul_comm]; exact (Nat.div_add_mod j size).symm
      have hel : ((List.range len).map g)[j / size]? = some (g (j / size)) := by simp [hq]
      rw [hj, flat_at f size hf _ _ _ hel _ hr] at hu
      rw [hj]
      exact (hg _ (by omega)).1 _ u hu
    · intro n hn
      obtain ⟨i, hi', rfl⟩ := List.mem_map.1 hn
      exact (hg i (by have := List.mem_range.1 hi'; omega)).2
end
end Go.Proofs.YtfjemaeidmikmaaDoor
end
section
set_option linter.unusedVariables false
set_option linter.unusedSimpArgs false
set_option maxRecDepth 100000
namespace Go.Proofs.YtfjemaeidmikmaaDoor
open Go.RowKit Go.Maps
theorem pair_row : (100 : TypeId) < Tryd.prog.types.size := of_decide_eq_true (by kernel_rfl)
theorem pair_wide : (match Tryd.prog.underlying 100 with | some (.array _ _) | some (.struct _) => true | _ => false) = true := by rw [Tryd.underlying100]
theorem pair_law : WideMaps.KeyLaw Tryd.prog 100 := deep_law_laid laidOut (m := 2) (by omega) pair_row (by kernel_rfl) pair_wide
theorem pair_keyed : Keyed Tryd.prog 100 := Keyed.of_law pair_law
theorem zero_int (w : World) : (zeroValue 3).run Tryd.prog w = .ok (.int .i64 0) w := by kernel_rfl
theorem pair_cells : Tryd.prog.cellsOf 100 = 2 := by kernel_rfl
theorem int_cells : Tryd.prog.cellsOf 3 = 1 := by kernel_rfl
theorem pair_type : Tryd.prog.keyType 100 = true := by kernel_rfl
def okP (p : Int × Int) : Prop := (Lit.int .i64 p.1).wf = true ∧ (Lit.int .i64 p.2).wf = true
noncomputable def pv (p : Int × Int) : Value := .agg #[.int .i64 p.1, .int .i64 p.2]
noncomputable def pk (p : Int × Int) : Lit := (keyOf Tryd.prog 100 (pv p)).getD (.bool true)
theorem pair_formed (p : Int × Int) : (pv p).formed Tryd.prog 100 = true := by simp [pv, Value.formed, Tryd.underlying100, pair_cells]
theorem pair_key (p : Int × Int) (h : okP p) : keyOf Tryd.prog 100 (pv p) = some (pk p) := by
  obtain ⟨h1, h2⟩ := h
  have : ∃ l, keyOf Tryd.prog 100 (pv p) = some l := by
    obtain ⟨m, hm⟩ : ∃ m, Tryd.prog.types.size = m + 1 := ⟨Tryd.prog.types.size - 1, (Nat.sub_add_cancel (show 1 ≤ Tryd.prog.types.size from Nat.lt_of_le_of_lt (Nat.zero_le _) pair_row)).symm⟩
    unfold keyOf
    rw [pair_type, pair_formed, hm]
    simp [Tryd.underlying100, Tryd.underlying3, Program.keyLits, pair_cells, int_cells, pv, Value.cells, h1, h2]
  obtain ⟨l, hl⟩ := this
  unfold pk
  rw [hl]
  rfl
theorem pk_inj {p q : Int × Int} (hp : okP p) (hq : okP q) (h : pk p = pk q) : p = q := by
  have := pair_keyed.inj (pair_key p hp) (h ▸ pair_key q hq)
  simp only [pv, Value.agg.injEq, Array.mk.injEq, List.cons.injEq, Value.int.injEq, true_and, and_true] at this
  exact Prod.ext this.1 this.2
theorem pk_lit {p : Int × Int} (hp : okP p) : WideAt.IsKeyLit (pk p) := pair_keyed.key (pair_key p hp)
structure MapIs (D : DataW Unit) (l : List (Int × Int)) : Prop where
  has : ∀ p, okP p → Maps.has D (pk p) = decide (p ∈ l)
  atKey : ∀ p, okP p → p ∈ l → D.atKey (pk p) (.lit (.int .i64 0)) = .lit (.int .i64 (Al.pos (Al.run l).1 p : Nat))
  size : Maps.size D = (Al.run l).1.length
theorem MapIs.nil : MapIs (.map []) [] := ⟨fun p _ => by simp [Maps.has], (fun p _ h => by cases h), rfl⟩
theorem run_old {l : List (Int × Int)} {p : Int × Int} (h : p ∈ l) : (Al.run (l ++ [p])).1 = (Al.run l).1 := by
  rw [Al.run_snoc]
  simp only [Al.step]
  rw [if_pos ((Al.run_mem l p).2 h)]
theorem run_new {l : List (Int × Int)} {p : Int × Int} (h : p ∉ l) : (Al.run (l ++ [p])).1 = (Al.run l).1 ++ [p] := by
  rw [Al.run_snoc]
  simp only [Al.step]
  rw [if_neg fun k => h ((Al.run_mem l p).1 k)]
theorem MapIs.old {D : DataW Unit} {l : List (Int × Int)} (h : MapIs D l) {p : Int × Int} (hp : p ∈ l) : MapIs D (l ++ [p]) := by
  refine ⟨fun q hq => ?_, fun q hq hm => ?_, ?_⟩
  · rw [h.has q hq]
    by_cases e : q ∈ l
    · simp [e]
    · have : q ≠ p := fun k => e (k ▸ hp)
      simp [e, this]
  · rw [run_old hp]
    refine h.atKey q hq ?_
    rcases List.mem_append.1 hm with k | k
    · exact k
    · rw [List.mem_singleton.1 k]; exact hp
  · rw [run_old hp]; exact h.size
theorem MapIs.new {D : DataW Unit} (hT : Tidy D) {l : List (Int × Int)} (h : MapIs D l) {p : Int × Int} (ok : okP p) (hp : p ∉ l) {c : Int} (hc : c = (Al.run l).1.length) : MapIs (D.put (pk p) (.lit (.int .i64 c))) (l ++ [p]) := by
  subst hc
  refine ⟨fun q hq => ?_, fun q hq hm => ?_, ?_⟩
  · by_cases e : q = p
    · subst e
      rw [Maps.has_put_same hT.isMap (pk_lit ok)]
      simp
    · rw [Maps.has_put_other (fun k => e (pk_inj hq ok k)), h.has q hq]
      simp [e]
  · rw [run_new hp]
    by_cases e : q = p
    · subst e
      rw [Maps.atKey_put_same hT.isMap (pk_lit ok)]
      rw [Al.pos_new _ fun k => hp ((Al.run_mem l q).1 k)]
    · have hql : q ∈ l := by
        rcases List.mem_append.1 hm with k | k
        · exact k
        · exact absurd (List.mem_singleton.1 k) e
      rw [Maps.atKey_put_other (fun k => e (pk_inj hq ok k)), h.atKey q hq hql]
      rw [Al.pos_old _ _ ((Al.run_mem l q).2 hql)]
  · rw [run_new hp, Maps.size_put hT, h.has p ok, h.size]
    simp [hp]
end Go.Proofs.YtfjemaeidmikmaaDoor
end
section
set_option linter.unusedVariables false
set_option linter.unusedSimpArgs false
namespace Go.Proofs.YtfjemaeidmikmaaDoor
open Go.RowKit
def keyOne (s : Int) : List Int := [s / 256, s % 256]
def keyL (l : List Int) : List Int := l.flatMap keyOne
def u8s (l : List Int) : List Value := l.map (Value.int .u8)
theorem keyL_len (l : List Int) : (keyL l).length = 2 * l.length := by
  induction l with
  | nil => rfl
  | cons s l ih => show (keyOne s ++ keyL l).length = _; rw [List.length_append, ih]; simp [keyOne]; omega
theorem info_u8k : (Tryd.prog.info? 5).map (fun i => (i.zero, i.size, i.bytes)) = some (some (.int .u8 0), 1, 1) := by kernel_rfl
theorem take_snoc' {l : List Int} {k : Nat} {x : Int} (h : l[k]? = some x) : l.take (k + 1) = l.take k ++ [x] := by
  rw [List.take_add_one, h]
  rfl
theorem cells_u8 (w : World) (base : Nat) (g : Nat) (cap : Nat) (xs : List Int) (n : Nat) (hn : xs.length = n) (HO : w.ownsRow base 5 1 (.slice (some ⟨g, 0, none⟩) n cap) n (u8s xs)) :
    ∀ i, i < n → w.cell? ⟨g, 0 + i, none⟩ = some (.int .u8 (xs.getD i 0)) := by
  intro i hi
  have := HO.cellAt i (by omega)
  rw [Nat.zero_add, this]
  simp [u8s, List.getD_eq_getElem?_getD, List.getElem?_eq_getElem (show i < xs.length by omega)]
set_option maxRecDepth 100000 in
theorem conv_u8 (w : World) (base : Nat) (A : Option Addr) (c : Nat) (xs : List Int) (n : Nat) (hn : xs.length = n) (HO : w.ownsRow base 5 1 (.slice A n c) n (u8s xs)) :
    (convert 83 9 (.slice A n c)).run Tryd.prog w = .ok (.string (strOfNums xs)) w := by
  rcases HO.2 with ⟨h1, h2⟩ | ⟨g, cap, cur, h1, _⟩
  · injection h1 with h1 h3 h4
    subst h1
    obtain rfl : xs = [] := List.eq_nil_of_length_eq_zero (by omega)
    rw [run_convert_bytes_nil w 83 5 Tryd.underlying83 Tryd.underlying5 _ _ _ Tryd.underlying9]
    rfl
  · injection h1 with h1 h3 h4
    subst h1
    exact run_convert_bytes_arg w 83 5 Tryd.underlying83 Tryd.underlying5 g 0 n c xs hn (cells_u8 w base g c xs n hn HO) _ Tryd.underlying9
set_option maxRecDepth 100000 in
set_option maxHeartbeats 3200000 in
theorem key_any (A : Option Addr) (n c : Nat) (l : List Int) (w : World) (h : Reads w 1 A n (ints l)) (hn : n ≤ 1000000) (hok : ∀ x ∈ l, 0 ≤ x ∧ x < 65536) :
    Calls Tryd.prog 61 #[.slice A n c] w fun e w' => e = .returned (.string (strOfNums (keyL l))) ∧ Below w.heap.size w w' := by
  have hl : l.length = n := by have := h.1; rw [ints_length] at this; omega
  have HL := Lib.hid hl
  have HOK := Lib.hid hok
  clear hl hok
  obtain ⟨i0, hi, hz0, hz1, hz2⟩ := info_parts info_u8k
  go_enter Tryd.func61, Tryd.ntmps61
  go_wp2_with (at_make; refine wpList_make_own _ rfl _ _ 83 rfl w.heap.size 5 i0 (.int .u8 0) 1 Tryd.underlying83 hi hz0 hz1 _ _ _ (2 * n) rfl rfl (by omega) (by rw [hz2]; omega) (by unfold maxLen; omega) (Nat.le_refl _) ?_; intro w2 HO2 hg2)
  have hb2 : Below w.heap.size w w2 := (Below.refl _ _).grown hg2 (Nat.le_refl _) (fun j hj => by cases hj)
  clear hg2
  go_loopw [3, 5, 12] (fun b_ _ k_ wr => ∃ (k : Nat) (B1 : Option Addr) (c1 : Nat), k_ = .int .i64 k ∧ k ≤ n ∧ b_ = .slice B1 (2 * k) c1 ∧ wr.ownsRow w.heap.size 5 1 (.slice B1 (2 * k) c1) (2 * k) (u8s (keyL (l.take k))) ∧ Below w.heap.size w wr) (fun _ _ k_ _ => n - (intOf k_).toNat)
  case atStart => exact ⟨0, _, _, rfl, by omega, rfl, HO2, hb2⟩
  case round =>
    clear HO2 hb2
    obtain ⟨k, B1, c1, rfl, hk, rfl, HO, hb⟩ := hrel
    by_cases hlt : k < n
    · obtain ⟨ad, x, rfl, hx, cx⟩ := (h.below hb).int hlt
      obtain ⟨x0, x1⟩ := HOK.out x (List.mem_of_getElem? hx)
      have htk := take_snoc' hx
      have HT := Lib.hid htk
      have hkn : (k : Int) < n := by omega
      clear hx htk
      go_wp2_with (at_builtin; refine app_lit rfl (.tmp 16) (.tmp 22) 83 rfl w.heap.size 5 Tryd.underlying83 info_u8k rfl (by omega) (by omega) _ (2 * k) (u8s (keyL (l.take k))) rfl HO [.int .u8 (x / 256), .int .u8 (x % 256)] 2 2 rfl rfl rfl (by omega) hb (Nat.le_refl _) hb.size ?_; intro A3 c3 w3 HO3 hg3 hb3)
      go_roundw
      case rel =>
        refine ⟨k + 1, A3, c3, by go_num, by omega, rfl, ?_, hb3⟩
        rw [HT.out]
        simpa [u8s, keyL, keyOne, Nat.mul_add] using HO3
      case measure => simp [intOf] <;> omega
    · obtain rfl : k = n := by omega
      have e : l.take k = l := List.take_of_length_le (by rw [HL.out]; omega)
      rw [e] at HO
      have kc := conv_u8 wr w.heap.size B1 c1 (keyL l) (2 * k) (by rw [keyL_len, HL.out]) HO
      clear HO e
      go_wp2_with fail
      go_ret
      exact ⟨rfl, hb⟩
end Go.Proofs.YtfjemaeidmikmaaDoor
end
section
set_option linter.unusedVariables false
set_option linter.unusedSimpArgs false
set_option maxRecDepth 100000
namespace Go.Proofs.YtfjemaeidmikmaaDoor
open Go.RowKit Go.Maps
def okT (t : List Int) : Prop := t.length ≤ 1000000 ∧ ∀ x ∈ t, 0 ≤ x ∧ x < 65536
theorem str_keyed : Keyed Tryd.prog 9 := string_keyed Tryd.underlying9
theorem zero_int3 (w : World) : (zeroValue 3).run Tryd.prog w = .ok (.int .i64 0) w := by kernel_rfl
noncomputable def tk (t : List Int) : Lit := (keyOf Tryd.prog 9 (.string (strOfNums (keyL t)))).getD (.bool true)
theorem sn_list (xs : List Int) : (strOfNums xs).data.toList = xs.map fun n => UInt8.ofNat n.toNat := by simp [strOfNums]
theorem sn_size (xs : List Int) : (strOfNums xs).size = xs.length := by
  have := congrArg List.length (sn_list xs)
  simpa using this
theorem u8_inj {a b : Int} (ha : 0 ≤ a ∧ a < 256) (hb : 0 ≤ b ∧ b < 256) (h : UInt8.ofNat a.toNat = UInt8.ofNat b.toNat) : a = b := by
  have h2 := congrArg UInt8.toNat h
  rw [UInt8.toNat_ofNat', UInt8.toNat_ofNat', Nat.mod_eq_of_lt (by omega), Nat.mod_eq_of_lt (by omega)] at h2
  omega
theorem keyL_inj : ∀ (a b : List Int), (∀ x ∈ a, 0 ≤ x ∧ x < 65536) → (∀ x ∈ b, 0 ≤ x ∧ x < 65536) → ((keyL a).map fun n => UInt8.ofNat n.toNat) = ((keyL b).map fun n => UInt8.ofNat n.toNat) → a = b
  | [], [], _, _, _ => rfl
  | [], y :: b, _, _, h => by simp [keyL, keyOne] at h
  | x :: a, [], _, _, h => by simp [keyL, keyOne] at h
  | x :: a, y :: b, ha, hb, h => by
    have hx := ha x List.mem_cons_self
    have hy := hb y List.mem_cons_self
    have h' : (UInt8.ofNat (x / 256).toNat :: UInt8.ofNat (x % 256).toNat :: (keyL a).map fun n => UInt8.ofNat n.toNat) = (UInt8.ofNat (y / 256).toNat :: UInt8.ofNat (y % 256).toNat :: (keyL b).map fun n => UInt8.ofNat n.toNat) := h
    injection h' with h1 h2
    injection h2 with h2 h3
    have e1 := u8_inj (by omega) (by omega) h1
    have e2 := u8_inj (by omega) (by omega) h2
    have e3 := keyL_inj a b (fun z hz => ha z (List.mem_cons_of_mem _ hz)) (fun z hz => hb z (List.mem_cons_of_mem _ hz)) h3
    have : x = y := by omega
    rw [this, e3]
theorem t_key {t : List Int} (h : okT t) : keyOf Tryd.prog 9 (.string (strOfNums (keyL t))) = some (tk t) := by
  have hs : (strOfNums (keyL t)).size ≤ maxLen := by
    rw [sn_size, keyL_len]
    have := h.1
    unfold maxLen
    omega
  have hl := WideMaps.keyOf_string_mk (P := Tryd.prog) (k := 9) Tryd.underlying9 hs
  unfold tk
  rw [hl]
  rfl
theorem tk_inj {p q : List Int} (hp : okT p) (hq : okT q) (h : tk p = tk q) : p = q := by
  have := str_keyed.inj (t_key hp) (h ▸ t_key hq)
  injection this with this
  refine keyL_inj p q hp.2 hq.2 ?_
  rw [← sn_list, ← sn_list, this]
theorem tk_lit {p : List Int} (hp : okT p) : WideAt.IsKeyLit (tk p) := str_keyed.key (t_key hp)
structure KMap (D : DataW Unit) (S : List (List Int)) : Prop where
  has : ∀ p, okT p → Maps.has D (tk p) = decide (p ∈ S)
  atKey : ∀ p, okT p → p ∈ S → D.atKey (tk p) (.lit (.int .i64 0)) = .lit (.int .i64 (S.idxOf p : Nat))
theorem KMap.nil : KMap (.map []) [] := ⟨fun p _ => by simp [Maps.has], fun p _ h => by cases h⟩
theorem KMap.new {D : DataW Unit} (hT : Tidy D) {S : List (List Int)} (h : KMap D S) {p : List Int} (ok : okT p) (hp : p ∉ S) {c : Int} (hc : c = S.length) : KMap (D.put (tk p) (.lit (.int .i64 c))) (S ++ [p]) := by
  subst hc
  refine ⟨fun q hq => ?_, fun q hq hm => ?_⟩
  · by_cases e : q = p
    · subst e
      rw [Maps.has_put_same hT.isMap (tk_lit ok)]
      simp
    · rw [Maps.has_put_other (fun k => e (tk_inj hq ok k)), h.has q hq]
      simp [e]
  · by_cases e : q = p
    · subst e
      rw [Maps.atKey_put_same hT.isMap (tk_lit ok), List.idxOf_append, if_neg hp]
      simp
    · have hql : q ∈ S := by
        rcases List.mem_append.1 hm with k | k
        · exact k
        · exact absurd (List.mem_singleton.1 k) e
      rw [Maps.atKey_put_other (fun k => e (tk_inj hq ok k)), h.atKey q hq hql, List.idxOf_append, if_pos hql]
def knS (S : List (List Int)) (t : List Int) : List (List Int) × Nat := if t ∈ S then (S, S.idxOf t) else (S ++ [t], S.length)
end Go.Proofs.YtfjemaeidmikmaaDoor
end
