/- Pruned from its seat's text: what the theorem hangs on. -/
import Derived.Test.YtjgdpcblenahkaaDoorSOpenCore
import Derived.Test.YtjgdpcblenahkaaDoorSAlPure
import Derived.Maps.OwnSet
import Derived.DeepKeys4
import Derived.MapViews
/- The map of pairs: its key; what it holds behind so many pairs. -/
set_option linter.unusedVariables false
set_option linter.unusedSimpArgs false
set_option maxRecDepth 100000
namespace Go.Proofs.YtjgdpcblenahkaaDoor
open Go.RowKit Go.Maps

theorem pair_row : (120 : TypeId) < Tryd.prog.types.size := of_decide_eq_true (by kernel_rfl)
theorem pair_wide : (match Tryd.prog.underlying 120 with | some (.array _ _) | some (.struct _) => true | _ => false) = true := by rw [Tryd.underlying120]
theorem pair_law : WideMaps.KeyLaw Tryd.prog 120 := deep_law_laid laidOut (m := 2) (by omega) pair_row (by kernel_rfl) pair_wide
theorem pair_keyed : Keyed Tryd.prog 120 := Keyed.of_law pair_law
theorem zero_int (w : World) : (zeroValue 3).run Tryd.prog w = .ok (.int .i64 0) w := by kernel_rfl
theorem pair_cells : Tryd.prog.cellsOf 120 = 2 := by kernel_rfl
theorem int_cells : Tryd.prog.cellsOf 3 = 1 := by kernel_rfl
theorem pair_type : Tryd.prog.keyType 120 = true := by kernel_rfl

def okP (p : Int × Int) : Prop := (Lit.int .i64 p.1).wf = true ∧ (Lit.int .i64 p.2).wf = true
noncomputable def pv (p : Int × Int) : Value := .agg #[.int .i64 p.1, .int .i64 p.2]
noncomputable def pk (p : Int × Int) : Lit := (keyOf Tryd.prog 120 (pv p)).getD (.bool true)
theorem pair_formed (p : Int × Int) : (pv p).formed Tryd.prog 120 = true := by simp [pv, Value.formed, Tryd.underlying120, pair_cells]
theorem pair_key (p : Int × Int) (h : okP p) : keyOf Tryd.prog 120 (pv p) = some (pk p) := by
  obtain ⟨h1, h2⟩ := h
  have : ∃ l, keyOf Tryd.prog 120 (pv p) = some l := by
    obtain ⟨m, hm⟩ : ∃ m, Tryd.prog.types.size = m + 1 := ⟨Tryd.prog.types.size - 1, (Nat.sub_add_cancel (show 1 ≤ Tryd.prog.types.size from Nat.lt_of_le_of_lt (Nat.zero_le _) pair_row)).symm⟩
    unfold keyOf
    rw [pair_type, pair_formed, hm]
    simp [Tryd.underlying120, Tryd.underlying3, Program.keyLits, pair_cells, int_cells, pv, Value.cells, h1, h2]
  obtain ⟨l, hl⟩ := this
  unfold pk
  rw [hl]
  rfl
theorem pk_inj {p q : Int × Int} (hp : okP p) (hq : okP q) (h : pk p = pk q) : p = q := by
  have := pair_keyed.inj (pair_key p hp) (h ▸ pair_key q hq)
  simp only [pv, Value.agg.injEq, Array.mk.injEq, List.cons.injEq, Value.int.injEq, true_and, and_true] at this
  exact Prod.ext this.1 this.2
theorem pk_lit {p : Int × Int} (hp : okP p) : WideAt.IsKeyLit (pk p) := pair_keyed.key (pair_key p hp)

/-- What the map holds behind so many pairs. -/
structure MapIs (D : DataW Unit) (l : List (Int × Int)) : Prop where
  has : ∀ p, okP p → Maps.has D (pk p) = decide (p ∈ l)
  atKey : ∀ p, okP p → p ∈ l → D.atKey (pk p) (.lit (.int .i64 0)) = .lit (.int .i64 (Al.pos (Al.run l).1 p : Nat))
  size : Maps.size D = (Al.run l).1.length
theorem MapIs.nil : MapIs (.map []) [] := ⟨fun p _ => by simp [Maps.has], (fun p _ h => by cases h), rfl⟩
theorem run_old {l : List (Int × Int)} {p : Int × Int} (h : p ∈ l) : (Al.run (l ++ [p])).1 = (Al.run l).1 := by
  rw [Al.run_snoc]
  simp only [Al.step]
  rw [if_pos ((Al.run_mem l p).2 h)]
theorem run_new {l : List (Int × Int)} {p : Int × Int} (h : p ∉ l) : (Al.run (l ++ [p])).1 = (Al.run l).1 ++ [p] := by
  rw [Al.run_snoc]
  simp only [Al.step]
  rw [if_neg fun k => h ((Al.run_mem l p).1 k)]
theorem MapIs.old {D : DataW Unit} {l : List (Int × Int)} (h : MapIs D l) {p : Int × Int} (hp : p ∈ l) : MapIs D (l ++ [p]) := by
  refine ⟨fun q hq => ?_, fun q hq hm => ?_, ?_⟩
  · rw [h.has q hq]
    by_cases e : q ∈ l
    · simp [e]
    · have : q ≠ p := fun k => e (k ▸ hp)
      simp [e, this]
  · rw [run_old hp]
    refine h.atKey q hq ?_
    rcases List.mem_append.1 hm with k | k
    · exact k
    · rw [List.mem_singleton.1 k]; exact hp
  · rw [run_old hp]; exact h.size
theorem MapIs.new {D : DataW Unit} (hT : Tidy D) {l : List (Int × Int)} (h : MapIs D l) {p : Int × Int} (ok : okP p) (hp : p ∉ l) {c : Int} (hc : c = (Al.run l).1.length) : MapIs (D.put (pk p) (.lit (.int .i64 c))) (l ++ [p]) := by
  subst hc
  refine ⟨fun q hq => ?_, fun q hq hm => ?_, ?_⟩
  · by_cases e : q = p
    · subst e
      rw [Maps.has_put_same hT.isMap (pk_lit ok)]
      simp
    · rw [Maps.has_put_other (fun k => e (pk_inj hq ok k)), h.has q hq]
      simp [e]
  · rw [run_new hp]
    by_cases e : q = p
    · subst e
      rw [Maps.atKey_put_same hT.isMap (pk_lit ok)]
      rw [Al.pos_new _ fun k => hp ((Al.run_mem l q).1 k)]
    · have hql : q ∈ l := by
        rcases List.mem_append.1 hm with k | k
        · exact k
        · exact absurd (List.mem_singleton.1 k) e
      rw [Maps.atKey_put_other (fun k => e (pk_inj hq ok k)), h.atKey q hq hql]
      rw [Al.pos_old _ _ ((Al.run_mem l q).2 hql)]
  · rw [run_new hp, Maps.size_put hT, h.has p ok, h.size]
    simp [hp]
end Go.Proofs.YtjgdpcblenahkaaDoor
