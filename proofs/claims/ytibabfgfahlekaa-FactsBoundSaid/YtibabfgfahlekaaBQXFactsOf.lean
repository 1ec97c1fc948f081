/- Pruned from its seat's text: what the theorem hangs on. -/
import Derived.Test.YtibabfgfahlekaaBQNd
import Derived.Test.YtibabfgfahlekaaBFcOf
/- facts.Of: told as the printed texts are. -/
set_option linter.unusedVariables false
set_option linter.unusedSimpArgs false
namespace Go.Proofs.YtibabfgfahlekaaQ
open Go.RowKit Go.Proofs.Bs Go.Proofs.Ytibabfgfahlekaa Go.Proofs.YtibabfgfahlekaaW.PrintWords
def fa9 (a : Fa) (e : Int) : Bool × Int × Int × Int × Int × Int × Int × Bool × Int := (a.never, a.least, a.most, a.first.a, a.first.b, a.first.c, a.first.d, a.ends, e)
def ofN (l : List Nd) : Bool × Int × Int × Int × Int × Int × Int × Bool × Int := if rightB l = true then fa9 (ofFa l) 0 else fa9 Fa.zero 3
theorem ofN_yes {l : List Nd} (h : rightB l = true) : ofN l = fa9 (ofFa l) 0 := if_pos h
theorem ofN_no {l : List Nd} (h : rightB l = false) : ofN l = fa9 Fa.zero 3 := if_neg (by rw [h]; decide)
theorem fa9_v {a : Fa} {e : Int} {r1 : Bool} {r2 r3 r4 r5 r6 r7 : Int} {r8 : Bool} {r9 : Int} (h : fa9 a e = (r1, r2, r3, r4, r5, r6, r7, r8, r9)) :
    Value.tuple #[a.v, .int .i64 e] = .tuple #[.agg #[.bool r1, .int .i64 r2, .int .i64 r3, .int .u64 r4, .int .u64 r5, .int .u64 r6, .int .u64 r7, .bool r8], .int .i64 r9] := by
  unfold fa9 at h
  simp only [Prod.mk.injEq] at h
  obtain ⟨rfl, rfl, rfl, rfl, rfl, rfl, rfl, rfl, rfl⟩ := h
  rfl
def facts_Of.f (l0 : List NdI) : Option (Bool × Int × Int × Int × Int × Int × Int × Bool × Int) := if l0.length ≤ 1000000 ∧ ndsWf l0 = true then some (ofN (l0.map ndOf)) else none
theorem facts_Of.calls (A0 : Option Addr) (c0 : Nat) (l0 : List NdI) (r1 : Bool) (r2 r3 r4 r5 r6 r7 : Int) (r8 : Bool) (r9 : Int) (w : World) (hr0 : Kd.C k63 w A0 l0.length l0) (hc0 : l0.length ≤ c0) (h : facts_Of.f l0 = some (r1, r2, r3, r4, r5, r6, r7, r8, r9)) :
    Calls Try.prog 13 #[.slice A0 l0.length c0] w fun e w' => e = .returned (.tuple #[.agg #[.bool r1, .int .i64 r2, .int .i64 r3, .int .u64 r4, .int .u64 r5, .int .u64 r6, .int .u64 r7, .bool r8], .int .i64 r9]) ∧ Below w.heap.size w w' := by
  unfold facts_Of.f at h
  split at h
  case isFalse => cases h
  case isTrue c =>
    injection h with h
    have hR := reads_nds hr0 c.2
    cases hr : rightB (l0.map ndOf) with
    | true =>
      rw [ofN_yes hr] at h
      rw [← fa9_v h]
      refine fof_yes A0 l0.length c0 (l0.map ndOf) w hR c.1 hr fun x hx => ?_
      obtain ⟨y, hy, rfl⟩ := List.mem_map.1 hx
      exact setI_wf (ndsWf_at c.2 hy)
    | false =>
      rw [ofN_no hr] at h
      rw [← fa9_v h]
      exact fof_no A0 l0.length c0 (l0.map ndOf) w hR c.1 hr
end Go.Proofs.YtibabfgfahlekaaQ
