/- Pruned from its seat's text: what the theorem hangs on. -/
import Derived.Test.YtjgdpcblenahkaaDoorRBlEv
import Derived.Test.YtjgdpcblenahkaaDoorRQ0
import Derived.Test.YtjgdpcblenahkaaDoorRQG
import Derived.Test.YtjgdpcblenahkaaDoorRQEq0
import Derived.Test.YtjgdpcblenahkaaDoorRQTattinglaw01Awake
import Derived.Test.YtjgdpcblenahkaaDoorRQXBytesetOr
import Derived.Laws.BitsAllLaws
import Derived.Deep.RegionWith
import Derived.Test.YtjgdpcblenahkaaDoorRQXBytesetBytes
import Derived.Test.YtjgdpcblenahkaaDoorRQXBytesetCount
import Derived.Test.YtjgdpcblenahkaaDoorRQXBytesetNot
import Derived.Test.YtjgdpcblenahkaaDoorRQXBytesetOf
import Derived.Test.YtjgdpcblenahkaaDoorRQTattingref01Join
import Derived.Test.YtjgdpcblenahkaaDoorRQTattingref01Range
import Derived.Test.YtjgdpcblenahkaaDoorRQXBytesetHas
import Derived.Test.YtjgdpcblenahkaaDoorRQXTattingref01Has
import Derived.Test.YtjgdpcblenahkaaDoorRQBytesetRuns
import Derived.Test.YtjgdpcblenahkaaDoorRQEq1
import Derived.Test.YtjgdpcblenahkaaDoorRQXBytesetRange
import Derived.Test.YtjgdpcblenahkaaDoorRQTattinglaw01ByteSetRuns
/- The laws of layer 1 come to true: plain. -/
set_option linter.unusedVariables false
set_option linter.unusedSimpArgs false
namespace Go.Proofs.YtjgdpcblenahkaaDoorQ
open Go.RowKit Go.Proofs.YtjgdpcblenahkaaDoorW.PrintWords Go.Proofs.YtjgdpcblenahkaaDoorW.PrintLast Go.Proofs.Bs

theorem ev_mono {α : Type} {g : Nat → Option α} {r : α} (hm : ∀ k, LeO (g k) (g (k + 1))) (K : Nat) (h : g K = some r) : EV g r := by
  refine ⟨K, fun k hk => ?_⟩
  obtain ⟨d, rfl⟩ := Nat.le.dest hk
  induction d with
  | zero => exact h
  | succ d ih => exact hm _ _ (ih (by omega))
theorem awake1_ev : EV (fun k => tattinglaw01_awake.f k) true := by
  refine ev_mono tattinglaw01_awake.mono 20 ?_
  decide +kernel
theorem bind_four {α : Type} (X : S) (F : Int → Int → Int → Int → Option α) : ((some (four X)).bind fun bt109 => F bt109.1 bt109.2.1 bt109.2.2.1 bt109.2.2.2) = F X.a X.b X.c X.d := rfl
theorem or_bind {α : Type} (A B : S) (hwf : A.wf) (hb : B.wf) (F : Int → Int → Int → Int → Option α) :
    ((byteset_Or.f A.a A.b A.c A.d B.a B.b B.c B.d).bind fun bt109 => F bt109.1 bt109.2.1 bt109.2.2.1 bt109.2.2.2) = F (Bs.or A B).a (Bs.or A B).b (Bs.or A B).c (Bs.or A B).d := by
    rw [or_f _ _ hwf hb]
    exact bind_four _ F
theorem range_bind {α : Type} (lo hi : Nat) (h1 : lo < 256) (h2 : hi < 256) (F : Int → Int → Int → Int → Option α) :
    ((byteset_Range.f lo hi).bind fun bt109 => F bt109.1 bt109.2.1 bt109.2.2.1 bt109.2.2.2) = F (rangeS lo hi).a (rangeS lo hi).b (rangeS lo hi).c (rangeS lo hi).d := by
    rw [range_f lo hi h1 h2]
    exact bind_four _ F
theorem range_or {α : Type} (A : S) (hwf : A.wf) (r : Nat × Nat) (h1 : r.1 < 256) (h2 : r.2 < 256) (F : Int → Int → Int → Int → Option α) :
    ((byteset_Range.f (runI r).f0 (runI r).f1).bind fun bt105 => (byteset_Or.f A.a A.b A.c A.d bt105.1 bt105.2.1 bt105.2.2.1 bt105.2.2.2).bind fun bt109 => F bt109.1 bt109.2.1 bt109.2.2.1 bt109.2.2.2) = F (Bs.or A (rangeS r.1 r.2)).a (Bs.or A (rangeS r.1 r.2)).b (Bs.or A (rangeS r.1 r.2)).c (Bs.or A (rangeS r.1 r.2)).d :=
    (range_bind r.1 r.2 h1 h2 fun a b c d => (byteset_Or.f A.a A.b A.c A.d a b c d).bind fun bt109 => F bt109.1 bt109.2.1 bt109.2.2.1 bt109.2.2.2).trans (or_bind A _ hwf (rangeS_wf _ _) F)
def upTo (l : List (Nat × Nat)) (i : Nat) : S := unionS (l.take i)
theorem upTo_succ (l : List (Nat × Nat)) (i : Nat) (h : i < l.length) : upTo l (i + 1) = Bs.or (upTo l i) (rangeS l[i].1 l[i].2) := by
  unfold upTo unionS
  rw [List.take_succ_eq_append_getElem h, List.foldl_append]
  rfl
theorem rdRun (l : List (Nat × Nat)) (i : Nat) (h : i < l.length) : rd_T53 (l.map runI) (i : Int) = runI l[i] := by
  unfold rd_T53
  rw [List.getD_eq_getElem?_getD, Int.toNat_natCast, List.getElem?_eq_getElem (by rw [List.length_map]; exact h)]
  simp
theorem union_l0 (l : List (Nat × Nat)) (hl : ∀ r ∈ l, r.1 < 256 ∧ r.2 < 256) (hn : l.length ≤ 1000000) : ∀ (d i : Nat), l.length - i = d → i ≤ l.length →
    EV (fun k => byteset_Union.l0 k (l.map runI) ((l.map runI).length : Int) i (upTo l i).a (upTo l i).b (upTo l i).c (upTo l i).d) (four (unionS l)) := by
  intro d
  induction d with
  | zero =>
    intro i hd hi
    obtain rfl : i = l.length := by omega
    refine EV.stop fun k => ?_
    simp only [byteset_Union.l0]
    rw [if_neg (by rw [List.length_map]; omega)]
    unfold upTo
    rw [List.take_length]
    rfl
  | succ d ih =>
    intro i hd hi
    have hlt : i < l.length := by omega
    obtain ⟨h1, h2⟩ := hl _ (List.getElem_mem hlt)
    have ih := ih (i + 1) (by omega) (by omega)
    rw [upTo_succ l i hlt] at ih
    have hrd := rdRun l i hlt
    have hwf : (upTo l i).wf := wf_union _
    generalize l[i] = r at *
    refine EV.step ih fun k => ?_
    simp only [byteset_Union.l0]
    rw [if_pos (by rw [List.length_map]; omega), if_pos (by omega), if_pos (by rw [List.length_map]; omega), hrd, wrap_up (by omega)]
    exact range_or (upTo l i) hwf r h1 h2 fun a b c d => byteset_Union.l0 k (l.map runI) ((l.map runI).length : Int) ((i + 1 : Nat) : Int) a b c d
theorem union_ev (l : List (Nat × Nat)) (hl : ∀ r ∈ l, r.1 < 256 ∧ r.2 < 256) (hn : l.length ≤ 1000000) : EV (fun k => byteset_Union.f k (l.map runI)) (four (unionS l)) := union_l0 l hl hn l.length 0 rfl (by omega)
theorem runion_l0 (l : List (Nat × Nat)) (hl : ∀ r ∈ l, r.1 < 256 ∧ r.2 < 256) (hn : l.length ≤ 1000000) : ∀ (d i : Nat), l.length - i = d → i ≤ l.length →
    EV (fun k => tattingref01_Union.l0 k (l.map runI) i (upTo l i).a (upTo l i).b (upTo l i).c (upTo l i).d) (four (unionS l)) := by
  intro d
  induction d with
  | zero =>
    intro i hd hi
    obtain rfl : i = l.length := by omega
    refine EV.stop fun k => ?_
    simp only [tattingref01_Union.l0]
    rw [if_neg (by rw [List.length_map]; omega)]
    unfold upTo
    rw [List.take_length]
    rfl
  | succ d ih =>
    intro i hd hi
    have hlt : i < l.length := by omega
    obtain ⟨h1, h2⟩ := hl _ (List.getElem_mem hlt)
    have ih := ih (i + 1) (by omega) (by omega)
    rw [upTo_succ l i hlt] at ih
    have hrd := rdRun l i hlt
    have hwf : (upTo l i).wf := wf_union _
    generalize l[i] = r at *
    have g1 := rrange_ev r.1 r.2 h1 h2
    have g2 := join_ev (upTo l i) (rangeS r.1 r.2) hwf (rangeS_wf _ _) 0
    rw [join_or _ _ hwf (rangeS_wf _ _)] at g2
    refine EV.step (EV.bind g1 (h := fun k bt105 => (tattingref01_Join.f k (upTo l i).a (upTo l i).b (upTo l i).c (upTo l i).d bt105.1 bt105.2.1 bt105.2.2.1 bt105.2.2.2 0).bind fun bt109 => tattingref01_Union.l0 k (l.map runI) ((i + 1 : Nat) : Int) bt109.1 bt109.2.1 bt109.2.2.1 bt109.2.2.2) (EV.bind g2 ih)) fun k => ?_
    simp only [tattingref01_Union.l0]
    rw [if_pos (by rw [List.length_map]; omega), if_pos (by omega), hrd, wrap_up (by omega)]
    simp only [runI]
    rw [wrap_in (by omega) (by omega), wrap_in (by omega) (by omega)]
theorem runion_ev (l : List (Nat × Nat)) (hl : ∀ r ∈ l, r.1 < 256 ∧ r.2 < 256) (hn : l.length ≤ 1000000) : EV (fun k => tattingref01_Union.f k (l.map runI)) (four (unionS l)) := runion_l0 l hl hn l.length 0 rfl (by omega)

theorem runsl_l0 (l : List (Nat × Nat)) (hl : ∀ r ∈ l, r.1 < 256 ∧ r.2 < 256) (hn : l.length ≤ 1000000) : ∀ (d i : Nat), (runsS (unionS l)).length - i = d → i ≤ (runsS (unionS l)).length →
    EV (fun k => tattinglaw01_ByteSetRuns.l0 k (l.map runI) ((runsS (unionS l)).map runI) i (unionS l).a (unionS l).b (unionS l).c (unionS l).d) true := by
  have hwf := wf_union l
  have hfew := runs_few l fun r h => (hl r h).2
  have hgap := runs_gap (unionS l)
  have hin : ∀ r ∈ runsS (unionS l), r.1 ≤ r.2 ∧ r.2 < 256 := fun r h => runs_lt h
  have hback := union_runs (unionS l) hwf
  generalize hR : runsS (unionS l) = R at *
  intro d
  induction d with
  | zero =>
    intro i hd hi
    have g1 := runion_ev l hl hn
    have g2 := union_ev R (fun r h => ⟨by have := hin r h; omega, (hin r h).2⟩) (by omega)
    rw [hback] at g2
    refine EV.step (EV.bind g1 (h := fun k bt118 => (if (((unionS l).a : Int) == bt118.1 && (((unionS l).b : Int) == bt118.2.1 && (((unionS l).c : Int) == bt118.2.2.1 && (((unionS l).d : Int) == bt118.2.2.2)))) = true then (if ((R.map runI).length : Int) ≤ ((l.map runI).length : Int) then ((byteset_Union.f k (R.map runI)).bind fun bt122 => (some (bt122.1 == (unionS l).a && (bt122.2.1 == (unionS l).b && (bt122.2.2.1 == (unionS l).c && (bt122.2.2.2 == (unionS l).d)))))) else (some false)) else (some false))) ?_) fun k => ?_
    · have hle : ((R.map runI).length : Int) ≤ ((l.map runI).length : Int) := by rw [List.length_map, List.length_map]; omega
      simp only [four, beq_self_eq_true, Bool.and_self, if_true, hle]
      refine EV.bind g2 ?_
      simp only [four, beq_self_eq_true, Bool.and_self]
      exact EV.const
    · simp only [tattinglaw01_ByteSetRuns.l0]
      rw [if_neg (by rw [List.length_map]; omega)]
  | succ d ih =>
    intro i hd hi
    have hlt : i < R.length := by omega
    have ih := ih (i + 1) (by omega) (by omega)
    obtain ⟨h1, h2⟩ := hin _ (List.getElem_mem hlt)
    have hrd := rdRun R i hlt
    refine EV.step ih fun k => ?_
    simp only [tattinglaw01_ByteSetRuns.l0]
    rw [if_pos (by rw [List.length_map]; omega), if_pos (by omega), hrd, wrap_up (by omega)]
    have c1 : ¬ (runI R[i]).f0 > (runI R[i]).f1 := by show ¬ ((R[i].1 : Int) > (R[i].2 : Int)); omega
    rw [if_neg c1]
    by_cases h0 : i = 0
    · rw [if_neg (by omega)]
    · have hp := List.pairwise_iff_getElem.1 hgap (i - 1) i (by omega) hlt (by omega)
      obtain ⟨h3, h4⟩ := hin _ (List.getElem_mem (show i - 1 < R.length by omega))
      rw [if_pos (by omega), wrap_dn (by omega) (by omega), if_pos (by omega), if_pos (by rw [List.length_map]; omega), rdRun R (i - 1) (by omega)]
      have c2 : ¬ wrap64 (runI R[i]).f0 < wrap64 (wrap64 (runI R[i - 1]).f1 + 2) := by
        show ¬ wrap64 (R[i].1 : Int) < wrap64 (wrap64 (R[i - 1].2 : Int) + 2)
        rw [wrap_in (x := (R[i].1 : Int)) (by omega) (by omega), wrap_in (x := (R[i - 1].2 : Int)) (by omega) (by omega), wrap_in (by omega) (by omega)]
        omega
      rw [if_neg c2]
theorem runsl_ev (l : List (Nat × Nat)) (hl : ∀ r ∈ l, r.1 < 256 ∧ r.2 < 256) : EV (fun k => tattinglaw01_ByteSetRuns.f k (l.map runI)) true := by
  unfold tattinglaw01_ByteSetRuns.f
  refine EV.bind awake1_ev ?_
  rw [List.length_map]
  have m1 : 0 ≤ mn (l.length : Int) 40 := by unfold mn; omega
  have m2 : mn (l.length : Int) 40 ≤ (l.length : Int) := by unfold mn; omega
  have m3 : mn (l.length : Int) 40 ≤ 40 := by unfold mn; omega
  simp only [if_true, m1, m2, Option.bind_some, ← List.map_take]
  have hl2 : ∀ r ∈ l.take (mn (l.length : Int) 40).toNat, r.1 < 256 ∧ r.2 < 256 := fun r h => hl r (List.take_subset _ _ h)
  have hn : (l.take (mn (l.length : Int) 40).toNat).length ≤ 40 := by rw [List.length_take]; omega
  generalize l.take (mn (l.length : Int) 40).toNat = m at *
  refine EV.bind (union_ev m hl2 (by omega)) ?_
  simp only [four]
  refine EV.bind (runs_ev _ (wf_union m)) ?_
  exact runsl_l0 m hl2 (by omega) _ 0 rfl (by omega)
end Go.Proofs.YtjgdpcblenahkaaDoorQ
