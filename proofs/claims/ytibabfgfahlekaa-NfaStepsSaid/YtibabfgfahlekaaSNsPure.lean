/- Pruned from its seat's text: what the theorem hangs on. -/
import Derived.Test.YtibabfgfahlekaaSNfImpl5
import Derived.Test.YtibabfgfahlekaaSQXNfaBuild
import Derived.Test.YtibabfgfahlekaaSQXNfaFits
import Derived.Test.YtibabfgfahlekaaSQTattinglaw09NfaSteps
/- NfaSteps comes to true: plain. -/
set_option linter.unusedVariables false
set_option linter.unusedSimpArgs false
namespace Go.Proofs.YtibabfgfahlekaaQ
open Go.RowKit Go.Proofs.YtibabfgfahlekaaW.PrintWords Go.Proofs.YtibabfgfahlekaaW.PrintLast Go.Proofs.Bs

theorem ev_mono {α : Type} {g : Nat → Option α} {r : α} (hm : ∀ k, LeO (g k) (g (k + 1))) (K : Nat) (h : g K = some r) : EV g r := by
  refine ⟨K, fun k hk => ?_⟩
  obtain ⟨d, rfl⟩ := Nat.le.dest hk
  induction d with
  | zero => exact h
  | succ d ih => exact hm _ _ (ih (by omega))
theorem awake_ev : EV (fun k => tattinglaw09_awake.f k) true := by
  refine ev_mono tattinglaw09_awake.mono 20 ?_
  decide +kernel
theorem take_wf {sts : List St} (h : wfSts sts) (m : Nat) : wfSts (sts.take m) := by
  intro i h0 h1
  have hl : i.toNat < m ∧ i.toNat < sts.length := by
    rw [List.length_take] at h1
    omega
  have e : rd_T72 (sts.take m) i = rd_T72 sts i := by
    unfold rd_T72
    rw [List.getD_eq_getElem?_getD, List.getD_eq_getElem?_getD, List.getElem?_take, if_pos hl.1]
  rw [e]
  exact h i h0 (by omega)
theorem nfaSteps_ev (sts : List St) (s f : Int) (l : List Int) (a2 : Int) (hw : wfSts sts) : EV (fun k => tattinglaw09_NfaSteps.f k sts s f l a2) true := by
  unfold tattinglaw09_NfaSteps.f
  refine EV.bind awake_ev ?_
  have m1 : 0 ≤ mn (sts.length : Int) 40 := by unfold mn; omega
  have m2 : mn (sts.length : Int) 40 ≤ (sts.length : Int) := by unfold mn; omega
  have m3 : 0 ≤ mn (l.length : Int) 20 := by unfold mn; omega
  have m4 : mn (l.length : Int) 20 ≤ (l.length : Int) := by unfold mn; omega
  have m5 : mn (sts.length : Int) 40 ≤ 40 := by unfold mn; omega
  have m6 : mn (l.length : Int) 20 ≤ 20 := by unfold mn; omega
  simp only [if_true, m1, m2, m3, m4, Option.bind_some]
  generalize mn (sts.length : Int) 40 = M at *
  generalize mn (l.length : Int) 20 = N at *
  have hTl : (sts.take M.toNat).length ≤ 40 := by rw [List.length_take]; omega
  have hFl : (l.take N.toNat).length ≤ 20 := by rw [List.length_take]; omega
  have hTw := take_wf hw M.toNat
  generalize sts.take M.toNat = T at *
  generalize l.take N.toNat = F at *
  have hb : 0 ≤ a2 % 256 ∧ a2 % 256 < 256 := by omega
  generalize a2 % 256 = b at *
  refine EV.bind (close_eq T s f F a2 (by omega)) ?_
  refine EV.bind (step_eq T s f b F (by omega) hTw hb) ?_
  refine EV.bind (rright_eq T s f) ?_
  by_cases hR : rightN T s f = true
  · have hok := okSts_of hR
    simp only [hR, if_true]
    refine EV.bind (of_eq T s f F (by omega) (by omega)) ?_
    refine EV.bind (right_eq T s f) ?_
    simp only [hR, if_true]
    refine EV.bind (rclose_eq T a2 s f (ofN T.length F) (by omega) hok (ofN_len _ _)) ?_
    have e1 : closeN T s f F a2 = listN (closeR T a2 (ofN T.length F)) := by
      unfold closeN
      rw [if_pos hR, walk_close T a2 F hok]
    have e2 : stepN T s f F b = listN (stepR T b (ofN T.length F)) := by
      unfold stepN
      rw [if_pos hR, step_close T b F hok]
    have n1 : (closeR T a2 (ofN T.length F)).length = T.length := closeR_len _ _ _
    have n2 : (stepR T b (ofN T.length F)).length = T.length := closeR_len _ _ _
    rw [e1, e2]
    refine EV.bind ((told_eq (listN (closeR T a2 (ofN T.length F))) _ (by omega) (by have := listN_le (closeR T a2 (ofN T.length F)); omega)).cast (decide_eq_true rfl)) ?_
    simp only [if_true]
    refine EV.bind (rstep_eq T b s f (ofN T.length F) (by omega) hok hTw hb (ofN_len _ _)) ?_
    refine EV.bind ((told_eq (listN (stepR T b (ofN T.length F))) _ (by omega) (by have := listN_le (stepR T b (ofN T.length F)); omega)).cast (decide_eq_true rfl)) ?_
    exact EV.const
  · have hR2 : rightN T s f = false := by
      cases h : rightN T s f with
      | true => exact absurd h hR
      | false => rfl
    simp only [hR2, Bool.false_eq_true, if_false]
    refine EV.bind (right_eq T s f) ?_
    simp only [hR2, Bool.false_eq_true, if_false]
    have e1 : closeN T s f F a2 = [] := by unfold closeN; rw [if_neg hR]
    have e2 : stepN T s f F b = [] := by unfold stepN; rw [if_neg hR]
    rw [e1, e2]
    exact EV.now fun _ => by simp [wrap64]
end Go.Proofs.YtibabfgfahlekaaQ
namespace Go.Proofs.Ytibabfgfahlekaa
open Go.RowKit Go.Proofs.YtibabfgfahlekaaQ
theorem nfaSteps_any (A0 : Option Addr) (c0 : Nat) (l0 : List St) (s f : Int) (A1 : Option Addr) (c1 : Nat) (l1 : List Int) (a2 : Int) (w : World) (h0 : Go.Proofs.YtibabfgfahlekaaW.PrintWords.Kd.C k72 w A0 l0.length l0) (hc0 : l0.length ≤ c0) (hw : wfSts l0)
    (h1 : Go.Proofs.YtibabfgfahlekaaW.PrintWords.Kd.C (Go.Proofs.YtibabfgfahlekaaW.PrintWords.Kd.int .i64) w A1 l1.length l1) (hc1 : l1.length ≤ c1) (hok : ∀ x ∈ l1, -9223372036854775808 ≤ x ∧ x ≤ 9223372036854775807) :
    Calls Try.prog 7 #[.agg #[.slice A0 l0.length c0, .int .i64 s, .int .i64 f], .slice A1 l1.length c1, .int .i64 a2] w fun e w' => e = .returned (.bool true) ∧ Below w.heap.size w w' := by
  obtain ⟨k, hk⟩ := (nfaSteps_ev l0 s f l1 a2 hw).ex
  exact tattinglaw09_NfaSteps.calls k A0 c0 l0 s f A1 c1 l1 a2 true w h0 hc0 h1 hc1 hk
end Go.Proofs.Ytibabfgfahlekaa
