/- Pruned from its seat's text: what the theorem hangs on. -/
import Derived.Test.YtjgdpcblenahkaaDoorCAlEv
import Derived.Test.YtjgdpcblenahkaaDoorCQTattinglaw10AlphaClasses
import Derived.Test.YtjgdpcblenahkaaDoorCQTattinglaw10AlphaSteps
/- The laws AlphaClasses and AlphaSteps come to true. -/
set_option linter.unusedVariables false
set_option linter.unusedSimpArgs false
namespace Go.Proofs.YtjgdpcblenahkaaDoorQ
open Go.RowKit Go.Proofs.YtjgdpcblenahkaaDoorW.PrintWords Go.Proofs.YtjgdpcblenahkaaDoorW.PrintLast Go.Proofs.Bs

theorem ev_mono10 {α : Type} {g : Nat → Option α} {r : α} (hm : ∀ k, LeO (g k) (g (k + 1))) (K : Nat) (h : g K = some r) : EV g r := by
  refine ⟨K, fun k hk => ?_⟩
  obtain ⟨d, rfl⟩ := Nat.le.dest hk
  induction d with
  | zero => exact h
  | succ d ih => exact hm _ _ (ih (by omega))
theorem awake10_ev : EV (fun k => tattinglaw10_awake.f k) true := by
  refine ev_mono10 tattinglaw10_awake.mono 20 ?_
  decide +kernel
theorem same10_l0 (l : List Int) (hn : l.length ≤ 1000000) : ∀ (d i : Nat), l.length - i = d → i ≤ l.length → EV (fun k => tattingref10_Same.l0 k l l i) true := by
  intro d
  induction d with
  | zero =>
    intro i hd hi
    refine EV.stop fun k => ?_
    simp only [tattingref10_Same.l0]
    rw [if_neg (by omega)]
  | succ d ih =>
    intro i hd hi
    refine EV.step (ih (i + 1) (by omega) (by omega)) fun k => ?_
    simp only [tattingref10_Same.l0]
    rw [if_pos (by omega), if_pos (by omega), if_pos (by omega), up_wrap (by omega)]
    simp only [if_true]
theorem same10_ev (l : List Int) (hn : l.length ≤ 1000000) : EV (fun k => tattingref10_Same.f k l l) true := by
  unfold tattingref10_Same.f
  exact EV.congr (fun k => if_pos rfl) (same10_l0 l hn l.length 0 rfl (by omega))
theorem take_wf10 {sts : List St} (h : wfSts sts) (m : Nat) : wfSts (sts.take m) := by
  intro i h0 h1
  have hl : i.toNat < m ∧ i.toNat < sts.length := by
    rw [List.length_take] at h1
    omega
  have e : rd_T88 (sts.take m) i = rd_T88 sts i := by
    unfold rd_T88
    rw [List.getD_eq_getElem?_getD, List.getD_eq_getElem?_getD, List.getElem?_take, if_pos hl.1]
  rw [e]
  exact h i h0 (by omega)
theorem alphaClasses_ev (sts : List St) (s f : Int) (hw : wfSts sts) : EV (fun k => tattinglaw10_AlphaClasses.f k sts s f) true := by
  unfold tattinglaw10_AlphaClasses.f
  refine EV.bind awake10_ev ?_
  have m1 : 0 ≤ mn (sts.length : Int) 60 := by unfold mn; omega
  have m2 : mn (sts.length : Int) 60 ≤ (sts.length : Int) := by unfold mn; omega
  have m5 : mn (sts.length : Int) 60 ≤ 60 := by unfold mn; omega
  simp only [if_true, m1, m2, Option.bind_some]
  generalize mn (sts.length : Int) 60 = M at *
  have hTl : (sts.take M.toNat).length ≤ 60 := by rw [List.length_take]; omega
  have hTw := take_wf10 hw M.toNat
  generalize sts.take M.toNat = T at *
  cases hR : rightN T s f with
  | true =>
    have h0 := classes_yes T s f hR hTw
    have h1 := rclasses_ev T s f (by omega) hTw
    have h2 := same10_ev (cls T) (by rw [cls_len]; omega)
    have h3 := rright_eq T s f
    rw [hR] at h3
    generalize cls T = C at h0 h1 h2
    generalize wid T = D at h0 h1
    refine EV.bind h0 ?_
    dsimp only
    refine EV.bind h3 ?_
    refine EV.congr (fun k => if_pos rfl) ?_
    refine EV.bind h1 ?_
    dsimp only
    refine EV.bind h2 ?_
    exact EV.congr (fun k => if_pos rfl) (EV.const.cast (by simp))
  | false =>
    refine EV.bind (classes_no T s f hR) ?_
    dsimp only
    refine EV.bind (rright_eq T s f) ?_
    rw [hR]
    refine EV.congr (fun k => if_neg Bool.false_ne_true) ?_
    exact EV.congr (fun k => if_pos rfl) (EV.const.cast rfl)
end Go.Proofs.YtjgdpcblenahkaaDoorQ
namespace Go.Proofs.YtjgdpcblenahkaaDoor
open Go.RowKit Go.Proofs.YtjgdpcblenahkaaDoorQ Go.Proofs.YtjgdpcblenahkaaDoorW.PrintWords
theorem alphaClasses_any (A0 : Option Addr) (c0 : Nat) (l0 : List St) (s f : Int) (w : World) (hG : TabG w) (h0 : Kd.C k88 w A0 l0.length l0) (hc0 : l0.length ≤ c0) (hw : wfSts l0) :
    Calls Tryd.prog 6 #[.agg #[.slice A0 l0.length c0, .int .i64 s, .int .i64 f]] w fun e w' => e = .returned (.bool true) ∧ Below w.heap.size w w' := by
  obtain ⟨k, hk⟩ := (alphaClasses_ev l0 s f hw).ex
  exact tattinglaw10_AlphaClasses.calls k A0 c0 l0 s f true w hG h0 hc0 hk
end Go.Proofs.YtjgdpcblenahkaaDoor
