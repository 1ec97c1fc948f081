/- Pruned from its seat's text: what the theorem hangs on. -/
import Derived.Test.YtjgdpcblenahkaaDoorSAlEv
import Derived.Test.YtjgdpcblenahkaaDoorSQ0
import Derived.Test.YtjgdpcblenahkaaDoorSQG
import Derived.Test.YtjgdpcblenahkaaDoorSQAlphaClasses
import Derived.Test.YtjgdpcblenahkaaDoorSQTattinglaw10Awake
import Derived.Test.YtjgdpcblenahkaaDoorSQEq0
import Derived.Test.YtjgdpcblenahkaaDoorSQTattingref10Alike
import Derived.Test.YtjgdpcblenahkaaDoorSQTattingref10Same
import Derived.Test.YtjgdpcblenahkaaDoorSQTattinglaw10AlphaSteps
/- The laws AlphaClasses and AlphaSteps come to true. -/
set_option linter.unusedVariables false
set_option linter.unusedSimpArgs false
namespace Go.Proofs.YtjgdpcblenahkaaDoorQ
open Go.RowKit Go.Proofs.YtjgdpcblenahkaaDoorW.PrintWords Go.Proofs.YtjgdpcblenahkaaDoorW.PrintLast Go.Proofs.Bs

theorem ev_mono10 {α : Type} {g : Nat → Option α} {r : α} (hm : ∀ k, LeO (g k) (g (k + 1))) (K : Nat) (h : g K = some r) : EV g r := by
  refine ⟨K, fun k hk => ?_⟩
  obtain ⟨d, rfl⟩ := Nat.le.dest hk
  induction d with
  | zero => exact h
  | succ d ih => exact hm _ _ (ih (by omega))
theorem awake10_ev : EV (fun k => tattinglaw10_awake.f k) true := by
  refine ev_mono10 tattinglaw10_awake.mono 20 ?_
  decide +kernel
theorem same10_l0 (l : List Int) (hn : l.length ≤ 1000000) : ∀ (d i : Nat), l.length - i = d → i ≤ l.length → EV (fun k => tattingref10_Same.l0 k l l i) true := by
  intro d
  induction d with
  | zero =>
    intro i hd hi
    refine EV.stop fun k => ?_
    simp only [tattingref10_Same.l0]
    rw [if_neg (by omega)]
  | succ d ih =>
    intro i hd hi
    refine EV.step (ih (i + 1) (by omega) (by omega)) fun k => ?_
    simp only [tattingref10_Same.l0]
    rw [if_pos (by omega), if_pos (by omega), if_pos (by omega), up_wrap (by omega)]
    simp only [if_true]
theorem same10_ev (l : List Int) (hn : l.length ≤ 1000000) : EV (fun k => tattingref10_Same.f k l l) true := by
  unfold tattingref10_Same.f
  exact EV.congr (fun k => if_pos rfl) (same10_l0 l hn l.length 0 rfl (by omega))
theorem take_wf10 {sts : List St} (h : wfSts sts) (m : Nat) : wfSts (sts.take m) := by
  intro i h0 h1
  have hl : i.toNat < m ∧ i.toNat < sts.length := by
    rw [List.length_take] at h1
    omega
  have e : rd_T88 (sts.take m) i = rd_T88 sts i := by
    unfold rd_T88
    rw [List.getD_eq_getElem?_getD, List.getD_eq_getElem?_getD, List.getElem?_take, if_pos hl.1]
  rw [e]
  exact h i h0 (by omega)
theorem rd_cls (sts : List St) (i : Nat) (h : i < 259) : rd (cls sts) (i : Int) = (cls sts)[i]'(by rw [cls_len]; exact h) := by
  unfold rd
  rw [List.getD_eq_getElem?_getD, Int.toNat_natCast, List.getElem?_eq_getElem (by rw [cls_len]; exact h)]
  rfl
theorem cls_eq (sts : List St) (i j : Nat) (hi : i < 259) (hj : j < 259) : rd (cls sts) (i : Int) = rd (cls sts) (j : Int) ↔ lab sts i = lab sts j := by
  rw [rd_cls sts i hi, rd_cls sts j hj]
  exact cls_same sts i j _ _
theorem wid_four (sts : List St) : 4 ≤ wid sts := by
  have h := Al.run_many (labs sts) [lab sts 0, lab sts 256, lab sts 257, lab sts 258] (by
    have n1 : lab sts 0 ≠ lab sts 256 := fun h => by have := (lab_high sts 0 256 (by omega)).1 h; omega
    have n2 : lab sts 0 ≠ lab sts 257 := fun h => by have := (lab_high sts 0 257 (by omega)).1 h; omega
    have n3 : lab sts 0 ≠ lab sts 258 := fun h => by have := (lab_high sts 0 258 (by omega)).1 h; omega
    have n4 : lab sts 256 ≠ lab sts 257 := fun h => by have := (lab_high sts 256 257 (by omega)).1 h; omega
    have n5 : lab sts 256 ≠ lab sts 258 := fun h => by have := (lab_high sts 256 258 (by omega)).1 h; omega
    have n6 : lab sts 257 ≠ lab sts 258 := fun h => by have := (lab_high sts 257 258 (by omega)).1 h; omega
    simp [n1, n2, n3, n4, n5, n6]) (by
    intro x hx
    have hm : ∀ i, i < 259 → lab sts i ∈ labs sts := fun i hi => List.mem_map.2 ⟨i, List.mem_range.2 hi, rfl⟩
    simp only [List.mem_cons, List.not_mem_nil, or_false] at hx
    rcases hx with rfl | rfl | rfl | rfl
    · exact hm 0 (by omega)
    · exact hm 256 (by omega)
    · exact hm 257 (by omega)
    · exact hm 258 (by omega))
  unfold wid
  simp only [List.length_cons, List.length_nil] at h
  omega
theorem step_alike (sts : List St) (a b : Nat) (ha : a < 256) (hb : b < 256) (h : lab sts a = lab sts b) (x : Int) : stepOne sts (a : Int) x = stepOne sts (b : Int) x := by
  have hl := (lab_low sts a b ha hb).1 h
  unfold stepOne
  by_cases hx : 0 ≤ x ∧ x < sts.length
  · obtain ⟨n, rfl⟩ := Int.eq_ofNat_of_zero_le hx.1
    have hn : n < sts.length := by omega
    have e := hl _ (List.getElem_mem hn)
    rw [rdSt sts n hn]
    have e2 : hasSt sts[n] (a : Int) = hasSt sts[n] (b : Int) := by
      unfold hasSt
      rw [Int.toNat_natCast, Int.toNat_natCast]
      exact e
    rw [e2]
  · rw [if_neg (fun h => hx ⟨h.1, h.2.1⟩), if_neg (fun h => hx ⟨h.1, h.2.1⟩)]
theorem listN_le10 (l : List Bool) : (listN l).length ≤ l.length := by
  have h : ∀ d i, (places l d i).length ≤ d := by
    intro d
    induction d with
    | zero => intro i; simp [places]
    | succ d ih =>
      intro i
      have := ih (i + 1)
      simp only [places, List.length_append]
      split <;> simp <;> omega
  exact h _ _
theorem alphaSteps_ev (sts : List St) (s f : Int) (l : List Int) (a b : Nat) (ha : a < 256) (hb : b < 256) (hw : wfSts sts) : EV (fun k => tattinglaw10_AlphaSteps.f k sts s f l a b) true := by
  unfold tattinglaw10_AlphaSteps.f
  refine EV.bind awake10_ev ?_
  have m1 : 0 ≤ mn (sts.length : Int) 60 := by unfold mn; omega
  have m2 : mn (sts.length : Int) 60 ≤ (sts.length : Int) := by unfold mn; omega
  have m5 : mn (sts.length : Int) 60 ≤ 60 := by unfold mn; omega
  have m3 : 0 ≤ mn (l.length : Int) 20 := by unfold mn; omega
  have m4 : mn (l.length : Int) 20 ≤ (l.length : Int) := by unfold mn; omega
  have m6 : mn (l.length : Int) 20 ≤ 20 := by unfold mn; omega
  simp only [if_true, m1, m2, m3, m4, Option.bind_some]
  generalize mn (sts.length : Int) 60 = M at *
  generalize mn (l.length : Int) 20 = N at *
  have hTl : (sts.take M.toNat).length ≤ 60 := by rw [List.length_take]; omega
  have hFl : (l.take N.toNat).length ≤ 20 := by rw [List.length_take]; omega
  have hTw := take_wf10 hw M.toNat
  generalize sts.take M.toNat = T at *
  generalize l.take N.toNat = F at *
  cases hR : rightN T s f with
  | true =>
    refine EV.bind (classes_yes T s f hR hTw) ?_
    have hw4 := wid_four T
    have hcl := cls_len T
    have c1 : ¬ rd (cls T) 256 = rd (cls T) 257 := fun h => by
      have := (lab_high T 256 257 (by omega)).1 ((cls_eq T 256 257 (by omega) (by omega)).1 h)
      omega
    have c2 : (rd (cls T) 257 == rd (cls T) 258) = false := by
      rw [beq_eq_false_iff_ne]
      intro h
      have := (lab_high T 257 258 (by omega)).1 ((cls_eq T 257 258 (by omega) (by omega)).1 h)
      omega
    have hab : (rd (cls T) (a : Int) = rd (cls T) (b : Int)) ↔ lab T a = lab T b := cls_eq T a b (by omega) (by omega)
    dsimp only
    generalize cls T = C at *
    generalize wid T = D at *
    refine EV.congr (fun k => if_neg (show ¬ D = 0 by omega)) ?_
    refine EV.congr (fun k => if_pos (show (C.length : Int) = 259 by omega)) ?_
    refine EV.congr (fun k => if_neg (show ¬ D < 4 by omega)) ?_
    refine EV.congr (fun k => if_pos (show (256 : Int) < (C.length : Int) by omega)) ?_
    refine EV.congr (fun k => if_pos (show (257 : Int) < (C.length : Int) by omega)) ?_
    refine EV.congr (fun k => if_neg c1) ?_
    refine EV.congr (fun k => if_pos (show (258 : Int) < (C.length : Int) by omega)) ?_
    simp only [c2]
    by_cases he : lab T a = lab T b
    · have hs : stepN T s f F (a : Int) = stepN T s f F (b : Int) := by
        unfold stepN
        rw [show F.flatMap (stepOne T (a : Int)) = F.flatMap (stepOne T (b : Int)) by
          congr 1
          funext x
          exact step_alike T a b ha hb he x]
      have h1 := step_eq T s f (a : Int) F (by omega) hTw (by omega)
      have h2 := step_eq T s f (b : Int) F (by omega) hTw (by omega)
      rw [hs] at h1
      have hlen : (stepN T s f F (b : Int)).length ≤ 1000000 := by
        unfold stepN
        rw [if_pos hR]
        have := listN_le10 (walkF T (F.flatMap (stepOne T (b : Int))) 0)
        rw [walkF_len] at this
        omega
      have hb2 := EV.bind h1 (h := fun k (t120 : List Int) => (nfa_Step.f k T s f F (b : Int)).bind fun t123 => ((tattingref10_Same.f k t120 t123).bind fun t126 => (some t126))) (EV.bind h2 (EV.bind (same10_ev _ hlen) EV.const))
      refine EV.step hb2 fun k => ?_
      simp only [tattinglaw10_AlphaSteps.j0, Bool.false_eq_true, if_false]
      rw [if_pos (by omega), if_pos (by omega), if_pos (by omega), if_pos (by omega), if_pos (hab.2 he)]
    · refine EV.stop fun k => ?_
      simp only [tattinglaw10_AlphaSteps.j0, Bool.false_eq_true, if_false]
      rw [if_pos (by omega), if_pos (by omega), if_pos (by omega), if_pos (by omega), if_neg (fun h => he (hab.1 h))]
  | false =>
    refine EV.bind (classes_no T s f hR) ?_
    dsimp only
    refine EV.congr (fun k => if_pos rfl) ?_
    refine EV.congr (fun k => if_pos rfl) ?_
    refine EV.bind (right_eq T s f) ?_
    rw [hR]
    exact EV.const
end Go.Proofs.YtjgdpcblenahkaaDoorQ
namespace Go.Proofs.YtjgdpcblenahkaaDoor
open Go.RowKit Go.Proofs.YtjgdpcblenahkaaDoorQ Go.Proofs.YtjgdpcblenahkaaDoorW.PrintWords
theorem alphaSteps_any (A0 : Option Addr) (c0 : Nat) (l0 : List St) (s f : Int) (A1 : Option Addr) (c1 : Nat) (l1 : List Int) (x y : Int) (w : World) (hG : TabG w) (h0 : Kd.C k88 w A0 l0.length l0) (hc0 : l0.length ≤ c0) (hw : wfSts l0)
    (h1 : Kd.C (Kd.int .i64) w A1 l1.length l1) (hc1 : l1.length ≤ c1) (hok : ∀ x ∈ l1, -9223372036854775808 ≤ x ∧ x ≤ 9223372036854775807) (x0 : 0 ≤ x) (x1 : x < 256) (y0 : 0 ≤ y) (y1 : y < 256) :
    Calls Tryd.prog 8 #[.agg #[.slice A0 l0.length c0, .int .i64 s, .int .i64 f], .slice A1 l1.length c1, .agg #[.int .u8 x, .int .u8 y]] w fun e w' => e = .returned (.bool true) ∧ Below w.heap.size w w' := by
  obtain ⟨n, rfl⟩ := Int.eq_ofNat_of_zero_le x0
  obtain ⟨m, rfl⟩ := Int.eq_ofNat_of_zero_le y0
  obtain ⟨k, hk⟩ := (alphaSteps_ev l0 s f l1 n m (by omega) (by omega) hw).ex
  exact tattinglaw10_AlphaSteps.calls k A0 c0 l0 s f A1 c1 l1 n m true w hG h0 hc0 h1 hc1 hk
end Go.Proofs.YtjgdpcblenahkaaDoor
