/- Pruned from its seat's text: what the theorem hangs on. -/
import Derived.Test.YtibabfgfahlekaaRNrPure
import Derived.Test.YtibabfgfahlekaaRNsPure
import Derived.Test.YtibabfgfahlekaaRQTattinglaw09NfaRuns
/- NfaRuns comes to true: plain. -/
set_option linter.unusedVariables false
set_option linter.unusedSimpArgs false
namespace Go.Proofs.YtibabfgfahlekaaQ
open Go.RowKit Go.Proofs.YtibabfgfahlekaaW.PrintWords Go.Proofs.YtibabfgfahlekaaW.PrintLast Go.Proofs.Bs

theorem rightN_fin {sts : List St} {s f : Int} (h : rightN sts s f = true) : 0 ≤ f ∧ f < sts.length := by
  unfold rightN at h
  simp only [Bool.and_eq_true, decide_eq_true_eq] at h
  omega
theorem bytesR_front (sts : List St) (text : ByteArray) (i : Nat) (m : List Bool) : ∀ k, bytesR sts text i m (k + 1) = bytesR sts text (i + 1) (stepR sts (bt text (i : Nat)) m) k
  | 0 => rfl
  | k + 1 => by
    show stepR sts _ (bytesR sts text i m (k + 1)) = stepR sts _ _
    rw [bytesR_front sts text i m k, show i + (k + 1) = i + 1 + k by omega]
/-- The end of Fits. -/
def endR (sts : List St) (f : Int) (text : ByteArray) (j : Nat) (m : List Bool) : Bool := rdOf false (if j = text.size then closeR sts 257 m else m) f
theorem rfits_l0 (sts : List St) (s f : Int) (text : ByteArray) (j : Nat) (hn : sts.length ≤ 600) (hok : okSts sts) (hw : wfSts sts) (hf : 0 ≤ f ∧ f < sts.length) (hj : j ≤ text.size) (hs : text.size ≤ 1000000) :
    ∀ (d i : Nat) (m : List Bool), j - i = d → i ≤ j → m.length = sts.length → EV (fun k => tattingref09_Fits.l0 k text (j : Int) m (i : Int) sts s f) (endR sts f text j (bytesR sts text i m d)) := by
  intro d
  induction d with
  | zero =>
    intro i m hd hi hm
    have hij : i = j := by omega
    by_cases he : j = text.size
    · have h := (EV.bind (rclose_eq sts 257 s f m hn hok hm) (h := fun (k : Nat) t121 => (if 0 ≤ f then (if f < (t121.length : Int) then (some (rdOf false t121 f)) else (none)) else (none))) (r := endR sts f text j m) (by
        have h2 := closeR_len sts 257 m
        unfold endR
        rw [if_pos hf.1, if_pos (by omega), if_pos he]
        exact EV.const))
      refine EV.step h fun k => ?_
      simp only [tattingref09_Fits.l0]
      rw [if_neg (by omega), if_pos (by omega)]
    · refine EV.stop fun k => ?_
      simp only [tattingref09_Fits.l0]
      rw [if_neg (by omega), if_neg (by omega), if_pos hf.1, if_pos (by omega)]
      unfold endR
      rw [if_neg he]
      rfl
  | succ d ih =>
    intro i m hd hi hm
    have hb := bt_range text (i : Int)
    have p1 : j - (i + 1) = d := by omega
    have p2 : i + 1 ≤ j := by omega
    have p3 : 0 ≤ bt text (i : Int) ∧ bt text (i : Int) < 256 := by omega
    have p4 : (i : Int) < (j : Int) := by omega
    have p5 : (0 : Int) ≤ (i : Int) := by omega
    have p6 : (i : Int) < (text.size : Int) := by omega
    have hwi : wrap64 ((i : Int) + 1) = ((i + 1 : Nat) : Int) := by rw [wrap_in (by omega) (by omega)]; omega
    have hwb : wrap64 (bt text (i : Int)) = bt text (i : Int) := wrap_in (by omega) (by omega)
    have h := EV.bind (rstep_eq sts (bt text (i : Int)) s f m hn hok hw p3 hm) (h := fun (k : Nat) t118 => tattingref09_Fits.l0 k text (j : Int) t118 ((i + 1 : Nat) : Int) sts s f) (ih (i + 1) _ p1 p2 (closeR_len _ _ _))
    rw [← bytesR_front] at h
    refine EV.step h fun k => ?_
    simp only [tattingref09_Fits.l0]
    rw [if_pos p4, if_pos p5, if_pos p6, hwb, hwi]
theorem rfits_eq (sts : List St) (s f : Int) (text : ByteArray) (i j : Nat) (hn : sts.length ≤ 600) (hR : rightN sts s f = true) (hw : wfSts sts) (hij : i ≤ j) (hj : j ≤ text.size) (hs : text.size ≤ 1000000) :
    EV (fun k => tattingref09_Fits.f k sts s f text (i : Int) (j : Int)) (fitsR sts s f text i j) := by
  have hok := okSts_of hR
  have hf := rightN_fin hR
  unfold tattingref09_Fits.f fitsR
  refine EV.bind (of_eq sts s f [s] (by omega) (by simp)) ?_
  refine EV.bind (rclose_eq sts 0 s f _ hn hok (ofN_len _ _)) ?_
  have hm := closeR_len sts 0 (ofN sts.length [s])
  generalize closeR sts 0 (ofN sts.length [s]) = m0 at *
  by_cases hz : text.size = 0
  · simp only [hz, if_true, Int.natCast_zero]
    refine EV.bind (rclose_eq sts 258 s f m0 hn hok hm) ?_
    have h2 := closeR_len sts 258 m0
    rw [if_pos hf.1, if_pos (by omega)]
    exact EV.const
  · have hz2 : ¬ ((text.size : Int) = 0) := by omega
    simp only [hz, hz2, if_false]
    have key : ∀ m : List Bool, m.length = sts.length → EV (fun k => tattingref09_Fits.j0 k text (i : Int) (j : Int) m sts s f) (endR sts f text j (bytesR sts text i m (j - i))) := fun m hm =>
      EV.step (rfits_l0 sts s f text j hn hok hw hf hj hs (j - i) i m rfl hij hm) fun k => by simp only [tattingref09_Fits.j0]
    by_cases hi : i = 0
    · have hi2 : (i : Int) = 0 := by omega
      simp only [hi2, hi, if_true]
      refine EV.bind (rclose_eq sts 256 s f m0 hn hok hm) ?_
      have := key _ (closeR_len sts 256 m0)
      rw [hi2, hi] at this
      exact this
    · have hi2 : ¬ ((i : Int) = 0) := by omega
      simp only [hi2, hi, if_false]
      exact key m0 hm
theorem nfaRuns_ev (sts : List St) (s f : Int) (a1 : ByteArray) (x y : Int) (hw : wfSts sts) : EV (fun k => tattinglaw09_NfaRuns.f k sts s f a1 x y) true := by
  unfold tattinglaw09_NfaRuns.f
  refine EV.bind awake_ev ?_
  have m1 : 0 ≤ mn (sts.length : Int) 30 := by unfold mn; omega
  have m2 : mn (sts.length : Int) 30 ≤ (sts.length : Int) := by unfold mn; omega
  have m3 : 0 ≤ mn (a1.size : Int) 8 := by unfold mn; omega
  have m4 : mn (a1.size : Int) 8 ≤ (a1.size : Int) := by unfold mn; omega
  have m5 : mn (sts.length : Int) 30 ≤ 30 := by unfold mn; omega
  have m6 : mn (a1.size : Int) 8 ≤ 8 := by unfold mn; omega
  simp only [if_true, m1, m2, m3, m4, Option.bind_some]
  generalize mn (sts.length : Int) 30 = M at *
  generalize mn (a1.size : Int) 8 = N at *
  have hTl : (sts.take M.toNat).length ≤ 30 := by rw [List.length_take]; omega
  have hXl : (a1.extract 0 N.toNat).size ≤ 8 := by rw [ByteArray.size_extract]; omega
  have hTw := take_wf hw M.toNat
  generalize sts.take M.toNat = T at *
  generalize a1.extract 0 N.toNat = X at *
  refine EV.bind (rright_eq T s f) ?_
  have hfit : ∀ b c : Bool, fitsN T s f X x y = b → (c = true → b = false) → (c = false → rightN T s f = true ∧ 0 ≤ x ∧ x ≤ y ∧ y ≤ X.size) → EV (fun k => tattinglaw09_NfaRuns.j0 k X x y c T s f) true := by
    intro b c hb h1 h0
    have e : nfa_Fits.f T s f X x y = some b := by
      unfold nfa_Fits.f
      rw [if_pos ⟨(wfB_iff _).2 hTw, by omega⟩, hb]
    cases c with
    | true =>
      refine EV.stop fun k => ?_
      simp only [tattinglaw09_NfaRuns.j0, if_true, e, Option.bind_some, h1 rfl, Bool.not_false]
    | false =>
      obtain ⟨hR, c0, c1, c2⟩ := h0 rfl
      obtain ⟨i, rfl⟩ := Int.eq_ofNat_of_zero_le c0
      obtain ⟨j, rfl⟩ := Int.eq_ofNat_of_zero_le (show 0 ≤ y by omega)
      have h := EV.bind (rfits_eq T s f X i j (by omega) hR hTw (by omega) (by omega) (by omega)) (h := fun (k : Nat) t111 => some (b == t111)) (r := true) (by
        rw [← fits_page T s f X i j hR (by omega) (by omega), hb]
        exact EV.now fun k => by simp)
      refine EV.step h fun k => ?_
      simp only [tattinglaw09_NfaRuns.j0, Bool.false_eq_true, if_false, e, Option.bind_some]
  have hbad : (x < 0 ∨ y < x ∨ (X.size : Int) < y ∨ rightN T s f = false) → fitsN T s f X x y = false := fun h => by
    unfold fitsN
    rw [if_pos h]
  by_cases hR : rightN T s f = true
  · simp only [hR, if_true]
    by_cases h1 : x < 0
    · simp only [if_pos h1]
      exact hfit false true (hbad (.inl h1)) (fun _ => rfl) (fun h => by cases h)
    · simp only [if_neg h1]
      by_cases h2 : y < x
      · simp only [if_pos h2]
        exact hfit false true (hbad (.inr (.inl h2))) (fun _ => rfl) (fun h => by cases h)
      · simp only [if_neg h2]
        by_cases h3 : y > (X.size : Int)
        · simp only [h3, decide_true]
          exact hfit false true (hbad (.inr (.inr (.inl h3)))) (fun _ => rfl) (fun h => by cases h)
        · simp only [h3, decide_false]
          exact hfit _ false rfl (fun h => by cases h) (fun _ => ⟨hR, by omega, by omega, by omega⟩)
  · have hR2 : rightN T s f = false := by
      cases h : rightN T s f with
      | true => exact absurd h hR
      | false => rfl
    simp only [hR2, Bool.false_eq_true, if_false]
    exact hfit false true (hbad (.inr (.inr (.inr hR2)))) (fun _ => rfl) (fun h => by cases h)
end Go.Proofs.YtibabfgfahlekaaQ
namespace Go.Proofs.Ytibabfgfahlekaa
open Go.RowKit Go.Proofs.YtibabfgfahlekaaQ
theorem nfaRuns_any (A0 : Option Addr) (c0 : Nat) (l0 : List St) (s f : Int) (a1 : ByteArray) (x y : Int) (w : World) (h0 : Go.Proofs.YtibabfgfahlekaaW.PrintWords.Kd.C k72 w A0 l0.length l0) (hc0 : l0.length ≤ c0) (hw : wfSts l0) (ha : a1.size ≤ 140737488351232) :
    Calls Try.prog 8 #[.agg #[.slice A0 l0.length c0, .int .i64 s, .int .i64 f], .string a1, .agg #[.int .i64 x, .int .i64 y]] w fun e w' => e = .returned (.bool true) ∧ Below w.heap.size w w' := by
  obtain ⟨k, hk⟩ := (nfaRuns_ev l0 s f a1 x y hw).ex
  exact tattinglaw09_NfaRuns.calls k A0 c0 l0 s f a1 x y true w h0 hc0 hk
end Go.Proofs.Ytibabfgfahlekaa
