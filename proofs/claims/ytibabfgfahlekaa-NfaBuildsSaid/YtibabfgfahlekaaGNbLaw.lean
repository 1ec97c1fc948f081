/- Pruned from its seat's text: what the theorem hangs on. -/
import Derived.Test.YtibabfgfahlekaaGM1
import Derived.Test.YtibabfgfahlekaaGM5
import Derived.Test.YtibabfgfahlekaaGQXNfaFits
import Derived.Test.YtibabfgfahlekaaGQXTattingref09Build
import Derived.Test.YtibabfgfahlekaaGQTattinglaw09NfaBuilds
/- NfaBuilds comes to true: plain. -/
set_option linter.unusedVariables false
set_option linter.unusedSimpArgs false
namespace Go.Proofs.YtibabfgfahlekaaQ
open Go.RowKit Go.Proofs.YtibabfgfahlekaaW.PrintWords Go.Proofs.YtibabfgfahlekaaW.PrintLast Go.Proofs.Bs Go.Proofs.Ytibabfgfahlekaa

theorem ev_up {α : Type} {g : Nat → Option α} {r : α} (hm : ∀ k, LeO (g k) (g (k + 1))) (K : Nat) (h : g K = some r) : EV g r := by
  refine ⟨K, fun k hk => ?_⟩
  obtain ⟨d, rfl⟩ := Nat.le.dest hk
  induction d with
  | zero => exact h
  | succ d ih => exact hm _ _ (ih (by omega))
def exN : List Nd := [⟨1, ⟨0, 8589934592, 0, 0⟩, 0, 0⟩]
theorem exN_right : rightB exN = true := by decide +kernel
theorem build_exN : buildN exN = ([⟨1, 1, 0, ⟨0, 8589934592, 0, 0⟩⟩, ⟨6, 0, 0, ⟨0, 0, 0, 0⟩⟩], 0, 1, 0) := by
  obtain ⟨_, hall, _⟩ := (rightB_iff exN).1 exN_right
  have hf := (hall 0 (by decide)).1
  have hk : kidsP exN ((0 : Nat) : Int) = [] := List.eq_nil_of_length_eq_zero (kidsP_length exN 0 ⟨1, ⟨0, 8589934592, 0, 0⟩, 0, 0⟩ rfl hf)
  have hm := attr_eq fMk exN 0 (by decide) hf
  have hs := attr_eq fSz exN 0 (by decide) hf
  rw [hk] at hm hs
  unfold buildN
  rw [if_pos exN_right, show exN.length - 1 = 0 from rfl, hs, hm]
  first | rfl | kernel_rfl
theorem build_ex : nfa_Build.f (([(⟨1, (⟨0, 8589934592, 0, 0⟩ : S29), 0, 0⟩ : S63)] : List (S63))) = some ([⟨1, 1, 0, ⟨0, 8589934592, 0, 0⟩⟩, ⟨6, 0, 0, ⟨0, 0, 0, 0⟩⟩], 0, 1, 0) := by
  unfold nfa_Build.f
  rw [if_pos (by decide)]
  exact congrArg some build_exN
theorem awake9_ev : EV (fun k => tattinglaw09_awake.f k) true := by
  refine ev_up tattinglaw09_awake.mono 20 ?_
  unfold tattinglaw09_awake.f
  rw [build_ex]
  decide +kernel
theorem same_l0 (sts : List St) (s f : Int) (hl : sts.length ≤ 1000000) : ∀ d i : Nat, sts.length - i = d → i ≤ sts.length → EV (fun k => tattingref09_Same.l0 k (i : Int) sts s f sts s f) true := by
  intro d
  induction d with
  | zero =>
    intro i hd hi
    refine EV.stop fun k => ?_
    simp only [tattingref09_Same.l0]
    rw [if_neg (by omega)]
  | succ d ih =>
    intro i hd hi
    refine EV.step (ih (i + 1) (by omega) (by omega)) fun k => ?_
    simp only [tattingref09_Same.l0]
    rw [if_pos (by omega), if_pos (by omega), if_pos (by omega), show wrap64 ((i : Int) + 1) = ((i + 1 : Nat) : Int) by unfold wrap64; omega]
    simp
theorem same_ev (sts : List St) (s f : Int) (hl : sts.length ≤ 1000000) : EV (fun k => tattingref09_Same.f k sts s f sts s f) true := by
  unfold tattingref09_Same.f
  refine EV.congr (fun k => if_pos rfl) ?_
  refine EV.congr (fun k => if_pos rfl) ?_
  refine EV.step (same_l0 sts s f hl _ 0 rfl (Nat.zero_le _)) fun k => ?_
  simp [tattingref09_Same.j0]
theorem buildN_len (l : List Nd) : (buildN l).1.length ≤ 600 := by
  unfold buildN
  split
  · rename_i hR
    split
    · rename_i hs
      have hlen := ((rightB_iff _).1 hR).2.2.1
      have hok := mk_ok l hR (l.length - 1) (by omega) []
      show (List.set _ _ _).length ≤ 600
      rw [List.length_set, hok.1]
      simpa using hs
    · simp
  · simp
theorem take_nds {l : List S63} (h : ndsWf l = true) (m : Nat) : ndsWf (l.take m) = true := by
  unfold ndsWf at *
  rw [List.all_eq_true] at *
  exact fun x hx => h x (List.take_subset _ _ hx)
theorem nb_j0 (T : List S63) (hTl : T.length ≤ 60) (hTw : ndsWf T = true) : EV (fun k => tattinglaw09_NfaBuilds.j0 k T (buildN (T.map ndOf)).2.2.2 false (buildN (T.map ndOf)).1 (buildN (T.map ndOf)).2.1 (buildN (T.map ndOf)).2.2.1) true := by
  have h4 : tattingref09_Build.f T = some (buildN (T.map ndOf)) := by
    unfold tattingref09_Build.f
    rw [if_pos ⟨by omega, hTw⟩]
  have hlen := buildN_len (T.map ndOf)
  refine EV.succ ?_
  simp only [tattinglaw09_NfaBuilds.j0, Bool.false_eq_true, if_false, h4, Option.bind_some]
  generalize buildN (T.map ndOf) = B at *
  refine EV.bind (same_ev _ _ _ (by omega)) ?_
  simp only [if_true, beq_self_eq_true]
  exact EV.const
theorem nfaBuilds_ev (l : List S63) (hw : ndsWf l = true) : EV (fun k => tattinglaw09_NfaBuilds.f k l) true := by
  unfold tattinglaw09_NfaBuilds.f
  refine EV.bind awake9_ev ?_
  have m1 : 0 ≤ mn (l.length : Int) 60 := by unfold mn; omega
  have m2 : mn (l.length : Int) 60 ≤ (l.length : Int) := by unfold mn; omega
  have m5 : mn (l.length : Int) 60 ≤ 60 := by unfold mn; omega
  simp only [if_true, m1, m2, Option.bind_some]
  generalize mn (l.length : Int) 60 = M at *
  have hTl : (l.take M.toNat).length ≤ 60 := by rw [List.length_take]; omega
  have hTw := take_nds hw M.toNat
  generalize l.take M.toNat = T at *
  have h1 : tattingref04_Right.f T = some (rightB (T.map ndOf)) := by
    unfold tattingref04_Right.f
    rw [if_pos ⟨by omega, hTw⟩]
  have h2 : nfa_Build.f T = some (buildN (T.map ndOf)) := by
    unfold nfa_Build.f
    rw [if_pos ⟨by omega, hTw⟩]
  have hj := nb_j0 T hTl hTw
  rw [h1, h2]
  simp only [Option.bind_some]
  cases hR : rightB (T.map ndOf) with
  | false =>
    simp only [Bool.false_eq_true, if_false]
    exact hj
  | true =>
    have hlm : (T.map ndOf).length = T.length := List.length_map ndOf
    have hlen : 0 < T.length := by
      have := ((rightB_iff _).1 hR).2.2.1
      rwa [hlm] at this
    have hsz := size_sz (T.map ndOf) hR (T.length - 1) (by omega)
    have e1 : wrap64 ((T.length : Int) - 1) = ((T.length - 1 : Nat) : Int) := by unfold wrap64; omega
    have h3 : tattingref07_Size.f T (wrap64 ((T.length : Int) - 1)) = some (min ((attr fSz (T.map ndOf) (T.length - 1) : Nat) : Int) 1048576) := by
      unfold tattingref07_Size.f
      rw [e1, if_pos ⟨by omega, hTw, hR, by omega, by omega⟩, Int.toNat_natCast, hsz]
    simp only [if_true, h3, Option.bind_some]
    by_cases hs : attr fSz (T.map ndOf) (T.length - 1) ≤ 600
    · rw [show decide (min ((attr fSz (T.map ndOf) (T.length - 1) : Nat) : Int) 1048576 > 600) = false from decide_eq_false (by omega)]
      exact hj
    · rw [show decide (min ((attr fSz (T.map ndOf) (T.length - 1) : Nat) : Int) 1048576 > 600) = true from decide_eq_true (by omega)]
      have hB : buildN (T.map ndOf) = ([], 0, 0, 4) := by
        unfold buildN
        rw [if_pos hR, hlm, if_neg hs]
      rw [hB]
      refine EV.stop fun k => ?_
      simp [tattinglaw09_NfaBuilds.j0]
end Go.Proofs.YtibabfgfahlekaaQ
namespace Go.Proofs.Ytibabfgfahlekaa
open Go.RowKit Go.Proofs.YtibabfgfahlekaaQ Go.Proofs.YtibabfgfahlekaaW.PrintWords
theorem nfaBuilds_any (A0 : Option Addr) (c0 : Nat) (l0 : List S63) (w : World) (h0 : Kd.C k63 w A0 l0.length l0) (hc0 : l0.length ≤ c0) (hw : ndsWf l0 = true) :
    Calls Try.prog 5 #[.slice A0 l0.length c0] w fun e w' => e = .returned (.bool true) ∧ Below w.heap.size w w' := by
  obtain ⟨k, hk⟩ := (nfaBuilds_ev l0 hw).ex
  exact tattinglaw09_NfaBuilds.calls k A0 c0 l0 true w h0 hc0 hk
end Go.Proofs.Ytibabfgfahlekaa
