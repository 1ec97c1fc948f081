/- Pruned from its seat's text: what the theorem hangs on. -/
import Derived.Test.YtibabfgfahlekaaHNaLaw
import Derived.Test.YtibabfgfahlekaaHRnFits
import Derived.Test.YtibabfgfahlekaaHQXFactsSize
import Derived.Test.YtibabfgfahlekaaHQTattinglaw09NfaFits
/- NfaFits comes to true: plain. -/
set_option linter.unusedVariables false
set_option linter.unusedSimpArgs false
namespace Go.Proofs.YtibabfgfahlekaaQ
open Go.RowKit Go.Proofs.YtibabfgfahlekaaW.PrintWords Go.Proofs.YtibabfgfahlekaaW.PrintLast Go.Proofs.Bs Go.Proofs.Ytibabfgfahlekaa

section
variable (T : List NdI) (u : ByteArray) (G : Grid) (sts : List St) (a b : Int)
theorem ng_l1 (hw : wfSts sts) (hu : u.size ≤ 8) (hG : ∀ i j : Nat, i ≤ j → j ≤ u.size → fitsN sts a b u i j = G i j) (i : Nat) (hi : i ≤ u.size) (h : EV (fun k => tattinglaw09_NfaFits.l0 k T u (gridL u.size G) ((i + 1 : Nat) : Int) sts a b) true) : ∀ d j : Nat, u.size + 1 - j = d → j ≤ u.size + 1 → i ≤ j →
    EV (fun k => tattinglaw09_NfaFits.l1 k T u (gridL u.size G) (i : Int) (j : Int) sts a b) true := by
  intro d
  induction d with
  | zero =>
    intro j hd hj hij
    refine EV.step h fun k => ?_
    simp only [tattinglaw09_NfaFits.l1]
    rw [if_neg (by omega), up1 i (by omega)]
  | succ d ih =>
    intro j hd hj hij
    have p1 : (j : Int) ≤ (u.size : Int) := by omega
    have p2 : (0 : Int) ≤ (i : Int) := by omega
    have p3 : (i : Int) < ((gridL u.size G).length : Int) := by rw [gridL_len]; omega
    have p4 : (0 : Int) ≤ (j : Int) := by omega
    have p5 : (j : Int) < ((rd_L10 (gridL u.size G) (i : Int)).length : Int) := by rw [gridL_rlen hi]; omega
    have p6 : rdOf false (rd_L10 (gridL u.size G) (i : Int)) (j : Int) = G i j := gridL_rd hi (by omega)
    have p7 : nfa_Fits.f sts a b u (i : Int) (j : Int) = some (G i j) := by
      unfold nfa_Fits.f
      rw [if_pos ⟨(wfB_iff _).2 hw, by omega⟩, hG i j hij (by omega)]
    refine EV.step (ih (j + 1) (by omega) (by omega) (by omega)) fun k => ?_
    simp only [tattinglaw09_NfaFits.l1]
    rw [if_pos p1, p7, Option.bind_some, if_pos p2, if_pos p3, if_pos p4, if_pos p5, p6, if_neg (by simp), up1 j (by omega)]
theorem ng_l0 (hw : wfSts sts) (hu : u.size ≤ 8) (hG : ∀ i j : Nat, i ≤ j → j ≤ u.size → fitsN sts a b u i j = G i j) (hR : rightN sts a b = true) (hS : facts_Size.f T = some (sts.length : Int)) : ∀ d i : Nat, u.size + 1 - i = d → i ≤ u.size + 1 →
    EV (fun k => tattinglaw09_NfaFits.l0 k T u (gridL u.size G) (i : Int) sts a b) true := by
  intro d
  induction d with
  | zero =>
    intro i hd hi
    have hr := right_eq sts a b
    rw [hR] at hr
    refine EV.succ ?_
    simp only [tattinglaw09_NfaFits.l0]
    refine EV.congr (fun k => if_neg (by omega)) ?_
    refine EV.bind hr ?_
    rw [hS]
    simp only [if_true, Option.bind_some]
    exact EV.now fun _ => by simp
  | succ d ih =>
    intro i hd hi
    have p1 : (i : Int) ≤ (u.size : Int) := by omega
    refine EV.step (ng_l1 T u G sts a b hw hu hG i (by omega) (ih (i + 1) (by omega) (by omega)) _ i rfl (by omega) (by omega)) fun k => ?_
    simp only [tattinglaw09_NfaFits.l0]
    rw [if_pos p1]
end
theorem nfaFits_ev (l : List NdI) (hw : ndsWf l = true) (t : ByteArray) : EV (fun k => tattinglaw09_NfaFits.f k l t) true := by
  unfold tattinglaw09_NfaFits.f
  refine EV.bind awake9_ev ?_
  have m1 : 0 ≤ mn (l.length : Int) 30 := by unfold mn; omega
  have m2 : mn (l.length : Int) 30 ≤ (l.length : Int) := by unfold mn; omega
  have m5 : mn (l.length : Int) 30 ≤ 30 := by unfold mn; omega
  have n1 : 0 ≤ mn (t.size : Int) 8 := by unfold mn; omega
  have n2 : mn (t.size : Int) 8 ≤ (t.size : Int) := by unfold mn; omega
  have n5 : mn (t.size : Int) 8 ≤ 8 := by unfold mn; omega
  simp only [if_true, m1, m2, n1, n2, Option.bind_some]
  generalize mn (l.length : Int) 30 = M at *
  generalize mn (t.size : Int) 8 = Q at *
  have hTl : (l.take M.toNat).length ≤ 30 := by rw [List.length_take]; omega
  have hTw := take_nds hw M.toNat
  generalize l.take M.toNat = T at *
  have hts : (t.extract 0 Q.toNat).size ≤ 8 := by rw [ByteArray.size_extract]; omega
  generalize t.extract 0 Q.toNat = u at *
  have h2 : nfa_Build.f T = some (buildN (T.map ndOf)) := by
    unfold nfa_Build.f
    rw [if_pos ⟨by omega, hTw⟩]
  rw [h2]
  simp only [Option.bind_some]
  have hbad : ∀ c : Int, c ≠ 0 → buildN (T.map ndOf) = ([], 0, 0, c) → EV (fun k => if (buildN (T.map ndOf)).2.2.2 = 0 then ((tattingref07_All.f k T u).bind fun t115 => tattinglaw09_NfaFits.l0 k T u t115 0 (buildN (T.map ndOf)).1 (buildN (T.map ndOf)).2.1 (buildN (T.map ndOf)).2.2.1) else ((nfa_Right.f k (buildN (T.map ndOf)).1 (buildN (T.map ndOf)).2.1 (buildN (T.map ndOf)).2.2.1).bind fun t113 => (if t113 = true then (some false) else ((nfa_Fits.f (buildN (T.map ndOf)).1 (buildN (T.map ndOf)).2.1 (buildN (T.map ndOf)).2.2.1 u 0 0).bind fun t114 => (some (!t114)))))) true := by
    intro c hc hB
    rw [hB]
    have hr := right_eq [] 0 0
    have e : rightN [] 0 0 = false := by decide
    rw [e] at hr
    have hfit : nfa_Fits.f [] 0 0 u 0 0 = some false := by
      unfold nfa_Fits.f
      rw [if_pos ⟨rfl, by omega⟩]
      unfold fitsN
      rw [if_pos (.inr (.inr (.inr e)))]
    refine EV.congr (fun k => if_neg hc) ?_
    refine EV.bind hr ?_
    refine EV.congr (fun k => if_neg Bool.false_ne_true) ?_
    refine EV.now fun k => ?_
    show (nfa_Fits.f [] 0 0 u 0 0).bind _ = _
    rw [hfit]
    rfl
  have hlm : (T.map ndOf).length = T.length := List.length_map ndOf
  cases hR : rightB (T.map ndOf) with
  | false =>
    refine hbad 3 (by decide) ?_
    unfold buildN
    rw [if_neg (by rw [hR]; decide)]
  | true =>
    by_cases hs : attr fSz (T.map ndOf) ((T.map ndOf).length - 1) ≤ 600
    · have hlen : 0 < T.length := by
        have := ((rightB_iff _).1 hR).2.2.1
        rwa [hlm] at this
      have hmk := mk_fits (T.map ndOf) hR (fun x hx => by
        obtain ⟨y, hy, rfl⟩ := List.mem_map.1 hx
        exact setI_wf (ndsWf_at hTw hy)) hs (attr fMk (T.map ndOf) ((T.map ndOf).length - 1) []).out (attr fMk (T.map ndOf) ((T.map ndOf).length - 1) []).first (attr fMk (T.map ndOf) ((T.map ndOf).length - 1) []).last rfl
      have hB : buildN (T.map ndOf) = ((attr fMk (T.map ndOf) ((T.map ndOf).length - 1) []).out.set (attr fMk (T.map ndOf) ((T.map ndOf).length - 1) []).last fSt, ((attr fMk (T.map ndOf) ((T.map ndOf).length - 1) []).first : Int), ((attr fMk (T.map ndOf) ((T.map ndOf).length - 1) []).last : Int), 0) := by
        unfold buildN
        rw [if_pos hR, if_pos hs]
      have hS : facts_Size.f T = some (sizeN (T.map ndOf)) := by
        unfold facts_Size.f
        rw [if_pos ⟨by omega, hTw⟩]
      rw [sizeN_yes hR, size_sz (T.map ndOf) hR _ (by omega)] at hS
      rw [hB]
      generalize (attr fMk (T.map ndOf) ((T.map ndOf).length - 1) []).out = sts at *
      generalize (attr fMk (T.map ndOf) ((T.map ndOf).length - 1) []).first = a at *
      generalize (attr fMk (T.map ndOf) ((T.map ndOf).length - 1) []).last = b at *
      obtain ⟨h3, h4, h5, h6⟩ := hmk
      refine EV.congr (fun k => if_pos rfl) ?_
      refine EV.bind (all_ev T hTw (by omega) u (by omega) hR) ?_
      rw [hlm] at h6
      refine ng_l0 T u _ (sts.set b fSt) a b h4 hts (fun i j hij hj => h6 u i j hij hj) h3 ?_ _ 0 rfl (by omega)
      rw [hS, List.length_set]
      congr 1
      omega
    · refine hbad 4 (by decide) ?_
      unfold buildN
      rw [if_pos hR, if_neg hs]
end Go.Proofs.YtibabfgfahlekaaQ
namespace Go.Proofs.Ytibabfgfahlekaa
open Go.RowKit Go.Proofs.YtibabfgfahlekaaQ Go.Proofs.YtibabfgfahlekaaW.PrintWords
theorem nfaFits_any (A0 : Option Addr) (c0 : Nat) (l0 : List NdI) (a1 : ByteArray) (w : World) (h0 : Kd.C k63 w A0 l0.length l0) (hc0 : l0.length ≤ c0) (hw : ndsWf l0 = true) (hs : a1.size ≤ 140737488351232) :
    Calls Try.prog 6 #[.slice A0 l0.length c0, .string a1] w fun e w' => e = .returned (.bool true) ∧ Below w.heap.size w w' := by
  obtain ⟨k, hk⟩ := (nfaFits_ev l0 hw a1).ex
  exact tattinglaw09_NfaFits.calls k A0 c0 l0 a1 true w h0 hc0 hk
end Go.Proofs.Ytibabfgfahlekaa
