import Derived.Test.YtfjemaeidmikmaaDoorFSbFin
import Derived.Test.YtfjemaeidmikmaaDoorFRnFits
import Derived.Test.YtfjemaeidmikmaaDoorFQXNfaBuild
import Derived.Test.YtfjemaeidmikmaaDoorFM2
import Derived.Test.YtfjemaeidmikmaaDoorFQXTattingref07Size
import Derived.Test.YtfjemaeidmikmaaDoorFQTattinglaw11SubsetFits
set_option linter.unusedVariables false
set_option linter.unusedSimpArgs false
namespace Go.Proofs.YtfjemaeidmikmaaDoorQ
open Go.RowKit Go.Proofs.YtfjemaeidmikmaaDoorW.PrintWords Go.Proofs.YtfjemaeidmikmaaDoorW.PrintLast Go.Proofs.Bs Go.Proofs.YtfjemaeidmikmaaDoor
theorem fit_eq (sts : List St) (a b : Nat) (hR : rightN sts a b = true) (t : ByteArray) (G : Grid) (hG : ∀ i j : Nat, i ≤ j → j ≤ t.size → fitsN sts a b t i j = G i j) (i j : Nat) (hij : i ≤ j) (hj : j ≤ t.size) : fitsR sts a b t i j = G i j := by
  rw [← fits_page sts a b t i j hR hij hj];exact hG i j hij hj
section
variable (t : ByteArray) (G : Grid) (sts : List St) (a b : Nat) (CL : List Int) (WD : Int) (F : List Int) (q : Qr) (acc : List Bool)
theorem sf_l1 (ht : t.size ≤ 8) (hcl : Cl sts CL WD F) (hD : Dn sts F q.1.length q) (hl : q.1.length ≤ 1000) (hm0 : q.1[0]? = some (closeR sts 0 (ofN sts.length [(a : Int)]))) (hacc : acc = q.1.map fun m => rdOf false m (b : Int)) (hG : ∀ i j : Nat, i ≤ j → j ≤ t.size → fitsR sts a b t i j = G i j) (i : Nat) (hi : i ≤ t.size)
    (h : EV (fun k => tattinglaw11_SubsetFits.l0 k t (gridL t.size G) ((i + 1 : Nat) : Int) CL WD 0 q.2 acc) true) : ∀ d j : Nat, t.size + 1 - j = d → j ≤ t.size + 1 → i ≤ j → EV (fun k => tattinglaw11_SubsetFits.l1 k t (gridL t.size G) (i : Int) (j : Int) CL WD 0 q.2 acc) true := by
  have h0 : 0 < q.1.length := (List.getElem?_eq_some_iff.1 hm0).1;intro d
  induction d with
  | zero =>
    intro j hd hj hij;(refine EV.step h fun k => ?_);simp only [tattinglaw11_SubsetFits.l1];rw [if_neg (by omega), up1 i (by omega)]
  | succ d ih =>
    intro j hd hj hij;(have hjn : j ≤ t.size := by omega);(have p1 : (j : Int) ≤ (t.size : Int) := by omega);(have p2 : (0 : Int) ≤ (i : Int) := by omega);(have p3 : (i : Int) < ((gridL t.size G).length : Int) := by rw [gridL_len]; omega);(have p4 : (0 : Int) ≤ (j : Int) := by omega);(have p5 : (j : Int) < ((rd_L10 (gridL t.size G) (i : Int)).length : Int) := by rw [gridL_rlen hi]; omega);have p6 : rdOf false (rd_L10 (gridL t.size G) (i : Int)) (j : Int) = G i j := gridL_rd hi hjn
    have hwl : (wordW t i j).length ≤ 1000 := by
      unfold wordW;have := bytesW_len t i (j - i);split
      · simp
      · rw [List.length_append, List.length_append, this];split <;> split <;> simp <;> omega
    obtain ⟨k1, hk, hrun⟩ := run11_ev sts CL WD F hcl q acc hD hl h0 (wordW t i j) (wordW_in t i j) hwl;have hk1 := (List.getElem?_eq_some_iff.1 hk).1
    have hg0 : q.1.getD 0 [] = closeR sts 0 (ofN sts.length [(a : Int)]) := by
      rw [List.getD_eq_getElem?_getD, hm0, Option.getD_some]
    have hac : rdOf false acc (k1 : Int) = G i j := by
      have e : acc[k1]? = some (rdOf false (foldM sts (q.1.getD 0 []) (wordW t i j)) (b : Int)) := by
        rw [hacc, List.getElem?_map, hk, Option.map_some]
      show (acc.getD ((k1 : Nat) : Int).toNat false) = G i j
      rw [Int.toNat_natCast, List.getD_eq_getElem?_getD, e, Option.getD_some, hg0, fold_word, hG i j hij hjn]
    (have hal : acc.length = q.1.length := by rw [hacc, List.length_map]);(have q1 : (0 : Int) ≤ (k1 : Int) := by omega);(have q2 : (k1 : Int) < (acc.length : Int) := by omega);have hnext := ih (j + 1) (by omega) (by omega) (by omega);refine EV.succ ?_;simp only [tattinglaw11_SubsetFits.l1, p1, if_true];refine EV.bind (word_ev t (by omega) i j hij hjn) ?_;refine EV.bind hrun ?_;refine EV.congr (fun k => ?_) hnext;rw [if_pos q1, if_pos q2, if_pos p2, if_pos p3, if_pos p4, if_pos p5, hac, p6, if_neg (by simp), up1 j (by omega)]
theorem sf_l0 (ht : t.size ≤ 8) (hcl : Cl sts CL WD F) (hD : Dn sts F q.1.length q) (hl : q.1.length ≤ 1000) (hm0 : q.1[0]? = some (closeR sts 0 (ofN sts.length [(a : Int)]))) (hacc : acc = q.1.map fun m => rdOf false m (b : Int)) (hG : ∀ i j : Nat, i ≤ j → j ≤ t.size → fitsR sts a b t i j = G i j) : ∀ d i : Nat, t.size + 1 - i = d → i ≤ t.size + 1 →
    EV (fun k => tattinglaw11_SubsetFits.l0 k t (gridL t.size G) (i : Int) CL WD 0 q.2 acc) true := by
  intro d
  induction d with
  | zero =>
    intro i hd hi;(refine EV.stop fun k => ?_);simp only [tattinglaw11_SubsetFits.l0];rw [if_neg (by omega)]
  | succ d ih =>
    intro i hd hi;(have p1 : (i : Int) ≤ (t.size : Int) := by omega);(refine EV.step (sf_l1 t G sts a b CL WD F q acc ht hcl hD hl hm0 hacc hG i (by omega) (ih (i + 1) (by omega) (by omega)) _ i rfl (by omega) (by omega)) fun k => ?_);simp only [tattinglaw11_SubsetFits.l0];rw [if_pos p1]
end
theorem countS_r (sts : List St) (s f most : Int) (h0 : ¬ most < 0) (hR : rightN sts s f = true) : countS sts s f most = if most < ((rrunS sts s most).1.length : Int) then most + 1 else ((rrunS sts s most).1.length : Int) := by
  unfold countS;rw [if_neg (fun h => ?_), runS_img sts s f most hR]
  · have hl : (imgQ (rrunS sts s most)).1.length = (rrunS sts s most).1.length := List.length_map _;rw [hl]
  · rcases h with h | h
    · exact h0 h
    · rw [hR] at h; cases h
theorem take_nds3 {l : List S71} (h : ndsWf l = true) (m : Nat) : ndsWf (l.take m) = true := by
  unfold ndsWf at *;rw [List.all_eq_true] at *;(exact fun x hx => h x (List.take_subset _ _ hx))
theorem sf_j0 (T : List NdI) (hTw : ndsWf T = true) (hTl : T.length ≤ 30) (u : ByteArray) (hu : u.size ≤ 8) (hR : rightB (T.map ndOf) = true) (hs : attr fSz (T.map ndOf) ((T.map ndOf).length - 1) ≤ 60) : EV (fun k => tattinglaw11_SubsetFits.j0 k T u false) true := by
  have hlm : (T.map ndOf).length = T.length := List.length_map ndOf
  have hlen : 0 < T.length := by
    have := ((rightB_iff _).1 hR).2.2.1;rwa [hlm] at this
  have hmk := mk_fits (T.map ndOf) hR (fun x hx => by
    obtain ⟨y, hy, rfl⟩ := List.mem_map.1 hx
    exact setI_wf (ndsWf_at hTw hy)) (by omega) (attr fMk (T.map ndOf) ((T.map ndOf).length - 1) []).out (attr fMk (T.map ndOf) ((T.map ndOf).length - 1) []).first (attr fMk (T.map ndOf) ((T.map ndOf).length - 1) []).last rfl
  have hB : nfa_Build.f T = some ((attr fMk (T.map ndOf) (T.length - 1) []).out.set (attr fMk (T.map ndOf) (T.length - 1) []).last fSt, ((attr fMk (T.map ndOf) (T.length - 1) []).first : Int), ((attr fMk (T.map ndOf) (T.length - 1) []).last : Int), 0) := by
    unfold nfa_Build.f;rw [if_pos ⟨by omega, hTw⟩];unfold buildN;rw [if_pos hR, if_pos (by omega), hlm]
  have hall := all_ev T hTw (by omega) u (by omega) hR;rw [hlm] at hmk;generalize (attr fMk (T.map ndOf) (T.length - 1) []).out = o at *;generalize (attr fMk (T.map ndOf) (T.length - 1) []).first = a at *;generalize (attr fMk (T.map ndOf) (T.length - 1) []).last = b at *;obtain ⟨h3, h4, h5, h6⟩ := hmk;generalize o.set b fSt = sts at *;have h6u := h6 u;clear h6;generalize attr (fitG u.size (txN u)) (T.map ndOf) (T.length - 1) = G at *;have hG := fit_eq sts a b h3 u G h6u
  have hS : subset_Build.f sts a b 64 = some (buildS sts a b 64) := by
    unfold subset_Build.f;rw [if_pos ⟨(wfB_iff _).2 h4, by omega⟩]
  have hC : subset_Count.f sts a b 64 = some (countS sts a b 64) := by
    unfold subset_Count.f;rw [if_pos ⟨(wfB_iff _).2 h4, by omega⟩]
  have hbs := buildS_rfin sts a b 64 h3;have hcl := cl_of sts;have hcs := countS_r sts a b 64 (by decide) h3;have hdn := rrun_dn sts a (firstsS sts) 64 (by decide);obtain ⟨q, hq⟩ : ∃ q, rrunS sts (a : Int) 64 = q := ⟨_, rfl⟩;have hq2 : rrunQ sts (a : Int) (firstsS sts) 64 = q := hq;rw [hq2] at hdn;rw [hcs, hq] at hC;rw [hbs, hq] at hS
  have hrl2 : (64 : Int) < (q.1.length : Int) ∨ Dn sts (firstsS sts) q.1.length q ∧ q.1.length ≤ 64 ∧ q.1[0]? = some (closeR sts 0 (ofN sts.length [(a : Int)])) := by
    by_cases hm : (64 : Int) < (q.1.length : Int)
    · exact .inl hm
    · obtain ⟨d1, d2⟩ := hdn (by omega);exact .inr ⟨d1, by omega, d2⟩
  clear hcs hbs hdn hq hq2;refine EV.succ ?_;simp only [tattinglaw11_SubsetFits.j0, Bool.false_eq_true, if_false, hB, Option.bind_some, hS, if_true];rcases hrl2 with hm | ⟨hD, hl64, hm0⟩
  · rw [if_pos hm] at hC;rw [if_pos hm];(refine EV.stop fun k => ?_);simp [tattinglaw11_SubsetFits.j1, hC]
  · rw [if_neg (by omega)];generalize cls sts = CL at *;generalize wid sts = WD at *;generalize firstsS sts = F at *;generalize hacc : q.1.map (fun m => rdOf false m (b : Int)) = acc;have hl0 := sf_l0 u G sts a b CL WD F q acc hu hcl hD (by omega) hm0 hacc.symm hG _ 0 rfl (by omega)
    have hj1 : EV (fun k => tattinglaw11_SubsetFits.j1 k T u 0 0 false sts (a : Int) (b : Int) CL WD 0 q.2 acc) true := by
      refine EV.succ ?_;simp only [tattinglaw11_SubsetFits.j1, Bool.false_eq_true, if_false];refine EV.bind hall ?_;exact hl0
    exact hj1
theorem subsetFits_ev (l : List NdI) (hw : ndsWf l = true) (t : ByteArray) : EV (fun k => tattinglaw11_SubsetFits.f k l t) true := by
  (have hT : ∀ T u, EV (fun k => tattinglaw11_SubsetFits.j0 k T u true) true := fun T u => EV.stop fun k => by simp [tattinglaw11_SubsetFits.j0]);unfold tattinglaw11_SubsetFits.f;rw [awake11];(have m1 : 0 ≤ mn (l.length : Int) 30 := by unfold mn; omega);(have m2 : mn (l.length : Int) 30 ≤ (l.length : Int) := by unfold mn; omega);(have m5 : mn (l.length : Int) 30 ≤ 30 := by unfold mn; omega);(have n1 : 0 ≤ mn (t.size : Int) 8 := by unfold mn; omega);(have n2 : mn (t.size : Int) 8 ≤ (t.size : Int) := by unfold mn; omega);(have n5 : mn (t.size : Int) 8 ≤ 8 := by unfold mn; omega);simp only [if_true, m1, m2, n1, n2, Option.bind_some];generalize mn (l.length : Int) 30 = M at *;generalize mn (t.size : Int) 8 = Q at *;(have hTl : (l.take M.toNat).length ≤ 30 := by rw [List.length_take]; omega);have hTw := take_nds3 hw M.toNat;generalize l.take M.toNat = T at *;(have hts : (t.extract 0 Q.toNat).size ≤ 8 := by rw [ByteArray.size_extract]; omega);generalize t.extract 0 Q.toNat = u at *
  have h1 : tattingref04_Right.f T = some (rightB (T.map ndOf)) := by
    unfold tattingref04_Right.f;rw [if_pos ⟨by omega, hTw⟩]
  rw [h1];simp only [Option.bind_some];have hlm : (T.map ndOf).length = T.length := List.length_map ndOf
  cases hR : rightB (T.map ndOf) with
  | false =>
    simp only [Bool.false_eq_true, if_false];exact hT T u
  | true =>
    have hlen : 0 < T.length := by
      have := ((rightB_iff _).1 hR).2.2.1;rwa [hlm] at this
    have hsz := size_sz (T.map ndOf) hR (T.length - 1) (by omega);(have e1 : wrap64 ((T.length : Int) - 1) = ((T.length - 1 : Nat) : Int) := by unfold wrap64; omega)
    have h3 : tattingref07_Size.f T (wrap64 ((T.length : Int) - 1)) = some (min ((attr fSz (T.map ndOf) (T.length - 1) : Nat) : Int) 1048576) := by
      unfold tattingref07_Size.f;rw [e1, if_pos ⟨by omega, hTw, hR, by omega, by omega⟩, Int.toNat_natCast, hsz]
    simp only [if_true, h3, Option.bind_some];by_cases hs : attr fSz (T.map ndOf) (T.length - 1) ≤ 60
    · rw [show decide (min ((attr fSz (T.map ndOf) (T.length - 1) : Nat) : Int) 1048576 > 60) = false from decide_eq_false (by omega)];exact sf_j0 T hTw hTl u hts hR (by rw [hlm]; exact hs)
    · rw [show decide (min ((attr fSz (T.map ndOf) (T.length - 1) : Nat) : Int) 1048576 > 60) = true from decide_eq_true (by omega)];exact hT T u
end Go.Proofs.YtfjemaeidmikmaaDoorQ
namespace Go.Proofs.YtfjemaeidmikmaaDoor
open Go.RowKit Go.Proofs.YtfjemaeidmikmaaDoorQ Go.Proofs.YtfjemaeidmikmaaDoorW.PrintWords
theorem subsetFits_any (A0 : Option Addr) (c0 : Nat) (l0 : List NdI) (a1 : ByteArray) (w : World) (hG : TabG w) (h0 : Kd.C k71 w A0 l0.length l0) (hc0 : l0.length ≤ c0) (hw : ndsWf l0 = true) (hs : a1.size ≤ 140737488351232) :
    Calls Tryd.prog 5 #[.slice A0 l0.length c0, .string a1] w fun e w' => e = .returned (.bool true) ∧ Below w.heap.size w w' := by
  obtain ⟨k, hk⟩ := (subsetFits_ev l0 hw a1).ex;exact tattinglaw11_SubsetFits.calls k A0 c0 l0 a1 true w hG h0 hc0 hk
end Go.Proofs.YtfjemaeidmikmaaDoor
