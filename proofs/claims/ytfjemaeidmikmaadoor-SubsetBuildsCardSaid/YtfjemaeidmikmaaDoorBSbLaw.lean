import Derived.Test.YtfjemaeidmikmaaDoorBSbRef
import Derived.Test.YtfjemaeidmikmaaDoorBSbAwake
import Derived.Test.YtfjemaeidmikmaaDoorBQTattinglaw11SubsetBuilds
import Derived.Test.YtfjemaeidmikmaaDoorBQ0
import Derived.Test.YtfjemaeidmikmaaDoorBM3
import Derived.Test.YtfjemaeidmikmaaDoorBQTattinglaw11Awake
import Derived.Test.YtfjemaeidmikmaaDoorBQTattingref09Right
import Derived.Test.YtfjemaeidmikmaaDoorBQTattingref11Build
import Derived.Test.YtfjemaeidmikmaaDoorBQXSubsetCount
set_option linter.unusedVariables false
set_option linter.unusedSimpArgs false
namespace Go.Proofs.YtfjemaeidmikmaaDoorQ
open Go.RowKit Go.Proofs.YtfjemaeidmikmaaDoorW.PrintWords Go.Proofs.YtfjemaeidmikmaaDoorW.PrintLast Go.Proofs.Bs Go.Proofs.YtfjemaeidmikmaaDoor
theorem rightN_both {sts : List St} {s f : Int} (h : rightN sts s f = true) : (0 ≤ s ∧ s < sts.length) ∧ 0 ≤ f ∧ f < sts.length := by
  unfold rightN at h
  simp only [Bool.and_eq_true, decide_eq_true_eq] at h
  exact ⟨h.1.2.1, h.1.2.2⟩
def rrunS (sts : List St) (s most : Int) : Qr := rrunQ sts s (firstsS sts) most
theorem rbuild_ev (sts : List St) (s f most : Int) (hR : rightN sts s f = true) (hw : wfSts sts) (hmost : most ≤ 1000) : EV (fun k => tattingref11_Build.f k sts s f most) (rfin f most (cls sts) (wid sts) (rrunS sts s most)) := by
  have hn := rightN_len hR
  have hok := okSts_of hR
  have hb := rightN_both hR
  have hF := firstsS_len sts
  have hwl := wid_le sts
  have hcl : (cls sts).length ≤ 1000000 := by rw [cls_len]; omega
  have hrf : EV (fun k => tattingref10_Firsts.f k (cls sts) (wid sts)) (firstsS sts) := rfirsts_ev (cls sts) hcl (wid sts) hwl.1
  have hof := of_eq sts s f [s] (by omega) (by show 1 ≤ 1000000; omega)
  have hcz := rclose_eq sts 0 s f (ofN sts.length [s]) hn hok (ofN_len _ _)
  unfold tattingref11_Build.f
  refine EV.bind (rclasses_ev sts s f hn hw) ?_
  dsimp only
  refine EV.bind hrf ?_
  refine EV.bind hof ?_
  refine EV.bind hcz ?_
  have h0 : okM sts.length [closeR sts 0 (ofN sts.length [s])] := fun m hm => by rw [List.mem_singleton.1 hm]; exact closeR_len _ _ _
  have h := rb_l0 sts s f most (cls sts) (wid sts) (firstsS sts) hok hn hw hb.2 (firstsS_ok sts) (by omega) (by omega) hmost (most + 1).toNat 0 ([closeR sts 0 (ofN sts.length [s])], []) (by omega) h0 (by show 1 ≤ 2000; omega) (by show 0 = 0 * _; omega)
  exact h
theorem runS_img (sts : List St) (s f most : Int) (hR : rightN sts s f = true) : runS sts s most = imgQ (rrunS sts s most) := run_img sts (okSts_of hR) s (firstsS sts) most
theorem acc_img (f : Int) (hf : 0 ≤ f) (m : List Bool) : accT f (listN m) = rdOf false m f := by
  obtain ⟨g, rfl⟩ := Int.eq_ofNat_of_zero_le hf
  rw [Bool.eq_iff_iff]
  unfold accT
  rw [List.any_eq_true]
  constructor
  · rintro ⟨x, hx, he⟩
    rw [beq_iff_eq] at he
    subst he
    unfold listN at hx
    obtain ⟨j, _, _, e, h⟩ := (mem_places _ _ _ _).1 hx
    have : g = j := by omega
    subst this
    exact h
  · intro h
    refine ⟨(g : Int), ?_, by simp⟩
    unfold listN
    rw [mem_places]
    have hl := pOf_lt (show pOf m g = true from h)
    exact ⟨g, by omega, by omega, rfl, h⟩
theorem buildS_rfin (sts : List St) (s f most : Int) (hR : rightN sts s f = true) : buildS sts s f most = if most < ((rrunS sts s most).1.length : Int) then ([], 0, 0, [], [], 5) else (cls sts, wid sts, 0, (rrunS sts s most).2, (rrunS sts s most).1.map (fun m => rdOf false m f), 0) := by
  have hb := rightN_both hR
  unfold buildS
  rw [if_pos hR, runS_img sts s f most hR]
  have hl : (imgQ (rrunS sts s most)).1.length = (rrunS sts s most).1.length := List.length_map _
  rw [hl]
  congr 1
  unfold imgQ
  rw [List.map_map]
  congr 5
  refine List.map_congr_left fun m _ => acc_img f hb.2.1 m
theorem same11 (c : List Int) (w s : Int) (nx : List Int) (l : List Bool) (hc : c.length ≤ 1000000000) (hx : nx.length ≤ 1000000000) (hn : l.length ≤ 1000000) : EV (fun k => tattingref11_Same.f k c w s nx l c w s nx l) true :=
  EV.now fun _ => if_pos ⟨⟨rfl, rfl, rfl, rfl, rfl⟩, hc, hx, hn⟩
theorem rout_len (sts : List St) (firsts : List Int) (most : Int) (hF : firsts.length ≤ 259) (hmost : most ≤ 1000) : ∀ (k a : Nat) (q : Qr), k + a ≤ 1001 → q.1.length ≤ 2000 → q.2.length = a * firsts.length → (routN sts firsts most k a q).1.length ≤ 2000 ∧ (routN sts firsts most k a q).2.length ≤ 1001 * 259
  | 0, a, q, hk, h1, h2 => ⟨h1, by rw [show (routN sts firsts most 0 a q) = q from rfl, h2]; exact Nat.mul_le_mul (by omega) hF⟩
  | k + 1, a, q, hk, h1, h2 => by
    unfold routN
    split
    · rename_i c
      have := rinN_len sts a q firsts
      exact rout_len sts firsts most hF hmost k (a + 1) _ (by omega) (by omega) (by rw [this.2.2, h2, Nat.succ_mul])
    · exact ⟨h1, by rw [h2]; exact Nat.mul_le_mul (by omega) hF⟩
theorem rrunS_len (sts : List St) (s most : Int) (hmost : most ≤ 1000) : (rrunS sts s most).1.length ≤ 2000 ∧ (rrunS sts s most).2.length ≤ 1001 * 259 := by
  have hF := firstsS_len sts
  have hwl := wid_le sts
  exact rout_len sts (firstsS sts) most (by omega) hmost _ 0 _ (by omega) (by simp) (by simp)
theorem sb_j0 (sts : List St) (s f most : Int) (hw : wfSts sts) (hmost : most ≤ 40) : EV (fun k => tattinglaw11_SubsetBuilds.j0 k most false sts s f) true := by
  have hB : subset_Build.f sts s f most = some (buildS sts s f most) := by
    unfold subset_Build.f
    rw [if_pos ⟨(wfB_iff _).2 hw, by omega⟩]
  refine EV.succ ?_
  simp only [tattinglaw11_SubsetBuilds.j0, Bool.false_eq_true, if_false, hB, Option.bind_some]
  refine EV.bind (rright_eq sts s f) ?_
  cases hR : rightN sts s f with
  | true =>
    simp only [if_true]
    have hl := rrunS_len sts s most (by omega)
    refine EV.bind (rbuild_ev sts s f most hR hw (by omega)) ?_
    rw [buildS_rfin sts s f most hR]
    unfold rfin
    generalize rrunS sts s most = q at *
    by_cases hm : most < (q.1.length : Int)
    · rw [if_pos hm, if_pos hm]
      simp only [Bool.false_eq_true, if_false, if_true, List.length_nil]
      exact EV.now fun _ => by simp [wrap64]
    · rw [if_neg hm, if_neg hm]
      simp only [if_true]
      refine EV.bind (same11 (cls sts) (wid sts) 0 q.2 _ (by rw [cls_len]; omega) (by omega) (by rw [List.length_map]; omega)) ?_
      exact EV.const
  | false =>
    have e : buildS sts s f most = ([], 0, 0, [], [], 3) := by
      unfold buildS
      rw [if_neg (by rw [hR]; decide)]
    rw [e]
    simp only [Bool.false_eq_true, if_false, if_true, List.length_nil]
    exact EV.now fun _ => by simp [wrap64]
theorem subsetBuilds_ev (sts : List St) (s f most : Int) (hw : wfSts sts) : EV (fun k => tattinglaw11_SubsetBuilds.f k sts s f most) true := by
  have ht : EV (fun k => tattinglaw11_SubsetBuilds.j0 k most true sts s f) true := EV.stop fun k => by simp [tattinglaw11_SubsetBuilds.j0]
  unfold tattinglaw11_SubsetBuilds.f
  rw [awake11]
  simp only [Option.bind_some, if_true, tattinglaw11_small.f]
  by_cases h1 : (sts.length : Int) ≤ 40
  · rw [decide_eq_true h1]
    simp only [if_true]
    by_cases h2 : most > 40
    · rw [decide_eq_true h2]; exact ht
    · rw [decide_eq_false h2]; exact sb_j0 sts s f most hw (by omega)
  · rw [decide_eq_false h1]
    simp only [Bool.false_eq_true, if_false]
    exact ht
end Go.Proofs.YtfjemaeidmikmaaDoorQ
namespace Go.Proofs.YtfjemaeidmikmaaDoor
open Go.RowKit Go.Proofs.YtfjemaeidmikmaaDoorQ Go.Proofs.YtfjemaeidmikmaaDoorW.PrintWords
theorem subsetBuilds_any (A0 : Option Addr) (c0 : Nat) (l0 : List St) (s f a1 : Int) (w : World) (hG : TabG w) (h0 : Kd.C k64 w A0 l0.length l0) (hc0 : l0.length ≤ c0) (hw : wfSts l0) :
    Calls Tryd.prog 3 #[.agg #[.slice A0 l0.length c0, .int .i64 s, .int .i64 f], .int .i64 a1] w fun e w' => e = .returned (.bool true) ∧ Below w.heap.size w w' := by
  obtain ⟨k, hk⟩ := (subsetBuilds_ev l0 s f a1 hw).ex
  exact tattinglaw11_SubsetBuilds.calls k A0 c0 l0 s f a1 true w hG h0 hc0 hk
end Go.Proofs.YtfjemaeidmikmaaDoor
