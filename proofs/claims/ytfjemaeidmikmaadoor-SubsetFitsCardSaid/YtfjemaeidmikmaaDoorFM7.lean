/- Several short texts of this proof, one behind the other. -/
import Derived.Test.YtfjemaeidmikmaaDoorFM6
import Derived.Test.YtfjemaeidmikmaaDoorFQTattinglaw11Awake
import Derived.Test.YtfjemaeidmikmaaDoorFM5
section
set_option linter.unusedVariables false
namespace Go.Proofs.YtfjemaeidmikmaaDoorQ
open Go.RowKit Go.Proofs.YtfjemaeidmikmaaDoorW.PrintWords Go.Proofs.YtfjemaeidmikmaaDoorW.PrintLast Go.Proofs.YtfjemaeidmikmaaDoor
theorem awake11 : tattinglaw11_awake.f = some true := by decide +kernel
end Go.Proofs.YtfjemaeidmikmaaDoorQ
end
section
set_option linter.unusedVariables false
set_option linter.unusedSimpArgs false
namespace Go.Proofs.YtfjemaeidmikmaaDoorQ
open Go.RowKit Go.Proofs.YtfjemaeidmikmaaDoorW.PrintWords Go.Proofs.YtfjemaeidmikmaaDoorW.PrintLast Go.Proofs.Bs Go.Proofs.YtfjemaeidmikmaaDoor
theorem rightN_both {sts : List St} {s f : Int} (h : rightN sts s f = true) : (0 ≤ s ∧ s < sts.length) ∧ 0 ≤ f ∧ f < sts.length := by
  unfold rightN at h;simp only [Bool.and_eq_true, decide_eq_true_eq] at h;exact ⟨h.1.2.1, h.1.2.2⟩
def rrunS (sts : List St) (s most : Int) : Qr := rrunQ sts s (firstsS sts) most
theorem runS_img (sts : List St) (s f most : Int) (hR : rightN sts s f = true) : runS sts s most = imgQ (rrunS sts s most) := run_img sts (okSts_of hR) s (firstsS sts) most
theorem acc_img (f : Int) (hf : 0 ≤ f) (m : List Bool) : accT f (listN m) = rdOf false m f := by
  obtain ⟨g, rfl⟩ := Int.eq_ofNat_of_zero_le hf;rw [Bool.eq_iff_iff];unfold accT;rw [List.any_eq_true];constructor
  · rintro ⟨x, hx, he⟩;rw [beq_iff_eq] at he;subst he;unfold listN at hx;obtain ⟨j, _, _, e, h⟩ := (mem_places _ _ _ _).1 hx;(have : g = j := by omega);subst this;exact h
  · intro h;refine ⟨(g : Int), ?_, by simp⟩;unfold listN;rw [mem_places];have hl := pOf_lt (show pOf m g = true from h);exact ⟨g, by omega, by omega, rfl, h⟩
theorem buildS_rfin (sts : List St) (s f most : Int) (hR : rightN sts s f = true) : buildS sts s f most = if most < ((rrunS sts s most).1.length : Int) then ([], 0, 0, [], [], 5) else (cls sts, wid sts, 0, (rrunS sts s most).2, (rrunS sts s most).1.map (fun m => rdOf false m f), 0) := by
  have hb := rightN_both hR;unfold buildS;rw [if_pos hR, runS_img sts s f most hR];have hl : (imgQ (rrunS sts s most)).1.length = (rrunS sts s most).1.length := List.length_map _;rw [hl];congr 1;unfold imgQ;rw [List.map_map];congr 5;(refine List.map_congr_left fun m _ => acc_img f hb.2.1 m)
end Go.Proofs.YtfjemaeidmikmaaDoorQ
end
