/- Pruned from its seat's text: what the theorem hangs on. -/
import Derived.Test.YtibabfgfahlekaaGM5
import Derived.Test.YtibabfgfahlekaaGNfBuild
import Derived.Test.YtibabfgfahlekaaGM3
import Derived.Test.YtibabfgfahlekaaGQXTattingref07Size
/- The document's Build, walked for every list. -/
set_option linter.unusedVariables false
set_option linter.unusedSimpArgs false
namespace Go.Proofs.YtibabfgfahlekaaQ
open Go.RowKit Go.Proofs.YtibabfgfahlekaaW.PrintWords Go.Proofs.YtibabfgfahlekaaW.PrintLast Go.Proofs.Bs Go.Proofs.Ytibabfgfahlekaa

theorem nil_C (W : World) : Kd.C k72 W none 0 [] := (C_of_row' (n := 0) (sts := []) (World.ownsRow_nil W 0 _ _) rfl).2
set_option maxRecDepth 100000 in
set_option maxHeartbeats 800000 in
theorem rbuild_three (A0 : Option Addr) (c0 : Nat) (l0 : List S63) (w : World) (hr : Kd.C k63 w A0 l0.length l0) (hc : l0.length ≤ c0) (hz : tattingref04_Right.f l0 = some false) :
    Calls Try.prog 19 #[.slice A0 l0.length c0] w fun e w' => ∃ v, e = .returned (.tuple #[.agg #[v, .int .i64 0, .int .i64 0], .int .i64 3]) ∧ Kd.R k72 72 w' w.heap.size (fun _ => True) v [] ∧ Below w.heap.size w w' := by
  have HR := Lib.hid hr
  clear hr
  go_enter Try.func19, Try.ntmps19
  go_wp2_with fail
  refine (tattingref04_Right.calls A0 c0 l0 false _ (Kd.C_alloc HR.out _) hc hz).mono ?_
  rintro e w1 ⟨rfl, hb⟩
  have HB1 := Lib.hid (Go.Proofs.Ytibabfgfahlekaa.bel_then (Go.Proofs.Ytibabfgfahlekaa.bel_alloc (Below.refl _ _) _) hb)
  have hrow : w1.heap[w.heap.size]? = some (.cells #[.slice none 0 0, .int .i64 0, .int .i64 0] 44 (0, 0)) := (hb.block w.heap.size (by simp)).trans (heap_alloc_new w _)
  obtain ⟨q0, q1, q2, k0, k1, k2⟩ := part_row hrow
  clear hrow hb
  go_wp2_with fail
  refine bodyPost_ret (v := .tuple #[.agg #[.slice none 0 0, .int .i64 0, .int .i64 0], .int .i64 _]) (by simp [results, Try.results19, go_sem, q0, q1, q2, k0, k1, k2, Try.underlying44]) rfl ⟨_, rfl, own_R' (World.ownsRow_nil _ _ _ _), ?_⟩
  repeat refine Below.setCell ?_ (by simp) _
  exact HB1.out
set_option maxRecDepth 100000 in
set_option maxHeartbeats 800000 in
theorem rbuild_four (A0 : Option Addr) (c0 : Nat) (l0 : List S63) (w : World) (hr : Kd.C k63 w A0 l0.length l0) (hc : l0.length ≤ c0) (hlen : 0 < l0.length) (hl1 : l0.length ≤ 1000000) (hR : tattingref04_Right.f l0 = some true) (z : Int) (hz : tattingref07_Size.f l0 ((l0.length - 1 : Nat) : Int) = some z) (hz6 : 600 < z) :
    Calls Try.prog 19 #[.slice A0 l0.length c0] w fun e w' => ∃ v, e = .returned (.tuple #[.agg #[v, .int .i64 0, .int .i64 0], .int .i64 4]) ∧ Kd.R k72 72 w' w.heap.size (fun _ => True) v [] ∧ Below w.heap.size w w' := by
  have HR := Lib.hid hr
  have hl1 : ((l0.length : Int) - 1) = ((l0.length - 1 : Nat) : Int) := by omega
  have HL1 := Lib.hid hl1
  clear hr hl1
  go_enter Try.func19, Try.ntmps19
  go_wp2_with fail
  refine (tattingref04_Right.calls A0 c0 l0 true _ (Kd.C_alloc HR.out _) hc hR).mono ?_
  rintro e w1 ⟨rfl, hb⟩
  have HB1 := Lib.hid (Go.Proofs.Ytibabfgfahlekaa.bel_then (Go.Proofs.Ytibabfgfahlekaa.bel_alloc (Below.refl _ _) _) hb)
  have hzz : w.heap.size < w1.heap.size := Nat.lt_of_lt_of_le (by simp) hb.size
  have HROW := Lib.hid ((hb.block w.heap.size (by simp)).trans (heap_alloc_new w _))
  clear hb
  go_wp2_with fail
  rw [HL1.out]
  refine (tattingref07_Size.calls A0 c0 l0 _ z _ (Kd.C_below HR.out HB1.out) hc hz).mono ?_
  rintro e w2 ⟨rfl, hb⟩
  have HB2 := Lib.hid (Go.Proofs.Ytibabfgfahlekaa.bel_then HB1.out hb)
  obtain ⟨q0, q1, q2, k0, k1, k2⟩ := part_row ((hb.block w.heap.size hzz).trans HROW.out)
  clear hb
  go_wp2_with fail
  refine bodyPost_ret (v := .tuple #[.agg #[.slice none 0 0, .int .i64 0, .int .i64 0], .int .i64 _]) (by simp [results, Try.results19, go_sem, q0, q1, q2, k0, k1, k2, Try.underlying44]) rfl ⟨_, rfl, own_R' (World.ownsRow_nil _ _ _ _), ?_⟩
  repeat refine Below.setCell ?_ (by simp) _
  exact HB2.out
set_option maxRecDepth 100000 in
set_option maxHeartbeats 1600000 in
theorem rbuild_yes (A0 : Option Addr) (c0 : Nat) (l0 : List S63) (w : World) (hr : Kd.C k63 w A0 l0.length l0) (hc : l0.length ≤ c0) (hw : ndsWf l0 = true) (hR : rightB (l0.map ndOf) = true) (hs : attr fSz (l0.map ndOf) (l0.length - 1) ≤ 600) (R : Mk) (hRM : attr fMk (l0.map ndOf) (l0.length - 1) [] = R) :
    Calls Try.prog 19 #[.slice A0 l0.length c0] w fun e w' => ∃ v, e = .returned (.tuple #[.agg #[v, .int .i64 R.first, .int .i64 R.last], .int .i64 0]) ∧ Kd.R k72 72 w' w.heap.size (fun _ => True) v (R.out.set R.last fSt) ∧ Below w.heap.size w w' := by
  have hb0 := (rightB_iff _).1 hR
  have hlen : 0 < l0.length := by have := hb0.2.2.1; rwa [List.length_map] at this
  have hl512 : l0.length ≤ 512 := by have := hb0.1; rwa [List.length_map] at this
  have hsz := size_sz (l0.map ndOf) hR (l0.length - 1) (by rw [List.length_map]; omega)
  have hok := mk_ok (l0.map ndOf) hR (l0.length - 1) (by rw [List.length_map]; omega) []
  have hmake := fun (w0 : World) (h : Reads w0 7 A0 l0.length ((l0.map ndOf).flatMap Nd.cells)) => make_st A0 l0.length c0 (l0.map ndOf) hR (by omega) w0 h (l0.length - 1) (by rw [List.length_map]; omega)
  have hrd := reads_nds hr hw
  rw [hRM] at hok
  generalize hN : attr fSz (l0.map ndOf) (l0.length - 1) = N at *
  have hRt : tattingref04_Right.f l0 = some true := by unfold tattingref04_Right.f; rw [if_pos ⟨by omega, hw⟩, hR]
  have hz : tattingref07_Size.f l0 ((l0.length - 1 : Nat) : Int) = some (N : Int) := by
    unfold tattingref07_Size.f
    rw [if_pos ⟨by omega, hw, hR, by omega, by omega⟩, Int.toNat_natCast, hsz]
    congr 1
    omega
  have hla : R.last < R.out.length := by rw [hok.1]; simpa using hok.2.2.2.2
  have hol : R.out.length ≤ 600 := by rw [hok.1]; simpa using hs
  have HR := Lib.hid hr
  have HRD := Lib.hid hrd
  have HP := Lib.hid hmake
  have HRM := Lib.hid hRM
  have hn2 : ¬ ((N : Int) > 600) := by omega
  have hn3 : (N : Int) ≤ 600 := by omega
  have hl1 : ((l0.length : Int) - 1) = ((l0.length - 1 : Nat) : Int) := by omega
  have HL1 := Lib.hid hl1
  clear hr hrd hmake hb0 hsz hok hN hRM hl1
  go_enter Try.func19, Try.ntmps19
  go_wp2_with fail
  refine (tattingref04_Right.calls A0 c0 l0 true _ (Kd.C_alloc HR.out _) hc hRt).mono ?_
  rintro e w1 ⟨rfl, hb⟩
  have HB1 := Lib.hid (Go.Proofs.Ytibabfgfahlekaa.bel_then (Go.Proofs.Ytibabfgfahlekaa.bel_alloc (Below.refl _ _) _) hb)
  have hzz : w.heap.size < w1.heap.size := Nat.lt_of_lt_of_le (by simp) hb.size
  have HROW := Lib.hid ((hb.block w.heap.size (by simp)).trans (heap_alloc_new w _))
  clear hb
  go_wp2_with fail
  rw [HL1.out]
  refine (tattingref07_Size.calls A0 c0 l0 _ (N : Int) _ (Kd.C_below HR.out HB1.out) hc hz).mono ?_
  rintro e w2 ⟨rfl, hb⟩
  have HB2 := Lib.hid (Go.Proofs.Ytibabfgfahlekaa.bel_then HB1.out hb)
  have HRW2 := Lib.hid ((hb.block w.heap.size hzz).trans HROW.out)
  have hz2 : w.heap.size < w2.heap.size := Nat.lt_of_lt_of_le hzz hb.size
  have q0 := (part_row HRW2.out).1
  have HM := Lib.hid (HP.out w2 (HRD.out.below HB2.out))
  clear hb hzz HROW HP
  go_wp2_with fail
  rw [HL1.out]
  refine (HM.out w2 [] none 0 (nil_C _) (Nat.le_refl _) (Below.refl _ _) (by simp; omega)).mono ?_
  rintro e w4 ⟨A4, c4, m4, rfl, hm4, hO4, hX4⟩
  rw [HRM.out] at hm4 hO4
  rw [HRM.out]
  subst hm4
  have HO4 := Lib.hid hO4
  clear hO4
  clear HM
  have hrowP : (w4.alloc (.cells #[.slice A4 R.out.length c4, .int .i64 R.first, .int .i64 R.last] 79)).heap[w4.heap.size]? = some (.cells #[.slice A4 R.out.length c4, .int .i64 R.first, .int .i64 R.last] 79) := heap_alloc_new w4 _
  have hS5 : (w4.alloc (.cells #[.slice A4 R.out.length c4, .int .i64 R.first, .int .i64 R.last] 79)).ownsRow w2.heap.size 72 7 (.slice A4 R.out.length c4) R.out.length (R.out.flatMap stCells) := Go.Proofs.Ytibabfgfahlekaa.own_mono (HO4.out.alloc _) (Nat.le_refl _)
  have hB5 : Below w2.heap.size w2 (w4.alloc (.cells #[.slice A4 R.out.length c4, .int .i64 R.first, .int .i64 R.last] 79)) := Go.Proofs.Ytibabfgfahlekaa.bel_alloc hX4 _
  have hgP : ∀ g, (Value.slice A4 R.out.length c4).ownBlock = some g → ¬ g = w4.heap.size := fun g hg => by have := (HO4.out.lt g hg).2; omega
  have hPW : w2.heap.size ≤ w4.heap.size := hX4.size
  have hrow3 := (hB5.block w.heap.size hz2).trans HRW2.out
  have hbb : Below w.heap.size w (w4.alloc (.cells #[.slice A4 R.out.length c4, .int .i64 R.first, .int .i64 R.last] 79)) := Go.Proofs.Ytibabfgfahlekaa.bel_then HB2.out hB5
  clear hB5 hX4 q0
  go_upto_region 6 with fail
  generalize (w4.alloc (.cells #[.slice A4 R.out.length c4, .int .i64 R.first, .int .i64 R.last] 79)) = W5 at *
  generalize hP : w4.heap.size = P at *
  have hh := hrowP
  obtain ⟨h0, h1, h2, f0, f1, f2⟩ := part_row hrowP
  clear hrowP
  have HO := hS5
  obtain ⟨g, cap, hv, hg, hlt⟩ := HO.form (by omega)
  injection hv with hA _ hcap
  subst hA
  subst hcap
  have hne2 : ¬ g = P := hgP g rfl
  have hne : ¬ P = g := fun e => hne2 e.symm
  have hne3 : ¬ w.heap.size = g := by omega
  have hne4 : ¬ g = w.heap.size := by omega
  have hne5 : ¬ w.heap.size = P := by omega
  have hne6 : ¬ P = w.heap.size := by omega
  have hlf : (R.out.flatMap stCells).length = R.out.length * 7 := flat_length stCells 7 stCells_length _
  obtain ⟨u0, x0⟩ : ∃ u, W5.cell? ⟨g, R.last * 7, none⟩ = some u := by
    obtain ⟨u, hu⟩ : ∃ u, (R.out.flatMap stCells)[R.last * 7]? = some u := ⟨_, List.getElem?_eq_getElem (by omega)⟩
    have := HO.cellAt (R.last * 7) (by omega)
    rw [hu] at this
    exact ⟨u, this⟩
  obtain ⟨u1, x1⟩ : ∃ u, W5.cell? ⟨g, R.last * 7 + 1, none⟩ = some u := by
    obtain ⟨u, hu⟩ : ∃ u, (R.out.flatMap stCells)[R.last * 7 + 1]? = some u := ⟨_, List.getElem?_eq_getElem (by omega)⟩
    have := HO.cellAt (R.last * 7 + 1) (by omega)
    rw [hu] at this
    exact ⟨u, this⟩
  obtain ⟨u2, x2⟩ : ∃ u, W5.cell? ⟨g, R.last * 7 + 2, none⟩ = some u := by
    obtain ⟨u, hu⟩ : ∃ u, (R.out.flatMap stCells)[R.last * 7 + 2]? = some u := ⟨_, List.getElem?_eq_getElem (by omega)⟩
    have := HO.cellAt (R.last * 7 + 2) (by omega)
    rw [hu] at this
    exact ⟨u, this⟩
  obtain ⟨u3, x3⟩ : ∃ u, W5.cell? ⟨g, R.last * 7 + 3, none⟩ = some u := by
    obtain ⟨u, hu⟩ : ∃ u, (R.out.flatMap stCells)[R.last * 7 + 3]? = some u := ⟨_, List.getElem?_eq_getElem (by omega)⟩
    have := HO.cellAt (R.last * 7 + 3) (by omega)
    rw [hu] at this
    exact ⟨u, this⟩
  obtain ⟨u4, x4⟩ : ∃ u, W5.cell? ⟨g, R.last * 7 + 4, none⟩ = some u := by
    obtain ⟨u, hu⟩ : ∃ u, (R.out.flatMap stCells)[R.last * 7 + 4]? = some u := ⟨_, List.getElem?_eq_getElem (by omega)⟩
    have := HO.cellAt (R.last * 7 + 4) (by omega)
    rw [hu] at this
    exact ⟨u, this⟩
  obtain ⟨u5, x5⟩ : ∃ u, W5.cell? ⟨g, R.last * 7 + 5, none⟩ = some u := by
    obtain ⟨u, hu⟩ : ∃ u, (R.out.flatMap stCells)[R.last * 7 + 5]? = some u := ⟨_, List.getElem?_eq_getElem (by omega)⟩
    have := HO.cellAt (R.last * 7 + 5) (by omega)
    rw [hu] at this
    exact ⟨u, this⟩
  obtain ⟨u6, x6⟩ : ∃ u, W5.cell? ⟨g, R.last * 7 + 6, none⟩ = some u := by
    obtain ⟨u, hu⟩ : ∃ u, (R.out.flatMap stCells)[R.last * 7 + 6]? = some u := ⟨_, List.getElem?_eq_getElem (by omega)⟩
    have := HO.cellAt (R.last * 7 + 6) (by omega)
    rw [hu] at this
    exact ⟨u, this⟩
  have z0 := HO.frozenAt (R.last * 7)
  have z1 := HO.frozenAt (R.last * 7 + 1)
  have z2 := HO.frozenAt (R.last * 7 + 2)
  have z3 := HO.frozenAt (R.last * 7 + 3)
  have z4 := HO.frozenAt (R.last * 7 + 4)
  have z5 := HO.frozenAt (R.last * 7 + 5)
  have z6 := HO.frozenAt (R.last * 7 + 6)
  have hs7 := (((((((HO.stored (R.last * 7) (.int .i64 6)).1.stored (R.last * 7 + 1) (.int .i64 0)).1.stored (R.last * 7 + 2) (.int .i64 0)).1.stored (R.last * 7 + 3) (.int .u64 0)).1.stored (R.last * 7 + 4) (.int .u64 0)).1.stored (R.last * 7 + 5) (.int .u64 0)).1.stored (R.last * 7 + 6) (.int .u64 0)).1
  have hs8 : ((((((((W5.setCell ⟨g, R.last * 7, none⟩ (.int .i64 6)).setCell ⟨g, R.last * 7 + 1, none⟩ (.int .i64 0)).setCell ⟨g, R.last * 7 + 2, none⟩ (.int .i64 0)).setCell ⟨g, R.last * 7 + 3, none⟩ (.int .u64 0)).setCell ⟨g, R.last * 7 + 4, none⟩ (.int .u64 0)).setCell ⟨g, R.last * 7 + 5, none⟩ (.int .u64 0)).setCell ⟨g, R.last * 7 + 6, none⟩ (.int .u64 0))).ownsRow w2.heap.size 72 7 (.slice (some ⟨g, 0, none⟩) R.out.length c4) R.out.length ((R.out.set R.last fSt).flatMap stCells) := by
    rw [← sets7_flat fSt R.out R.last hla]
    exact hs7
  have HS := Lib.hid hs8
  have hot : ∀ q : Nat, q ≠ g → ((((((((W5.setCell ⟨g, R.last * 7, none⟩ (.int .i64 6)).setCell ⟨g, R.last * 7 + 1, none⟩ (.int .i64 0)).setCell ⟨g, R.last * 7 + 2, none⟩ (.int .i64 0)).setCell ⟨g, R.last * 7 + 3, none⟩ (.int .u64 0)).setCell ⟨g, R.last * 7 + 4, none⟩ (.int .u64 0)).setCell ⟨g, R.last * 7 + 5, none⟩ (.int .u64 0)).setCell ⟨g, R.last * 7 + 6, none⟩ (.int .u64 0))).heap[q]? = W5.heap[q]? := fun q hq => by
    repeat rw [heap_setCell_other _ _ _ _ (by exact hq)]
  have HH := Lib.hid ((hot P hne).trans hh)
  have HR3 := Lib.hid ((hot w.heap.size hne3).trans hrow3)
  have hb7 : Below w.heap.size w ((((((((W5.setCell ⟨g, R.last * 7, none⟩ (.int .i64 6)).setCell ⟨g, R.last * 7 + 1, none⟩ (.int .i64 0)).setCell ⟨g, R.last * 7 + 2, none⟩ (.int .i64 0)).setCell ⟨g, R.last * 7 + 3, none⟩ (.int .u64 0)).setCell ⟨g, R.last * 7 + 4, none⟩ (.int .u64 0)).setCell ⟨g, R.last * 7 + 5, none⟩ (.int .u64 0)).setCell ⟨g, R.last * 7 + 6, none⟩ (.int .u64 0))) := by
    repeat refine Below.setCell ?_ (by simp; omega) _
    exact hbb
  have HB7 := Lib.hid hb7
  clear HO hS5 hh hbb hrow3 hot hb7 hs7 hs8 hlf hgP
  go_upto_region 7 with fail
  generalize (((((((W5.setCell ⟨g, R.last * 7, none⟩ (.int .i64 6)).setCell ⟨g, R.last * 7 + 1, none⟩ (.int .i64 0)).setCell ⟨g, R.last * 7 + 2, none⟩ (.int .i64 0)).setCell ⟨g, R.last * 7 + 3, none⟩ (.int .u64 0)).setCell ⟨g, R.last * 7 + 4, none⟩ (.int .u64 0)).setCell ⟨g, R.last * 7 + 5, none⟩ (.int .u64 0)).setCell ⟨g, R.last * 7 + 6, none⟩ (.int .u64 0)) = W7 at *
  clear x0 x1 x2 x3 x4 x5 x6 z0 z1 z2 z3 z4 z5 z6 h0 h1 h2 f0 f1 f2
  obtain ⟨h0, h1, h2, f0, f1, f2⟩ := part_row HH.out
  obtain ⟨q0, q1, q2, k0, k1, k2⟩ := part_row HR3.out
  have hsl : (R.out.set R.last fSt).length = R.out.length := List.length_set
  have HSL := Lib.hid hsl
  clear hsl
  go_wp2_with fail
  refine bodyPost_ret (v := .tuple #[.agg #[.slice (some ⟨g, 0, none⟩) R.out.length c4, .int .i64 R.first, .int .i64 R.last], .int .i64 0]) (by simp [results, Try.results19, go_sem, h0, h1, h2, q0, q1, q2, k0, k1, k2, Try.underlying44]) rfl ⟨_, rfl, own_R' ?_, ?_⟩
  · rw [HSL.out]
    have h10 : W7.ownsRow (w.heap.size + 1) 72 7 (.slice (some ⟨g, 0, none⟩) R.out.length c4) R.out.length ((R.out.set R.last fSt).flatMap stCells) := Go.Proofs.Ytibabfgfahlekaa.own_mono HS.out (by omega)
    exact Go.Proofs.Ytibabfgfahlekaa.own_mono (ownsRow_setCell_below (ownsRow_setCell_below (ownsRow_setCell_below h10 (by simp) _) (by simp) _) (by simp) _) (by omega)
  · repeat refine Below.setCell ?_ (by simp) _
    exact HB7.out
end Go.Proofs.YtibabfgfahlekaaQ
