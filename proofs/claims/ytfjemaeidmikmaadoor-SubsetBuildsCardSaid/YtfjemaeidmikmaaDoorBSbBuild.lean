import Derived.Test.YtfjemaeidmikmaaDoorBSbRun
import Derived.Test.YtfjemaeidmikmaaDoorBAlEv
import Derived.Test.YtfjemaeidmikmaaDoorBSbFirsts
set_option linter.unusedVariables false
set_option linter.unusedSimpArgs false
namespace Go.Proofs.YtfjemaeidmikmaaDoorQ
open Go.RowKit Go.Maps Go.Proofs.YtfjemaeidmikmaaDoorW.PrintWords Go.Proofs.YtfjemaeidmikmaaDoorW.PrintLast Go.Proofs.YtfjemaeidmikmaaDoor
def firstsS (sts : List St) : List Int := Al.firstsRow (min (wid sts).toNat 259) (cls sts)
def runS (sts : List St) (s most : Int) : Qt := runQ sts s (firstsS sts) most
def accT (f : Int) (t : List Int) : Bool := t.any fun x => x == f
def buildS (sts : List St) (s f most : Int) : List Int × Int × Int × List Int × List Bool × Int :=
  if rightN sts s f = true then
    (if most < ((runS sts s most).1.length : Int) then ([], 0, 0, [], [], 5) else (cls sts, wid sts, 0, (runS sts s most).2, (runS sts s most).1.map (accT f), 0))
  else ([], 0, 0, [], [], 3)
theorem wid_le (sts : List St) : 0 ≤ wid sts ∧ wid sts ≤ 259 := by
  have := Al.run_few (labs sts)
  rw [labs_len] at this
  unfold wid
  omega
theorem cls_mem (sts : List St) (c : Nat) (h : (c : Int) < wid sts) : (c : Int) ∈ cls sts := by
  unfold wid at h
  have hc : c < (Al.run (labs sts)).1.length := by omega
  have hm := (Al.run_mem (labs sts) _).1 (List.getElem_mem hc)
  unfold cls
  rw [Al.run_snd_map]
  refine List.mem_map.2 ⟨c, List.mem_map.2 ⟨(Al.run (labs sts)).1[c], hm, ?_⟩, rfl⟩
  exact (Al.run_nodup (labs sts)).idxOf_getElem c hc
theorem firstsS_len (sts : List St) : (firstsS sts).length = (wid sts).toNat := by
  have := wid_le sts
  unfold firstsS
  rw [Al.firstsRow_len]
  omega
theorem firstsS_ok (sts : List St) : ∀ x ∈ firstsS sts, 0 ≤ x ∧ x ≤ 258 := by
  intro x hx
  have hw := wid_le sts
  unfold firstsS Al.firstsRow at hx
  obtain ⟨c, hc, rfl⟩ := List.mem_map.1 hx
  rw [List.mem_range] at hc
  have hm := cls_mem sts c (by omega)
  unfold Al.firstAt
  rw [if_pos hm]
  have := List.idxOf_lt_length_of_mem hm
  rw [cls_len] at this
  omega
theorem wid_pos (sts : List St) : ¬ wid sts = 0 := by
  intro h
  have h1 : (cls sts).length = 259 := cls_len sts
  have h2 : (Al.run (labs sts)).1.length = 0 := by unfold wid at h; omega
  have hm := (Al.run_mem (labs sts) (lab sts 0)).2 (by
    unfold labs
    exact List.mem_map.2 ⟨0, List.mem_range.2 (by omega), rfl⟩)
  have := List.length_pos_of_mem hm
  omega
theorem two_blocks (w : World) (o1 o2 : Obj) : ((w.alloc o1).alloc o2).heap[w.heap.size]? = some o1 ∧ ((w.alloc o1).alloc o2).heap[w.heap.size + 1]? = some o2 := by
  have h1 := heap_alloc_new (w.alloc o1) o2
  have hs : (w.alloc o1).heap.size = w.heap.size + 1 := by simp
  rw [hs] at h1
  refine ⟨?_, h1⟩
  rw [((below_alloc (Below.refl (w.alloc o1).heap.size (w.alloc o1)) o2).block w.heap.size (by omega))]
  exact heap_alloc_new w o1
theorem row5 {w : World} {g t : Nat} {v0 v1 v2 v3 v4 : Value} (h : w.heap[g]? = some (.cells #[v0, v1, v2, v3, v4] t (0, 0))) :
    (w.cell? ⟨g, 0, none⟩ = some v0 ∧ w.cell? ⟨g, 1, none⟩ = some v1 ∧ w.cell? ⟨g, 2, none⟩ = some v2 ∧ w.cell? ⟨g, 3, none⟩ = some v3 ∧ w.cell? ⟨g, 4, none⟩ = some v4) ∧
    w.frozen? ⟨g, 0, none⟩ = false ∧ w.frozen? ⟨g, 1, none⟩ = false ∧ w.frozen? ⟨g, 2, none⟩ = false ∧ w.frozen? ⟨g, 3, none⟩ = false ∧ w.frozen? ⟨g, 4, none⟩ = false := by
  refine ⟨⟨?_, ?_, ?_, ?_, ?_⟩, frozen_of_row w g 0 _ t h, frozen_of_row w g 1 _ t h, frozen_of_row w g 2 _ t h, frozen_of_row w g 3 _ t h, frozen_of_row w g 4 _ t h⟩
  · rw [cell_of_row w g 0 _ t _ h]; rfl
  · rw [cell_of_row w g 1 _ t _ h]; rfl
  · rw [cell_of_row w g 2 _ t _ h]; rfl
  · rw [cell_of_row w g 3 _ t _ h]; rfl
  · rw [cell_of_row w g 4 _ t _ h]; rfl
set_option maxRecDepth 100000 in
set_option maxHeartbeats 3200000 in
theorem sbuild_no (A0 : Option Addr) (c0 : Nat) (sts : List St) (s f most : Int) (w : World) (hG : TabG w) (hr : Kd.C k64 w A0 sts.length sts) (hc : sts.length ≤ c0) (hR : rightN sts s f = false) :
    Calls Tryd.prog 8 #[.agg #[.slice A0 sts.length c0, .int .i64 s, .int .i64 f], .int .i64 most] w fun e w' => e = .returned (.tuple #[.agg #[.slice none 0 0, .int .i64 0, .int .i64 0, .slice none 0 0, .slice none 0 0], .int .i64 3]) ∧ Below w.heap.size w w' := by
  obtain ⟨k, hk⟩ := (classes_no sts s f hR).ex
  have hx := fun (w1 : World) (h1 : TabG w1) (h2 : Kd.C k64 w1 A0 sts.length sts) => alpha_Classes.calls k A0 c0 sts s f [] 0 w1 h1 h2 hc hk
  have HX := Lib.hid hx
  have HRR := Lib.hid hr
  have HG := Lib.hid hG
  clear hx hr hG hk
  go_enter Tryd.func8, Tryd.ntmps8
  go_wp2_with fail
  have hb0 := below_alloc (below_alloc (Below.refl w.heap.size w) (.cells #[.slice A0 sts.length c0, .int .i64 s, .int .i64 f] 24)) (.cells #[.slice none 0 0, .int .i64 0, .int .i64 0, .slice none 0 0, .slice none 0 0] 30)
  refine (HX.out _ (TabG.below HG.out hb0) (Kd.C_below HRR.out hb0)).mono ?_
  rintro e w1 ⟨v0, rfl, hv, hb⟩
  have hblk := (hb.block (w.heap.size + 1) (by simp)).trans (two_blocks w (.cells #[.slice A0 sts.length c0, .int .i64 s, .int .i64 f] 24) (.cells #[.slice none 0 0, .int .i64 0, .int .i64 0, .slice none 0 0, .slice none 0 0] 30)).2
  obtain ⟨⟨q0, q1, q2, q3, q4⟩, f0, f1, f2, f3, f4⟩ := row5 hblk
  obtain ⟨A1, c1, rfl⟩ := Kd.R_slice hv
  have HB := Lib.hid (Go.Proofs.YtfjemaeidmikmaaDoor.bel_then hb0 hb)
  clear hblk hv hb hb0
  go_wp2_with fail
  refine bodyPost_ret (v := .tuple #[.agg #[.slice none 0 0, .int .i64 0, .int .i64 0, .slice none 0 0, .slice none 0 0], .int .i64 3]) (by simp [results, Tryd.results8, go_sem, q0, q1, q2, q3, q4, f0, f1, f2, f3, f4, Tryd.underlying30]) rfl ⟨rfl, ?_⟩
  repeat refine Below.setCell ?_ (by simp) _
  exact HB.out
def bldO (A0 : Option Addr) (c0 : Nat) (sts : List St) (s f most : Int) (m : Nat) : Obj := .cells #[.slice A0 sts.length c0, .int .i64 s, .int .i64 f, .int .i64 most, .slice none 0 0, .map (some m)] 57
theorem sb_new (A0 : Option Addr) (c0 : Nat) (sts : List St) (s f most : Int) (w w1 w3 : World) (hb1 : Below w.heap.size w w1) (hb3 : Below ((w1.alloc (.map #[] 0)).alloc (bldO A0 c0 sts s f most w1.heap.size)).heap.size ((w1.alloc (.map #[] 0)).alloc (bldO A0 c0 sts s f most w1.heap.size)) w3) :
    SB w3 w.heap.size (w1.heap.size + 1) w1.heap.size (.slice A0 sts.length c0) (.int .i64 s) (.int .i64 f) (.int .i64 most) (.slice none 0 0) [] (.map []) 0 (okN (w1.heap.size + 1) w1.heap.size (.slice none 0 0)) := by
  have hz := hb1.size
  have h2 := two_blocks w1 (.map #[] 0) (bldO A0 c0 sts s f most w1.heap.size)
  refine SB.step ⟨h2.2, ?_, KMap.nil, Kd.R_nil _ _ _ _ _, fun k hk => hk.1, by omega, ⟨by omega, hz⟩, Nat.le_refl _⟩ hb3
  exact (World.ownsMap_made (H := Unit) w1 Tryd.prog 9 (plainElem Tryd.prog 3)).alloc _
set_option maxRecDepth 100000 in
set_option maxHeartbeats 6400000 in
theorem sbuild_many (A0 : Option Addr) (c0 : Nat) (sts : List St) (s f most : Int) (w : World) (hG : TabG w) (hr : Kd.C k64 w A0 sts.length sts) (hc : sts.length ≤ c0) (hR : rightN sts s f = true) (hw : wfSts sts) (hmost : most ≤ 1000) (hmany : most < ((runS sts s most).1.length : Int)) :
    Calls Tryd.prog 8 #[.agg #[.slice A0 sts.length c0, .int .i64 s, .int .i64 f], .int .i64 most] w fun e w' => e = .returned (.tuple #[.agg #[.slice none 0 0, .int .i64 0, .int .i64 0, .slice none 0 0, .slice none 0 0], .int .i64 5]) ∧ Below w.heap.size w w' := by
  obtain ⟨k, hk⟩ := (classes_yes sts s f hR hw).ex
  obtain ⟨k2, hk2⟩ := (afirsts_ev (cls sts) (by rw [cls_len]; omega) (wid sts) (wid_le sts).1).ex
  have hx := fun (w1 : World) (h1 : TabG w1) (h2 : Kd.C k64 w1 A0 sts.length sts) => alpha_Classes.calls k A0 c0 sts s f (cls sts) (wid sts) w1 h1 h2 hc hk
  have hy := fun (A : Option Addr) (c : Nat) (w1 : World) (h2 : Kd.C (Kd.int .i64) w1 A (cls sts).length (cls sts)) (hc : (cls sts).length ≤ c) => alpha_Firsts.calls k2 A c (cls sts) (wid sts) (firstsS sts) w1 h2 hc hk2
  have hfl : (firstsS sts).length ≤ 259 := by rw [firstsS_len]; have := wid_le sts; omega
  have HX := Lib.hid hx
  have HY := Lib.hid hy
  have HRR := Lib.hid hr
  have HG := Lib.hid hG
  have HR := Lib.hid hR
  have HW := Lib.hid hw
  have hfo := firstsS_ok sts
  have HFO := Lib.hid hfo
  have hw0 : (wid sts == 0) = false := by rw [beq_eq_false_iff_ne]; exact wid_pos sts
  have hw1 := wid_pos sts
  have hmm := @run_makeMap Tryd.prog
  clear hx hy hr hG hk hk2 hR hw hfo
  go_enter Tryd.func8, Tryd.ntmps8
  go_wp2_with fail
  have hb0 := below_alloc (below_alloc (Below.refl w.heap.size w) (.cells #[.slice A0 sts.length c0, .int .i64 s, .int .i64 f] 24)) (.cells #[.slice none 0 0, .int .i64 0, .int .i64 0, .slice none 0 0, .slice none 0 0] 30)
  refine (HX.out _ (TabG.below HG.out hb0) (Kd.C_below HRR.out hb0)).mono ?_
  rintro e w1 ⟨v0, rfl, hv, hb⟩
  have h2b := two_blocks w (.cells #[.slice A0 sts.length c0, .int .i64 s, .int .i64 f] 24) (.cells #[.slice none 0 0, .int .i64 0, .int .i64 0, .slice none 0 0, .slice none 0 0] 30)
  have hsz2 : ((w.alloc (.cells #[.slice A0 sts.length c0, .int .i64 s, .int .i64 f] 24)).alloc (.cells #[.slice none 0 0, .int .i64 0, .int .i64 0, .slice none 0 0, .slice none 0 0] 30)).heap.size = w.heap.size + 2 := by simp
  have hblkN := (hb.block w.heap.size (by omega)).trans h2b.1
  have hblkD := (hb.block (w.heap.size + 1) (by omega)).trans h2b.2
  have n0 : w1.cell? ⟨w.heap.size, 0, none⟩ = some (.slice A0 sts.length c0) := by rw [cell_of_row w1 _ 0 _ _ _ hblkN]; rfl
  have n1 : w1.cell? ⟨w.heap.size, 1, none⟩ = some (.int .i64 s) := by rw [cell_of_row w1 _ 1 _ _ _ hblkN]; rfl
  have n2 : w1.cell? ⟨w.heap.size, 2, none⟩ = some (.int .i64 f) := by rw [cell_of_row w1 _ 2 _ _ _ hblkN]; rfl
  obtain ⟨A1, c1, rfl⟩ := Kd.R_slice hv
  have hz1 : w.heap.size + 2 ≤ w1.heap.size := by have := hb.size; omega
  have HB1 := Lib.hid (Go.Proofs.YtfjemaeidmikmaaDoor.bel_then hb0 hb)
  have HD := Lib.hid hblkD
  have HV := Lib.hid hv
  clear hblkN hblkD hv hb hb0 h2b hsz2
  go_wp2_with fail
  refine (HY.out A1 c1 _ (Kd.C_alloc (Kd.C_alloc (Kd.R_reads' HV.out).2.2 _) _) (Kd.R_reads' HV.out).2.1).mono ?_
  rintro e w3 ⟨v3, rfl, hv3, hb3⟩
  obtain ⟨A3, c3, rfl⟩ := Kd.R_slice hv3
  have hsb := sb_new A0 c0 sts s f most w w1 w3 HB1.out hb3
  have hz5 : ((w1.alloc (.map #[] 0)).alloc (bldO A0 c0 sts s f most w1.heap.size)).heap.size = w1.heap.size + 2 := by simp
  have hz3 : w1.heap.size + 2 ≤ w3.heap.size := by have := hb3.size; simp at this; omega
  have hb5 := below_alloc (below_alloc (Below.refl w1.heap.size w1) (.map #[] 0)) (bldO A0 c0 sts s f most w1.heap.size)
  have hbw3 : Below w.heap.size w w3 := below_then HB1.out (by omega) (below_then hb5 (by omega) hb3)
  have hN3 : w3.heap[w.heap.size]? = w1.heap[w.heap.size]? := (hb3.block w.heap.size (by simp; omega)).trans (hb5.block _ (by omega))
  have hD3 : w3.heap[w.heap.size + 1]? = w1.heap[w.heap.size + 1]? := (hb3.block (w.heap.size + 1) (by simp; omega)).trans (hb5.block _ (by omega))
  have hrun := run_sb A0 c0 sts s f most w.heap.size (w1.heap.size + 1) w1.heap.size w3 _ _ hsb (by omega) (fun w' hb' => Kd.C_below HRR.out (hbw3.trans hb')) hc HR.out HW.out A3 c3 (firstsS sts) (Kd.R_mono (Kd.R_lower (Kd.R_bound hv3) (by simp; omega)) (fun k hk => by have := hk.2.1; simp at this; exact ⟨by omega, by omega⟩)) hfl HFO.out hmost
  have HRUN := Lib.hid hrun
  have HB3 := Lib.hid hbw3
  have HN3 := Lib.hid hN3
  have HD3 := Lib.hid (hD3.trans HD.out)
  have HV3 := Lib.hid hv3
  clear hsb hrun hbw3 hN3 hD3 hb3 hb5 hv3 hz5 n0 n1 n2
  go_wp2_with fail
  refine HRUN.out.mono ?_
  rintro e w4 ⟨v4, vN, D4, n4, rfl, hri, hb4⟩
  obtain ⟨As, cs, rfl⟩ := Kd.R_slice hri.sb.sets
  obtain ⟨k0, k1, k2, k3, k4, k5, k6⟩ := hri.sb.cells
  have hmany' : most < ((runQ sts s (firstsS sts) most).1.length : Int) := hmany
  obtain ⟨⟨q0, q1, q2, q3, q4⟩, f0, f1, f2, f3, f4⟩ := row5 ((hri.keep (w.heap.size + 1) (by omega) (by omega) (by omega)).trans HD3.out)
  have HB4 := Lib.hid (HB3.out.trans hb4)
  clear hri hb4 k0 k1 k2 k3 k5 k6 hmany
  go_wp2_with fail
  refine bodyPost_ret (v := .tuple #[.agg #[.slice none 0 0, .int .i64 0, .int .i64 0, .slice none 0 0, .slice none 0 0], .int .i64 5]) (by simp [results, Tryd.results8, go_sem, q0, q1, q2, q3, q4, f0, f1, f2, f3, f4, Tryd.underlying30]) rfl ⟨rfl, ?_⟩
  repeat refine Below.setCell ?_ (by simp) _
  exact HB4.out
theorem info_bl : (Tryd.prog.info? 4).map (fun i => (i.zero, i.size, i.bytes)) = some (some (.bool false), 1, 1) := by kernel_rfl
def bls (l : List Bool) : List Value := l.map Value.bool
theorem bls_zero (n : Nat) : (madeCells (Value.bool false).cells (n * 1)).toList = bls (List.replicate n false) := by
  rw [Nat.mul_one]
  show (madeCells #[Value.bool false] n).toList = _
  rw [toList_madeCells_one]
  simp [bls]
def accRow (S : List (List Int)) (f : Int) (i : Nat) (b : Bool) : List Bool := (S.take i).map (accT f) ++ b :: List.replicate (S.length - i - 1) false
theorem accRow_start (S : List (List Int)) (f : Int) (i : Nat) (h : i < S.length) : (S.take i).map (accT f) ++ List.replicate (S.length - i) false = accRow S f i false := by
  unfold accRow
  rw [show S.length - i = S.length - i - 1 + 1 by omega, List.replicate_succ]
  rfl
theorem accRow_get (S : List (List Int)) (f : Int) (i : Nat) (b : Bool) (h : i < S.length) : (bls (accRow S f i b))[i]? = some (.bool b) := by
  unfold bls accRow
  rw [List.getElem?_map, List.getElem?_append_right (by simp; omega), List.length_map, List.length_take, Nat.min_eq_left (by omega), Nat.sub_self]
  rfl
theorem accRow_set (S : List (List Int)) (f : Int) (i : Nat) (b c : Bool) (h : i < S.length) : (bls (accRow S f i b)).set i (.bool c) = bls (accRow S f i c) := by
  unfold bls accRow
  rw [← List.map_set, List.set_append_right _ _ (by simp; omega), List.length_map, List.length_take, Nat.min_eq_left (by omega), Nat.sub_self]
  rfl
theorem accRow_end (S : List (List Int)) (f : Int) (i : Nat) (h : i < S.length) : accRow S f i (accT f (S.getD i [])) = (S.take (i + 1)).map (accT f) ++ List.replicate (S.length - (i + 1)) false := by
  have e : S.take (i + 1) = S.take i ++ [S.getD i []] := by
    rw [List.take_add_one, List.getD_eq_getElem?_getD, List.getElem?_eq_getElem h]
    rfl
  unfold accRow
  rw [e, List.map_append, show S.length - i - 1 = S.length - (i + 1) by omega, List.append_assoc]
  rfl
theorem accT_snoc (f : Int) (t : List Int) (x : Int) : accT f (t ++ [x]) = (accT f t || x == f) := by
  unfold accT
  simp
set_option maxRecDepth 100000 in
set_option maxHeartbeats 6400000 in
theorem sbuild_yes (A0 : Option Addr) (c0 : Nat) (sts : List St) (s f most : Int) (w : World) (hG : TabG w) (hr : Kd.C k64 w A0 sts.length sts) (hc : sts.length ≤ c0) (hR : rightN sts s f = true) (hw : wfSts sts) (hmost : most ≤ 1000) (hfew : ¬ most < ((runS sts s most).1.length : Int)) :
    Calls Tryd.prog 8 #[.agg #[.slice A0 sts.length c0, .int .i64 s, .int .i64 f], .int .i64 most] w fun e w' => ∃ v0 v3 v4 : Value, e = .returned (.tuple #[.agg #[v0, .int .i64 (wid sts), .int .i64 0, v3, v4], .int .i64 0]) ∧ Kd.R (Kd.int .i64) 3 w' w.heap.size (fun k_ => some k_ ≠ (v3 : Value).ownBlock) v0 (cls sts) ∧ Kd.R (Kd.int .i64) 3 w' w.heap.size (fun k_ => some k_ ≠ (v0 : Value).ownBlock) v3 (runS sts s most).2 ∧ Kd.R Kd.bool 4 w' w.heap.size (fun _ => True) v4 ((runS sts s most).1.map (accT f)) ∧ Below w.heap.size w w' := by
  obtain ⟨k, hk⟩ := (classes_yes sts s f hR hw).ex
  obtain ⟨k2, hk2⟩ := (afirsts_ev (cls sts) (by rw [cls_len]; omega) (wid sts) (wid_le sts).1).ex
  have hx := fun (w1 : World) (h1 : TabG w1) (h2 : Kd.C k64 w1 A0 sts.length sts) => alpha_Classes.calls k A0 c0 sts s f (cls sts) (wid sts) w1 h1 h2 hc hk
  have hy := fun (A : Option Addr) (c : Nat) (w1 : World) (h2 : Kd.C (Kd.int .i64) w1 A (cls sts).length (cls sts)) (hc : (cls sts).length ≤ c) => alpha_Firsts.calls k2 A c (cls sts) (wid sts) (firstsS sts) w1 h2 hc hk2
  have hfl : (firstsS sts).length ≤ 259 := by rw [firstsS_len]; have := wid_le sts; omega
  have HX := Lib.hid hx
  have HY := Lib.hid hy
  have HRR := Lib.hid hr
  have HG := Lib.hid hG
  have HR := Lib.hid hR
  have HW := Lib.hid hw
  have hfo := firstsS_ok sts
  have HFO := Lib.hid hfo
  have hw0 : (wid sts == 0) = false := by rw [beq_eq_false_iff_ne]; exact wid_pos sts
  have hw1 := wid_pos sts
  have hmm := @run_makeMap Tryd.prog
  clear hx hy hr hG hk hk2 hR hw hfo
  go_enter Tryd.func8, Tryd.ntmps8
  go_wp2_with fail
  have hb0 := below_alloc (below_alloc (Below.refl w.heap.size w) (.cells #[.slice A0 sts.length c0, .int .i64 s, .int .i64 f] 24)) (.cells #[.slice none 0 0, .int .i64 0, .int .i64 0, .slice none 0 0, .slice none 0 0] 30)
  refine (HX.out _ (TabG.below HG.out hb0) (Kd.C_below HRR.out hb0)).mono ?_
  rintro e w1 ⟨v0, rfl, hv, hb⟩
  have h2b := two_blocks w (.cells #[.slice A0 sts.length c0, .int .i64 s, .int .i64 f] 24) (.cells #[.slice none 0 0, .int .i64 0, .int .i64 0, .slice none 0 0, .slice none 0 0] 30)
  have hsz2 : ((w.alloc (.cells #[.slice A0 sts.length c0, .int .i64 s, .int .i64 f] 24)).alloc (.cells #[.slice none 0 0, .int .i64 0, .int .i64 0, .slice none 0 0, .slice none 0 0] 30)).heap.size = w.heap.size + 2 := by simp
  have hblkN := (hb.block w.heap.size (by omega)).trans h2b.1
  have hblkD := (hb.block (w.heap.size + 1) (by omega)).trans h2b.2
  have n0 : w1.cell? ⟨w.heap.size, 0, none⟩ = some (.slice A0 sts.length c0) := by rw [cell_of_row w1 _ 0 _ _ _ hblkN]; rfl
  have n1 : w1.cell? ⟨w.heap.size, 1, none⟩ = some (.int .i64 s) := by rw [cell_of_row w1 _ 1 _ _ _ hblkN]; rfl
  have n2 : w1.cell? ⟨w.heap.size, 2, none⟩ = some (.int .i64 f) := by rw [cell_of_row w1 _ 2 _ _ _ hblkN]; rfl
  obtain ⟨A1, c1, rfl⟩ := Kd.R_slice hv
  have hz1 : w.heap.size + 2 ≤ w1.heap.size := by have := hb.size; omega
  have HB1 := Lib.hid (Go.Proofs.YtfjemaeidmikmaaDoor.bel_then hb0 hb)
  have HD := Lib.hid hblkD
  have HNN := Lib.hid hblkN
  have HV := Lib.hid hv
  clear hblkN hblkD hv hb hb0 h2b hsz2
  go_wp2_with fail
  refine (HY.out A1 c1 _ (Kd.C_alloc (Kd.C_alloc (Kd.R_reads' HV.out).2.2 _) _) (Kd.R_reads' HV.out).2.1).mono ?_
  rintro e w3 ⟨v3, rfl, hv3, hb3⟩
  obtain ⟨A3, c3, rfl⟩ := Kd.R_slice hv3
  have hsb := sb_new A0 c0 sts s f most w w1 w3 HB1.out hb3
  have hz5 : ((w1.alloc (.map #[] 0)).alloc (bldO A0 c0 sts s f most w1.heap.size)).heap.size = w1.heap.size + 2 := by simp
  have hz3 : w1.heap.size + 2 ≤ w3.heap.size := by have := hb3.size; simp at this; omega
  have hb5 := below_alloc (below_alloc (Below.refl w1.heap.size w1) (.map #[] 0)) (bldO A0 c0 sts s f most w1.heap.size)
  have hbw3 : Below w.heap.size w w3 := below_then HB1.out (by omega) (below_then hb5 (by omega) hb3)
  have hN3 : w3.heap[w.heap.size]? = w1.heap[w.heap.size]? := (hb3.block w.heap.size (by simp; omega)).trans (hb5.block _ (by omega))
  have hD3 : w3.heap[w.heap.size + 1]? = w1.heap[w.heap.size + 1]? := (hb3.block (w.heap.size + 1) (by simp; omega)).trans (hb5.block _ (by omega))
  have hrun := run_sb A0 c0 sts s f most w.heap.size (w1.heap.size + 1) w1.heap.size w3 _ _ hsb (by omega) (fun w' hb' => Kd.C_below HRR.out (hbw3.trans hb')) hc HR.out HW.out A3 c3 (firstsS sts) (Kd.R_mono (Kd.R_lower (Kd.R_bound hv3) (by simp; omega)) (fun k hk => by have := hk.2.1; simp at this; exact ⟨by omega, by omega⟩)) hfl HFO.out hmost
  have HRUN := Lib.hid hrun
  have HB3 := Lib.hid hbw3
  have HN3 := Lib.hid hN3
  have HD3 := Lib.hid (hD3.trans HD.out)
  have HV3 := Lib.hid hv3
  have HB13 := Lib.hid (below_then hb5 (by omega) hb3)
  have HNB := Lib.hid ((hN3.trans HNN.out))
  clear hsb hrun hbw3 hN3 hD3 hb3 hb5 hv3 hz5 n0 n1 n2
  go_wp2_with fail
  refine HRUN.out.mono ?_
  rintro e w4 ⟨v4, vN, D4, n4, rfl, hri, hb4⟩
  obtain ⟨q, hQ⟩ : ∃ q, runQ sts s (firstsS sts) most = q := ⟨_, rfl⟩
  rw [hQ] at hri
  have hQ2 : runS sts s most = q := hQ
  rw [hQ2] at hfew
  have HQ := Lib.hid hQ2
  clear hQ hQ2 HRUN
  obtain ⟨As, cs, rfl⟩ := Kd.R_slice hri.sb.sets
  obtain ⟨AN, cN, rfl⟩ := Kd.R_slice hri.nx
  obtain ⟨k0, k1, k2, k3, k4, k5, k6⟩ := hri.sb.cells
  have hfew' : ¬ most < (q.1.length : Int) := by omega
  have hLm : q.1.length ≤ 1000 := by omega
  obtain ⟨⟨q0, q1, q2, q3, q4⟩, f0, f1, f2, f3, f4⟩ := row5 ((hri.keep (w.heap.size + 1) (by omega) (by omega) (by omega)).trans HD3.out)
  have hN4 := (hri.keep w.heap.size (by omega) (by omega) (by omega)).trans HNB.out
  have n0 : w4.cell? ⟨w.heap.size, 0, none⟩ = some (.slice A0 sts.length c0) := by rw [cell_of_row w4 _ 0 _ _ _ hN4]; rfl
  have n1 : w4.cell? ⟨w.heap.size, 1, none⟩ = some (.int .i64 s) := by rw [cell_of_row w4 _ 1 _ _ _ hN4]; rfl
  have n2 : w4.cell? ⟨w.heap.size, 2, none⟩ = some (.int .i64 f) := by rw [cell_of_row w4 _ 2 _ _ _ hN4]; rfl
  have HB4 := Lib.hid (HB3.out.trans hb4)
  have HRI := Lib.hid hri
  have hz4 : w3.heap.size ≤ w4.heap.size := hri.size
  obtain ⟨i0, hi, hz0, hz1', hz2⟩ := info_parts info_bl
  have HLM := Lib.hid hLm
  have HZ := Lib.hid (And.intro hz1 (And.intro hz3 hz4))
  have hb7 : i0.bytes * q.1.length ≤ 281474976710656 := by rw [hz2]; omega
  have hb8 : q.1.length ≤ maxLen := by unfold maxLen; omega
  clear hri hb4 k0 k1 k2 k3 k5 k6 hfew hN4 hLm hmost hz1 hz3 hz4 hfl hc hmm hw0 hw1 hz2
  go_upto_region 8 with fail
  clear hfew'
  go_wp2_with (at_make; refine wpList_make_full _ rfl _ _ 28 rfl w4.heap.size 4 i0 (.bool false) 1 Tryd.underlying28 hi hz0 hz1' _ _ _ _ q.1.length rfl rfl rfl rfl hb7 hb8 (Nat.le_refl _) ?_; intro w5 HO5 hg5; have hbx5 : Below w4.heap.size w4 w5 := (Below.refl _ _).grown hg5 (Nat.le_refl _) (fun j hj => by cases hj); have k45 := Go.Proofs.YtfjemaeidmikmaaDoor.cell_below hbx5 k4)
  rw [bls_zero] at HO5
  have HO6 := Lib.hid HO5
  have HB6 := Lib.hid hbx5
  clear HO5 hg5 hbx5 hb7 hb8 hi hz0 hz1'
  go_loopw [11, 12, 14, 52] (fun _ _ _ x52 wr => ∃ i : Nat, x52 = .int .i64 i ∧ i ≤ q.1.length ∧ wr.ownsRow w4.heap.size 4 1 (.slice (some ⟨w4.heap.size, 0, none⟩) q.1.length q.1.length) q.1.length (bls ((q.1.take i).map (accT f) ++ List.replicate (q.1.length - i) false)) ∧ Below w4.heap.size w4 wr) (fun _ _ _ x52 _ => q.1.length - (intOf x52).toNat)
  case atStart => exact ⟨0, rfl, by omega, HO6.out, HB6.out⟩
  case round =>
    clear HO6 HB6 k45
    obtain ⟨i, rfl, hi, hO, hbx⟩ := hrel
    by_cases hlt : i < q.1.length
    · obtain ⟨ads, css, A2, c2, e2, ce, hce, hC⟩ := HRI.out.elem hlt
      injection e2 with e2 _ e3
      subst e2
      subst e3
      have hend := accRow_end q.1 f i hlt
      rw [accRow_start q.1 f i hlt] at hO
      have HEND := Lib.hid hend
      have hT1 : q.1.getD i [] ∈ q.1 := getD_mem hlt
      generalize q.1.getD i [] = T1 at *
      have ce2 := Go.Proofs.YtfjemaeidmikmaaDoor.cell_below hbx ce
      have HC := Lib.hid hC
      have HO7 := Lib.hid hO
      have HBX := Lib.hid hbx
      have hlt' : (i : Int) < (q.1.length : Int) := by omega
      clear hC hO hbx hend ce hce
      go_wp2_with fail
      go_loopw [14, 59] (fun _ x59 wr => ∃ j : Nat, x59 = .int .i64 j ∧ j ≤ T1.length ∧ wr.ownsRow w4.heap.size 4 1 (.slice (some ⟨w4.heap.size, 0, none⟩) q.1.length q.1.length) q.1.length (bls (accRow q.1 f i (accT f (T1.take j)))) ∧ Below w4.heap.size w4 wr) (fun _ x59 _ => T1.length - (intOf x59).toNat)
      case atStart => exact ⟨0, rfl, by omega, HO7.out, HBX.out⟩
      case round =>
        clear HO7 HBX ce2
        obtain ⟨j, rfl, hj, hO, hbx⟩ := hrel
        by_cases hjt : j < T1.length
        · have hC2 := Kd.C_below HC.out hbx
          obtain ⟨adt, x, rfl, hx, cx⟩ := (reads_of_C hC2).int hjt
          have htk := take_snoc' hx
          have hsn := accT_snoc f (T1.take j) x
          rw [← htk] at hsn
          have cv := (hO.cellAt i (by omega)).trans (accRow_get q.1 f i (accT f (T1.take j)) hlt)
          have fz := hO.frozenAt i
          have n22 := Go.Proofs.YtfjemaeidmikmaaDoor.cell_below hbx n2
          have hst := hO.stored i
          have HST := Lib.hid hst
          have hrs := fun c => accRow_set q.1 f i (accT f (T1.take j)) c hlt
          have HRS := Lib.hid hrs
          have HSN := Lib.hid hsn
          have HBY := Lib.hid hbx
          have hjt' : (j : Int) < (T1.length : Int) := by omega
          have hTl : T1.length ≤ 9223372036854775807 := hC2.2.1
          clear hC2 hx htk hsn hst hrs hO hbx
          by_cases hb : accT f (T1.take j) = true
          · have hsn2 := HSN.out
            rw [hb] at cv hsn2
            have HS2 := Lib.hid hsn2
            clear hsn2
            go_wp2_with fail
            go_roundw
            case rel =>
              refine ⟨j + 1, by go_num, by omega, ?_, HBY.out.setCell (by simp) _⟩
              rw [HS2.out, Bool.true_or, ← HRS.out true]
              exact (HST.out _).1
            case measure => simp [intOf] <;> omega
          · have hb2 : accT f (T1.take j) = false := by simpa using hb
            have hsn2 := HSN.out
            rw [hb2, Bool.false_or] at hsn2
            rw [hb2] at cv
            have HS2 := Lib.hid hsn2
            clear hsn2
            by_cases hxf : x = f
            · subst hxf
              go_wp2_with fail
              go_roundw
              case rel =>
                refine ⟨j + 1, by go_num, by omega, ?_, HBY.out.setCell (by simp) _⟩
                rw [HS2.out, beq_self_eq_true, ← HRS.out true]
                exact (HST.out _).1
              case measure => simp [intOf] <;> omega
            · have hxf2 : (x == f) = false := by simpa using hxf
              go_wp2_with fail
              go_roundw
              case rel =>
                refine ⟨j + 1, by go_num, by omega, ?_, HBY.out.setCell (by simp) _⟩
                rw [HS2.out, hxf2, ← HRS.out false]
                exact (HST.out _).1
              case measure => simp [intOf] <;> omega
        · obtain rfl : j = T1.length := by omega
          have e : T1.take T1.length = T1 := List.take_length
          rw [e, HEND.out] at hO
          have HO8 := Lib.hid hO
          have HBY := Lib.hid hbx
          have hLq : q.1.length ≤ 1000 := HLM.out
          clear hO hbx e hjt
          go_wp2_with fail
          go_roundw
          case rel => exact ⟨i + 1, by go_num, by omega, HO8.out, HBY.out⟩
          case measure => simp [intOf] <;> omega
    · obtain rfl : i = q.1.length := by omega
      have hO2 := hO
      rw [List.take_length, Nat.sub_self, List.replicate_zero, List.append_nil] at hO2
      have HO8 := Lib.hid hO2
      have HBY := Lib.hid hbx
      obtain ⟨hz1, hz3, hz4⟩ := HZ.out
      obtain ⟨⟨p0, p1, p2, p3, p4⟩, g0, g1, g2, g3, g4⟩ := row5 ((hbx.block (w.heap.size + 1) (by omega)).trans ((HRI.out.keep (w.heap.size + 1) (by omega) (by omega) (by omega)).trans HD3.out))
      clear hO hO2 hbx hlt hi q0 q1 q2 q3 q4 f0 f1 f2 f3 f4 hz1 hz3 hz4
      go_wp2_with fail
      obtain ⟨hz1, hz3, hz4⟩ := HZ.out
      have hclsL : (cls sts).length = 259 := cls_len sts
      have hvb := Kd.R_bound HV.out
      have hown1 := Kd.R_lt HV.out
      have hr1 := Kd.R_below hvb HB13.out
      have hr2 := Kd.R_step (w1 := w4) hr1 (fun k hk hlt => HRI.out.keep k hlt (by have := hk.2.2.1; omega) (by have := hk.2.2.1; omega))
      have hr3 := Kd.R_below hr2 HBY.out
      have hba : w.heap.size + 2 ≤ ((w.alloc (.cells #[.slice A0 sts.length c0, .int .i64 s, .int .i64 f] 24)).alloc (.cells #[.slice none 0 0, .int .i64 0, .int .i64 0, .slice none 0 0, .slice none 0 0] 30)).heap.size := by simp
      have hr4 : Kd.R (Kd.int .i64) 3 wr w.heap.size (fun k => some k ≠ (Value.slice AN q.2.length cN).ownBlock ∧ k ≠ w.heap.size + 1) (.slice A1 (cls sts).length c1) (cls sts) :=
        Kd.R_mono (Kd.R_lower hr3 (by omega)) (fun k hk => ⟨fun e => by have := HRI.out.nlow k e.symm; have := hk.2.2.1; omega, by have := hk.2.1; omega⟩)
      have hx1 := Kd.R_below (Kd.R_tight rfl HRI.out.nx) HBY.out
      have hx2 : Kd.R (Kd.int .i64) 3 wr w.heap.size (fun k => some k ≠ (Value.slice A1 (cls sts).length c1).ownBlock ∧ k ≠ w.heap.size + 1) (.slice AN q.2.length cN) q.2 :=
        Kd.R_mono hx1 (fun k hk => ⟨fun e => by have := HRI.out.nlow k hk.symm; have := hown1 k e.symm; omega, by have := HRI.out.nlow k hk.symm; omega⟩)
      have ho1 : Kd.R Kd.bool 4 wr w4.heap.size (fun k => k ≠ w.heap.size + 1) (.slice (some ⟨w4.heap.size, 0, none⟩) q.1.length q.1.length) (q.1.map (accT f)) := by
        refine Kd.R_of_own (enc := Value.bool) (h1 := fun _ => rfl) ?_ (fun k hk => ?_)
        · rw [List.length_map]
          exact HO8.out
        · have : w4.heap.size = k := by simpa [Value.ownBlock] using hk
          omega
      have HR4 := Lib.hid hr4
      have HX2 := Lib.hid hx2
      have HO1 := Lib.hid (Kd.R_lower (base' := w.heap.size) ho1 (by omega))
      have HBF := Lib.hid (HB4.out.trans (HBY.out.mono (by omega)))
      clear hvb hown1 hr1 hr2 hr3 hr4 hx1 hx2 ho1 hba hclsL
      refine bodyPost_ret (v := .tuple #[.agg #[.slice A1 (cls sts).length c1, .int .i64 (wid sts), .int .i64 0, .slice AN q.2.length cN, .slice (some ⟨w4.heap.size, 0, none⟩) q.1.length q.1.length], .int .i64 0]) (by simp [results, Tryd.results8, go_sem, p0, p1, p2, p3, p4, g0, g1, g2, g3, g4, Tryd.underlying30]) rfl ⟨_, _, _, rfl, ?_, ?_, ?_, ?_⟩
      · refine Kd.R_mono (ok := fun k => some k ≠ (Value.slice AN q.2.length cN).ownBlock ∧ k ≠ w.heap.size + 1) ?_ (fun k hk => hk.1)
        repeat refine Kd.R_far ?_ (fun k hk => hk.2) _
        exact HR4.out
      · rw [HQ.out]
        refine Kd.R_mono (ok := fun k => some k ≠ (Value.slice A1 (cls sts).length c1).ownBlock ∧ k ≠ w.heap.size + 1) ?_ (fun k hk => hk.1)
        repeat refine Kd.R_far ?_ (fun k hk => hk.2) _
        exact HX2.out
      · rw [HQ.out]
        refine Kd.R_mono (ok := fun k => k ≠ w.heap.size + 1) ?_ (fun k hk => trivial)
        repeat refine Kd.R_far ?_ (fun k hk => hk) _
        exact HO1.out
      · repeat refine Below.setCell ?_ (by simp) _
        exact HBF.out
end Go.Proofs.YtfjemaeidmikmaaDoorQ
