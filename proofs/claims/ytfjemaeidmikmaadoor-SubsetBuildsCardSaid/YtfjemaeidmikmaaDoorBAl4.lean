import Derived.Test.YtfjemaeidmikmaaDoorBM2
set_option linter.unusedVariables false
set_option linter.unusedSimpArgs false
namespace Go.Proofs.YtfjemaeidmikmaaDoor
open Go.RowKit Go.Maps
theorem ajoin_ne (A B : Option Addr) (n m c d : Nat) (w : World) (hn : n ≤ 1000000) (hm : m ≤ 1000000) (hne : n ≠ m) :
    Calls Tryd.prog 38 #[.slice A n c, .slice B m d] w fun e w' => e = .returned (.tuple #[.slice none 0 0, .int .i64 0]) ∧ Below w.heap.size w w' := by
  rcases (show n < m ∨ m < n by omega) with hc | hc
  all_goals
    clear hne
    go_enter Tryd.func38, Tryd.ntmps38
    go_wp2_with fail
    go_ret2
    exact ⟨rfl, Below.refl _ _⟩
theorem made_ints (n : Nat) : (madeCells (Value.int .i64 0).cells (n * 1)).toList = ints (casts (List.replicate n 0)) := by
  rw [Nat.mul_one]
  show (madeCells #[Value.int .i64 0] n).toList = _
  rw [toList_madeCells_one]
  simp [ints, casts]
set_option maxRecDepth 100000 in
set_option maxHeartbeats 3200000 in
theorem ajoin_any (A B : Option Addr) (n c d : Nat) (l : List (Int × Int)) (w : World) (h : Reads w 1 A n (ints (l.map Prod.fst))) (h' : Reads w 1 B n (ints (l.map Prod.snd))) (hn : n ≤ 1000000) (hok : ∀ p ∈ l, okP p) :
    Calls Tryd.prog 38 #[.slice A n c, .slice B n d] w fun e w' => ∃ A1 c1, e = .returned (.tuple #[.slice A1 n c1, .int .i64 ((Al.run l).1.length : Nat)]) ∧ w'.ownsRow w.heap.size 3 1 (.slice A1 n c1) n (ints (casts (Al.run l).2)) ∧ Below w.heap.size w w' := by
  have hl : l.length = n := by have := h.1; rw [ints_length, List.length_map] at this; omega
  have HL := Lib.hid hl
  have HOK := Lib.hid hok
  clear hl hok
  have hmm := @run_makeMap Tryd.prog
  obtain ⟨i0, hi, hz0, hz1, hz2⟩ := info_parts info_int
  go_enter Tryd.func38, Tryd.ntmps38
  go_wp2_with (at_make; refine wpList_make_full _ rfl _ _ 27 rfl (w.heap.size + 1) 3 i0 (.int .i64 0) 1 Tryd.underlying27 hi hz0 hz1 _ _ _ _ n rfl rfl rfl rfl (by rw [hz2]; omega) (by unfold maxLen; omega) (by simp) ?_; intro w2 HO2 hg2)
  rw [made_ints] at HO2
  have hb2 : Below w.heap.size w w2 := (bel_alloc (Below.refl _ _) _).grown hg2 (by simp) (fun j hj => by cases hj)
  have hm2 := (World.ownsMap_made (H := Unit) w Tryd.prog 100 (plainElem Tryd.prog 3)).kept hg2 (by simp)
  rw [show (w.alloc (.map #[] 0)).heap.size = w.heap.size + 1 by simp] at HO2
  clear hg2 hmm
  go_loopw [8, 9, 10, 11, 23] (fun _ _ _ _ k_ wr => ∃ (k : Nat) (D : DataW Unit), k_ = .int .i64 k ∧ k ≤ n ∧ wr.ownsMap Tryd.prog 100 (plainElem Tryd.prog 3) w.heap.size k D ∧ MapIs D (l.take k) ∧
    wr.ownsRow (w.heap.size + 1) 3 1 (.slice (some ⟨w.heap.size + 1, 0, none⟩) n n) n (ints (casts ((Al.run (l.take k)).2 ++ List.replicate (n - k) 0))) ∧ Below w.heap.size w wr) (fun _ _ _ _ k_ _ => n - (intOf k_).toNat)
  case atStart => exact ⟨0, _, rfl, by omega, hm2, MapIs.nil, HO2, hb2⟩
  case round =>
    clear HO2 hb2 hm2
    obtain ⟨k, D, rfl, hk, hown, hmi, HO, hb⟩ := hrel
    have HMI := Lib.hid hmi
    clear hmi
    by_cases hlt : k < n
    · obtain ⟨ad, x0, rfl, hx, cx⟩ := (h.below hb).int hlt
      obtain ⟨bd, y0, rfl, hy, cy⟩ := (h'.below hb).int hlt
      obtain ⟨p, hp, rfl⟩ := map_at hx
      obtain ⟨p', hp', rfl⟩ := map_at hy
      obtain rfl : p = p' := Option.some.inj (hp.symm.trans hp')
      have HP := Lib.hid hp
      have hkey := pair_key p (HOK.out p (List.mem_of_getElem? hp))
      have HK := Lib.hid hkey
      have hkn : (k : Int) < n := by omega
      clear hx hy hp hp' hkey
      have cx2 := cell_alloc cx (.cells #[.int .i64 0, .int .i64 0] 100)
      have cy2 := cell_alloc cy (.cells #[.int .i64 0, .int .i64 0] 100)
      go_upto_region 8 with fail
      go_region
      have b0 : ((wr.alloc (.cells #[.int .i64 p.1, .int .i64 p.2] 100)).drew).cell? ⟨wr.heap.size, 0, none⟩ = some (.int .i64 p.1) := by go_simp
      have b1 : ((wr.alloc (.cells #[.int .i64 p.1, .int .i64 p.2] 100)).drew).cell? ⟨wr.heap.size, 1, none⟩ = some (.int .i64 p.2) := by go_simp
      have hown3 := (hown.alloc (.cells #[.int .i64 p.1, .int .i64 p.2] 100)).drew
      have HO3 := (own_below HO (bel_alloc (Below.refl _ _) (.cells #[.int .i64 p.1, .int .i64 p.2] 100))).drew
      have hb3 := bel_drew (bel_alloc hb (.cells #[.int .i64 p.1, .int .i64 p.2] 100))
      clear hown HO hb cx cy cx2 cy2
      generalize ((wr.alloc (.cells #[.int .i64 p.1, .int .i64 p.2] 100)).drew) = w3 at *
      have hlen : ((Al.run (l.take k)).2).length = k := by rw [Al.run_len, List.length_take, HL.out]; omega
      have hfew : ((Al.run (l.take k)).1).length ≤ k := by
        have := Al.run_few (l.take k)
        rw [List.length_take, HL.out] at this
        omega
      have htk := Al.take_snoc HP.out
      obtain ⟨m, hm⟩ : ∃ m, n = k + 1 + m := ⟨n - (k + 1), by omega⟩
      have e1 : n - k = m + 1 := by omega
      have e2 : n - (k + 1) = m := by omega
      rw [e1] at HO3
      obtain ⟨v0, hv0⟩ : ∃ v0, (ints (casts ((Al.run (l.take k)).2 ++ List.replicate (m + 1) 0)))[k]? = some v0 := ⟨_, List.getElem?_eq_getElem (by simp [ints, casts, hlen])⟩
      have cv := (HO3.cellAt k (by omega)).trans hv0
      have fz := HO3.frozenAt k
      have hrow := Al.row_step ((Al.run (l.take k)).2) m (Al.pos (Al.run (l.take k)).1 p)
      rw [hlen, ← Al.run_snd, ← htk] at hrow
      have HROW := Lib.hid hrow
      have HTK := Lib.hid htk
      have HE2 := Lib.hid e2
      have HV0 := Lib.hid hv0
      have hpk : keyOf Tryd.prog 100 (.agg #[.int .i64 p.1, .int .i64 p.2]) = some (pk p) := HK.out
      have HPK := Lib.hid hpk
      have hfin : ∀ c0 : Nat, c0 = Al.pos (Al.run (l.take k)).1 p → (ints (casts ((Al.run (l.take k)).2 ++ List.replicate (m + 1) 0))).set k (.int .i64 (c0 : Int)) = ints (casts ((Al.run (l.take (k + 1))).2 ++ List.replicate m 0)) := by
        intro c0 hc0
        rw [ints_set, ← HROW.out, hc0]
        simp [casts, List.map_set]
      have HFIN := Lib.hid hfin
      clear hrow htk e1 e2 hv0 hpk hfin hlen hm
      by_cases hin : p ∈ l.take k
      · have hhas := (HMI.out.has p (HOK.out p (List.mem_of_getElem? HP.out))).trans (decide_eq_true hin)
        have hat0 := HMI.out.atKey p (HOK.out p (List.mem_of_getElem? HP.out)) hin
        have HAT := Lib.hid hat0
        have HIN := Lib.hid hin
        clear hat0 hin
        go_wp2_with (at_lookup; refine wpList_lookup_own_ok_int _ rfl _ _ 98 rfl 100 3 .i64 pair_keyed Tryd.underlying98 Tryd.underlying3 (zero_int _) w.heap.size k D rfl hown3 _ _ rfl HPK.out ?_; intro c0 hat hwc)
        go_roundw
        case rel =>
          have hc0 : c0 = ((Al.pos (Al.run (l.take k)).1 p : Nat) : Int) := by
            rw [HAT.out] at hat
            injection hat with hat
            injection hat with _ hat
            exact hat.symm
          subst hc0
          refine ⟨k + 1, D, by go_num, by omega, (hown3.mono (Nat.le_succ _)).kept (HO3.stored k _).2 (by simp), ?_, ?_, ?_⟩
          · rw [HTK.out]; exact HMI.out.old HIN.out
          · rw [HE2.out, ← HFIN.out _ rfl]
            exact (HO3.stored k _).1
          · exact bel_grown hb3 HO3 (by omega) (HO3.stored k _).2
        case measure => simp [intOf] <;> omega
      · have hhas := (HMI.out.has p (HOK.out p (List.mem_of_getElem? HP.out))).trans (decide_eq_false hin)
        have HIN := Lib.hid hin
        have hsz := HMI.out.size
        have hT := hown3.tidy pair_keyed
        have HT := Lib.hid hT
        clear hin hT
        go_wp2_with (first
          | (at_lookup; refine wpList_lookup_own_ok_int _ rfl _ _ 98 rfl 100 3 .i64 pair_keyed Tryd.underlying98 Tryd.underlying3 (zero_int _) w.heap.size k D rfl hown3 _ _ rfl HPK.out ?_; intro c0 hat hwc)
          | (at_len; refine wpList_len_own _ rfl _ 98 rfl 100 3 Tryd.underlying98 (plainElem Tryd.prog 3) w.heap.size k D rfl hown3 ?_)
          | (at_mapUpdate; refine wpList_mapUpdate_own _ rfl _ _ _ 98 rfl 100 3 pair_keyed Tryd.underlying98 (plainElem Tryd.prog 3) w.heap.size k D rfl hown3 (by unfold maxLen; omega) _ _ _ rfl rfl HPK.out _ [] (plainElem_int Tryd.underlying3 (WalkArith.wf_i64 (by omega))) ?_; intro w4 hown4 hgrow4; have HO4 := HO3.kept hgrow4 (by simp [Value.ownBlock]); have cv4 := (HO4.cellAt k (by omega)).trans HV0.out; have fz4 := HO4.frozenAt k))
        go_roundw
        case rel =>
          refine ⟨k + 1, _, by go_num, by omega, hown4.kept (HO4.stored k _).2 (by simp), ?_, ?_, ?_⟩
          · rw [HTK.out]
            exact HMI.out.new HT.out (HOK.out p (List.mem_of_getElem? HP.out)) HIN.out rfl
          · rw [HE2.out, ← HFIN.out (Al.run (l.take k)).1.length (Al.pos_end (fun q => HIN.out ((Al.run_mem _ _).1 q))).symm]
            exact (HO4.stored k _).1
          · exact bel_grown (hb3.grown hgrow4 (by have := hb3.size; omega) (fun j hj => by cases hj; exact Nat.le_refl _)) HO4 (by omega) (HO4.stored k _).2
        case measure => simp [intOf] <;> omega
    · obtain rfl : k = n := by omega
      have hsz := HMI.out.size
      have e : l.take k = l := List.take_of_length_le (by rw [HL.out]; omega)
      rw [e] at hsz HO
      rw [Nat.sub_self, List.replicate_zero, List.append_nil] at HO
      have HE := Lib.hid e
      clear e
      go_wp2_with (at_len; refine wpList_len_own _ rfl _ 98 rfl 100 3 Tryd.underlying98 (plainElem Tryd.prog 3) w.heap.size k D rfl hown ?_)
      go_ret2
      exact ⟨_, _, by first | rfl | (rw [hsz]; rfl), own_mono HO (by omega), hb⟩
end Go.Proofs.YtfjemaeidmikmaaDoor
