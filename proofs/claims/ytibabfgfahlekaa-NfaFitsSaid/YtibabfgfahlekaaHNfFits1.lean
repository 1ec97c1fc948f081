/- Pruned from its seat's text: what the theorem hangs on. -/
import Derived.Test.YtibabfgfahlekaaHNfImpl5
import Derived.Test.YtibabfgfahlekaaHQXNfaWalk
import Derived.Lib.ConvBytes
import Derived.Deep.RegionWith
/- nfa.Fits: walked; told as the printed texts are. -/
set_option linter.unusedVariables false
set_option linter.unusedSimpArgs false
namespace Go.Proofs.YtibabfgfahlekaaQ
open Go.RowKit Go.Proofs.YtibabfgfahlekaaW.PrintWords Go.Proofs.YtibabfgfahlekaaW.PrintLast Go.Proofs.Bs

section
variable (A0 : Option Addr) (c0 : Nat) (sts : List St) (s f : Int) (w : World)
abbrev nV (A0 : Option Addr) (c0 : Nat) (sts : List St) (s f : Int) : Value := .agg #[.slice A0 sts.length c0, .int .i64 s, .int .i64 f]
theorem right_c (hr : Kd.C k72 w A0 sts.length sts) (hc : sts.length ≤ c0) : Calls Try.prog 21 #[nV A0 c0 sts s f] w fun e w' => e = .returned (.bool (rightN sts s f)) ∧ Below w.heap.size w w' := by
  obtain ⟨k, hk⟩ := (right_eq sts s f).ex
  exact nfa_Right.calls k A0 c0 sts s f _ w hr hc hk
theorem close_c (hr : Kd.C k72 w A0 sts.length sts) (hc : sts.length ≤ c0) (hR : rightN sts s f = true) (A1 : Option Addr) (c1 : Nat) (l : List Int) (sym : Int) (hl : Kd.C (Kd.int .i64) w A1 l.length l) (hlc : l.length ≤ c1) (hll : l.length ≤ 1000000) :
    Calls Try.prog 23 #[nV A0 c0 sts s f, .slice A1 l.length c1, .int .i64 sym] w fun e w' => ∃ A c, e = .returned (.slice A (listN (walkF sts l sym)).length c) ∧ (listN (walkF sts l sym)).length ≤ c ∧ Kd.C (Kd.int .i64) w' A (listN (walkF sts l sym)).length (listN (walkF sts l sym)) ∧ Below w.heap.size w w' := by
  obtain ⟨k, hk⟩ := (close_eq sts s f l sym (by omega)).ex
  unfold closeN at hk
  rw [if_pos hR] at hk
  refine (nfa_Close.calls k A0 c0 sts s f A1 c1 l sym _ w hr hc hl hlc hk).mono ?_
  rintro e w' ⟨v, rfl, hv, hb⟩
  obtain ⟨A, c, rfl, h1, h2⟩ := Kd.R_reads hv
  exact ⟨A, c, rfl, h1, h2, hb⟩
theorem step_c (hr : Kd.C k72 w A0 sts.length sts) (hc : sts.length ≤ c0) (hR : rightN sts s f = true) (hw : wfSts sts) (A1 : Option Addr) (c1 : Nat) (l : List Int) (b : Int) (hb : 0 ≤ b ∧ b < 256) (hl : Kd.C (Kd.int .i64) w A1 l.length l) (hlc : l.length ≤ c1) (hll : l.length ≤ 1000000) :
    Calls Try.prog 24 #[nV A0 c0 sts s f, .slice A1 l.length c1, .int .u8 b] w fun e w' => ∃ A c, e = .returned (.slice A (listN (walkF sts (l.flatMap (stepOne sts b)) 0)).length c) ∧ (listN (walkF sts (l.flatMap (stepOne sts b)) 0)).length ≤ c ∧ Kd.C (Kd.int .i64) w' A (listN (walkF sts (l.flatMap (stepOne sts b)) 0)).length (listN (walkF sts (l.flatMap (stepOne sts b)) 0)) ∧ Below w.heap.size w w' := by
  obtain ⟨k, hk⟩ := (step_eq sts s f b l hll hw hb).ex
  unfold stepN at hk
  rw [if_pos hR] at hk
  refine (nfa_Step.calls k A0 c0 sts s f A1 c1 l b _ w hr hc hl hlc hk).mono ?_
  rintro e w' ⟨v, rfl, hv, hb⟩
  obtain ⟨A, c, rfl, h1, h2⟩ := Kd.R_reads hv
  exact ⟨A, c, rfl, h1, h2, hb⟩
theorem walk_c (hr : Kd.C k72 w A0 sts.length sts) (hc : sts.length ≤ c0) (hR : rightN sts s f = true) (A1 : Option Addr) (c1 : Nat) (l : List Int) (sym : Int) (hl : Kd.C (Kd.int .i64) w A1 l.length l) (hlc : l.length ≤ c1) (hll : l.length ≤ 1000000) :
    Calls Try.prog 42 #[nV A0 c0 sts s f, .slice A1 l.length c1, .int .i64 sym] w fun e w' => ∃ A c, e = .returned (.slice A sts.length c) ∧ Kd.C Kd.bool w' A sts.length (walkF sts l sym) ∧ Below w.heap.size w w' := by
  have hn := rightN_len hR
  have hf : nfa_walk.f sts s f l sym = some (walkF sts l sym) := by
    unfold nfa_walk.f
    rw [if_pos ⟨by omega, by omega⟩]
  refine (nfa_walk.calls A0 c0 sts s f A1 c1 l sym _ w hr hc hl hlc hf).mono ?_
  rintro e w' ⟨v, rfl, hv, hb⟩
  obtain ⟨A, c, rfl, h1, h2⟩ := Kd.R_reads hv
  rw [walkF_len] at h2
  exact ⟨A, c, by rw [walkF_len], h2, hb⟩
end
theorem places_le (l : List Bool) : ∀ d i, (places l d i).length ≤ d := by
  intro d
  induction d with
  | zero => intro i; simp [places]
  | succ d ih =>
    intro i
    have := ih (i + 1)
    simp only [places, List.length_append]
    split <;> simp <;> omega
theorem listN_le (l : List Bool) : (listN l).length ≤ l.length := places_le l _ _
/-- What Fits comes to, step by step. -/
def atStart (sts : List St) (s : Int) : List Int := listN (walkF sts [s] 0)
def atByte (sts : List St) (l : List Int) (b : Int) : List Int := listN (walkF sts (l.flatMap (stepOne sts b)) 0)
def atBytes (sts : List St) (text : ByteArray) (i : Nat) (l : List Int) : Nat → List Int
  | 0 => l
  | k + 1 => atByte sts (atBytes sts text i l k) (bt text ((i + k : Nat) : Int))
def fitsN (sts : List St) (s f : Int) (text : ByteArray) (i j : Int) : Bool :=
  if i < 0 ∨ j < i ∨ (text.size : Int) < j ∨ rightN sts s f = false then false else
  if text.size = 0 then rdOf false (walkF sts (atStart sts s) 258) f else
  let a1 := if i = 0 then listN (walkF sts (atStart sts s) 256) else atStart sts s
  let a2 := atBytes sts text i.toNat a1 (j - i).toNat
  let a3 := if j = (text.size : Int) then listN (walkF sts a2 257) else a2
  rdOf false (walkF sts a3 0) f
set_option maxRecDepth 100000 in
set_option maxHeartbeats 1600000 in
theorem fits_no (A0 : Option Addr) (c0 : Nat) (sts : List St) (s f : Int) (text : ByteArray) (i j : Int) (w : World) (hr : Kd.C k72 w A0 sts.length sts) (hc : sts.length ≤ c0) (h : i < 0 ∨ j < i ∨ (text.size : Int) < j ∨ rightN sts s f = false) :
    Calls Try.prog 22 #[nV A0 c0 sts s f, .string text, .int .i64 i, .int .i64 j] w fun e w' => e = .returned (.bool false) ∧ Below w.heap.size w w' := by
  by_cases h1 : i < 0
  · clear h
    go_enter Try.func22, Try.ntmps22
    go_wp2_with fail
    go_ret
    exact ⟨rfl, Go.Proofs.Ytibabfgfahlekaa.bel_alloc (Below.refl _ _) _⟩
  · by_cases h2 : j < i
    · clear h
      go_enter Try.func22, Try.ntmps22
      go_wp2_with fail
      go_ret
      exact ⟨rfl, Go.Proofs.Ytibabfgfahlekaa.bel_alloc (Below.refl _ _) _⟩
    · by_cases h3 : (text.size : Int) < j
      · clear h
        go_enter Try.func22, Try.ntmps22
        go_wp2_with fail
        go_ret
        exact ⟨rfl, Go.Proofs.Ytibabfgfahlekaa.bel_alloc (Below.refl _ _) _⟩
      · have hR : rightN sts s f = false := by
          rcases h with h | h | h | h
          · exact absurd h h1
          · exact absurd h h2
          · exact absurd h h3
          · exact h
        clear h
        have hR2 := right_c A0 c0 sts s f (w.alloc (.cells #[.slice A0 sts.length c0, .int .i64 s, .int .i64 f] 44)) (Kd.C_alloc hr _) hc
        rw [hR] at hR2
        have HR2 := Lib.hid hR2
        clear hR2 hR hr
        go_enter Try.func22, Try.ntmps22
        go_wp2_with fail
        refine HR2.out.mono ?_
        rintro e w1 ⟨rfl, hb⟩
        go_wp2_with fail
        go_ret
        exact ⟨rfl, Go.Proofs.Ytibabfgfahlekaa.bel_then (Go.Proofs.Ytibabfgfahlekaa.bel_alloc (Below.refl _ _) _) hb⟩

theorem drew_cell {w : World} {a : Addr} {v : Value} (h : w.cell? a = some v) : w.drew.cell? a = some v := h
theorem bt_extract (text : ByteArray) (i j k : Nat) (hj : j ≤ text.size) (hk : k < j - i) : (((text.extract i j).data.toList.getD k 0).toNat : Int) = bt text ((i + k : Nat) : Int) := by
  unfold bt
  rw [dif_pos (by omega)]
  have h1 : (text.extract i j).data = text.data.extract i j := ByteArray.data_extract ..
  rw [h1, List.getD_eq_getElem?_getD, Array.getElem?_toList, Array.getElem?_extract]
  have hz : i + k < text.data.size := by
    have : text.data.size = text.size := rfl
    omega
  rw [if_pos (by omega), Array.getElem?_eq_getElem hz]
  simp only [Option.getD_some, Int.toNat_natCast]
  rfl
theorem fits_eq (sts : List St) (s : Int) (F : Nat) (text : ByteArray) (i j : Nat) (hR : rightN sts s (F : Int) = true) (ht : 0 < text.size) (hij : i ≤ j) (hj : j ≤ text.size) (L0 L : List Int) (hL0 : atStart sts s = L0) (hL : L = if i = 0 then listN (walkF sts L0 256) else L0) :
    fitsN sts s (F : Int) text (i : Int) (j : Int) = rdOf false (walkF sts (if j = text.size then listN (walkF sts (atBytes sts text i L (j - i)) 257) else atBytes sts text i L (j - i)) 0) (F : Int) := by
  unfold fitsN
  rw [if_neg (by rw [hR]; simp; omega), if_neg (by omega), hL0]
  have e1 : (if (i : Int) = 0 then listN (walkF sts L0 256) else L0) = L := by
    rw [hL]
    by_cases h : i = 0
    · rw [if_pos h, if_pos (by omega)]
    · rw [if_neg h, if_neg (by omega)]
  have e2 : ((j : Int) - (i : Int)).toNat = j - i := by omega
  simp only [e1, e2, Int.toNat_natCast]
  by_cases h : j = text.size
  · rw [if_pos h, if_pos (by omega)]
  · rw [if_neg h, if_neg (by omega)]
theorem one_C (w : World) (s : Int) : Kd.C (Kd.int .i64) (w.alloc (.cells #[.int .i64 s] 3)) (some ⟨w.heap.size, 0, none⟩) 1 [s] := by
  refine Kd.C_of_reads (enc := Value.int .i64) (d := (0 : Int)) (h1 := fun _ => rfl) ⟨rfl, by omega, fun _ => ⟨_, rfl, fun j hj => ?_⟩⟩
  obtain rfl : j = 0 := by omega
  rw [add_plain]
  simp
set_option maxRecDepth 100000 in
set_option maxHeartbeats 1600000 in
theorem fits_empty (A0 : Option Addr) (c0 : Nat) (sts : List St) (s f : Int) (w : World) (hr : Kd.C k72 w A0 sts.length sts) (hc : sts.length ≤ c0) (hR : rightN sts s f = true) :
    Calls Try.prog 22 #[nV A0 c0 sts s f, .string ByteArray.empty, .int .i64 0, .int .i64 0] w fun e w' => e = .returned (.bool (rdOf false (walkF sts (atStart sts s) 258) f)) ∧ Below w.heap.size w w' := by
  have hn := rightN_len hR
  have hf : 0 ≤ f ∧ f < sts.length := by
    have h := hR
    unfold rightN at h
    rw [Bool.and_eq_true, decide_eq_true_eq] at h
    exact h.1.2.2
  obtain ⟨F, rfl⟩ := Int.eq_ofNat_of_zero_le hf.1
  have hR2 := fun w1 h1 => right_c A0 c0 sts s (F : Int) w1 h1 hc
  rw [hR] at hR2
  have HR2 := Lib.hid hR2
  have HR := Lib.hid hR
  have HRD := Lib.hid hr
  have I0 : (0 : Int) ≤ (F : Int) := by omega
  have I1 : (F : Int) < (sts.length : Int) := by omega
  clear hR2 hR hr
  go_enter Try.func22, Try.ntmps22
  go_wp2_with fail
  refine (HR2.out _ (Kd.C_alloc HRD.out _)).mono ?_
  rintro e w1 ⟨rfl, hb⟩
  have hz1 := hb.size
  have b0 : w1.cell? ⟨w.heap.size, 0, none⟩ = some (.slice A0 sts.length c0) := (hb.cell (p := ⟨w.heap.size, 0, none⟩) (by simp)).trans (by go_simp)
  have b1 : w1.cell? ⟨w.heap.size, 1, none⟩ = some (.int .i64 s) := (hb.cell (p := ⟨w.heap.size, 1, none⟩) (by simp)).trans (by go_simp)
  have b2 : w1.cell? ⟨w.heap.size, 2, none⟩ = some (.int .i64 (F : Int)) := (hb.cell (p := ⟨w.heap.size, 2, none⟩) (by simp)).trans (by go_simp)
  have hB := Go.Proofs.Ytibabfgfahlekaa.bel_then (Go.Proofs.Ytibabfgfahlekaa.bel_alloc (Below.refl _ _) _) hb
  have HB := Lib.hid hB
  clear hb hB
  go_wp2_with fail
  refine (close_c A0 c0 sts s (F : Int) _ (Kd.C_alloc (Kd.C_below HRD.out HB.out) _) hc HR.out _ _ [s] 0 (one_C w1 s) (by simp) (by simp)).mono ?_
  rintro e w2 ⟨A, c, rfl, hcc, hC, hb2⟩
  have hz2 := hb2.size
  have d0 := Go.Proofs.Ytibabfgfahlekaa.cell_below hb2 (Go.Proofs.Ytibabfgfahlekaa.cell_alloc b0 (.cells #[.int .i64 s] 3))
  have d1 := Go.Proofs.Ytibabfgfahlekaa.cell_below hb2 (Go.Proofs.Ytibabfgfahlekaa.cell_alloc b1 (.cells #[.int .i64 s] 3))
  have d2 := Go.Proofs.Ytibabfgfahlekaa.cell_below hb2 (Go.Proofs.Ytibabfgfahlekaa.cell_alloc b2 (.cells #[.int .i64 s] 3))
  have hB2 := Go.Proofs.Ytibabfgfahlekaa.bel_then (Go.Proofs.Ytibabfgfahlekaa.bel_alloc HB.out (.cells #[.int .i64 s] 3)) hb2
  have hle : (atStart sts s).length ≤ 1000000 := by
    have := listN_le (walkF sts [s] 0)
    rw [walkF_len] at this
    unfold atStart
    omega
  have hC2 : Kd.C (Kd.int .i64) w2 A (atStart sts s).length (atStart sts s) := hC
  have hcc2 : (atStart sts s).length ≤ c := hcc
  rw [show listN (walkF sts [s] 0) = atStart sts s from rfl]
  clear hC hcc hb2 b0 b1 b2
  generalize hL : atStart sts s = L at *
  have HL := Lib.hid hL
  clear hL
  have HC2 := Lib.hid hC2
  have HB2 := Lib.hid hB2
  clear hC2 hB2 HB
  go_wp2_with fail
  go_region_with
    ((go_at_call 42; refine (walk_c A0 c0 sts s (F : Int) _ (Kd.C_drew (Kd.C_below HRD.out HB2.out)) hc HR.out _ _ L 258 (Kd.C_drew HC2.out) hcc2 hle).mono ?_; rintro e w3 ⟨A3, c3, rfl, hC3, hb3⟩; obtain ⟨ad, rfl, hx⟩ := Kd.at_bool hC3 (F : Int) I0 I1; rw [Int.toNat_natCast] at hx; have e0 := Go.Proofs.Ytibabfgfahlekaa.cell_below hb3 (Go.Proofs.YtibabfgfahlekaaQ.drew_cell d0); have e1 := Go.Proofs.Ytibabfgfahlekaa.cell_below hb3 (Go.Proofs.YtibabfgfahlekaaQ.drew_cell d1); have e2 := Go.Proofs.Ytibabfgfahlekaa.cell_below hb3 (Go.Proofs.YtibabfgfahlekaaQ.drew_cell d2)))
  all_goals
    go_wp2_with fail
    go_ret
    refine ⟨ret_has ?_, Go.Proofs.Ytibabfgfahlekaa.bel_then (Go.Proofs.Ytibabfgfahlekaa.bel_drew HB2.out) (by assumption)⟩
    rw [HL.out]
end Go.Proofs.YtibabfgfahlekaaQ
