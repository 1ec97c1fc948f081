/- The walks of edits one behind the other: edit.Rows; the document's answer: Rows, All. -/
import Derived.Test.YthdlgkpicgilhaaRwPure
import Derived.Test.YthdlgkpicgilhaaEd9
import Derived.Deep.RegionHeld3
set_option linter.unusedVariables false
set_option linter.unusedSimpArgs false
namespace Go.Proofs.Ythdlgkpicgilhaa
open Go.RowKit

def E1.cells (e : E1) : List Value := [.int .i64 e.A, .int .i64 e.D, .string e.T]
theorem E1.cells_length (e : E1) : e.cells.length = 3 := rfl
theorem add_field (ad : Addr) (x j : Nat) (hj : j ≠ 0) : (⟨(ad.add x).block, (ad.add x).off + j, none⟩ : Addr) = ad.add (x + j) := by
  unfold Addr.add
  by_cases hx : x = 0 <;> simp [hx, hj, Nat.add_assoc]
theorem Reads.ed {w : World} {A : Option Addr} {n : Nat} {l : List E1} (h : Reads w 3 A n (l.flatMap E1.cells)) {k : Nat} (hk : k < n) :
    ∃ ad x, A = some ad ∧ l[k]? = some x ∧ w.cell? (ad.add (k * 3)) = some (.int .i64 x.A) ∧
      w.cell? ⟨(ad.add (k * 3)).block, (ad.add (k * 3)).off + 1, none⟩ = some (.int .i64 x.D) ∧ w.cell? ⟨(ad.add (k * 3)).block, (ad.add (k * 3)).off + 2, none⟩ = some (.string x.T) := by
  obtain ⟨ad, x, e, hx, hc⟩ := h.elem E1.cells E1.cells_length (by omega) hk
  refine ⟨ad, x, e, hx, hc 0 _ rfl, ?_, ?_⟩ <;> rw [add_field _ _ _ (by omega)]
  · exact hc 1 _ rfl
  · exact hc 2 _ rfl
theorem drop_e1 {l : List E1} {k : Nat} {x : E1} (h : l[k]? = some x) : l.drop k = x :: l.drop (k + 1) := by
  obtain ⟨hj, e⟩ := List.getElem?_eq_some_iff.1 h
  rw [List.drop_eq_getElem_cons hj, e]

set_option maxRecDepth 100000 in
set_option maxHeartbeats 3200000 in
theorem erows_any (A : Option Addr) (n c : Nat) (l : List E1) (m : Int) (w : World) (h : Reads w 3 A n (l.flatMap E1.cells)) (hn : n ≤ 1000000) (hm0 : -9223372036854775808 ≤ m) (hm : m ≤ 9223372036854775807) :
    Calls Try.prog 17 #[.slice A n c, .int .i64 m] w fun e w' => e = .returned (.bool (rowsFrom m 0 l)) ∧ Below w.heap.size w w' := by
  have hl := h.length E1.cells E1.cells_length (by omega)
  have HL := Lib.hid hl
  clear hl
  go_enter Try.func17, Try.ntmps17
  go_wp2
  go_loopw [5, 10] (fun a_ k_ wr => ∃ (at_ : Int) (k : Nat), a_ = .int .i64 at_ ∧ k_ = .int .i64 k ∧ k ≤ n ∧ 0 ≤ at_ ∧ at_ ≤ 9223372036854775807 ∧ rowsFrom m at_ (l.drop k) = rowsFrom m 0 l ∧ Below w.heap.size w wr) (fun _ k_ _ => n - (intOf k_).toNat)
  case atStart => exact ⟨0, 0, rfl, rfl, by omega, by omega, by omega, rfl, Below.refl _ _⟩
  case round =>
    obtain ⟨at_, k, rfl, rfl, hk, ha0, ha1, hr, hb⟩ := hrel
    have HR := Lib.hid hr
    clear hr
    by_cases hlt : k < n
    · obtain ⟨ad, x, rfl, hx, c0, c1, c2⟩ := (h.below hb).ed hlt
      have hrd := HR.out
      rw [drop_e1 hx] at hrd
      have HX := Lib.hid hx
      have HRD := Lib.hid hrd
      clear hx hrd
      go_wp2_with fail
      refine (may_any x.A x.D m x.T _ hm0 hm).mono ?_
      rcases hmay : mayB x.A x.D m with _ | _
      · rintro e w2 ⟨rfl, hb2⟩
        have HM := Lib.hid hmay
        clear hmay
        go_wp2_with fail
        go_ret
        refine ⟨ret_bool ?_, bel_then (bel_alloc hb _) hb2⟩
        rw [← HRD.out, rowsFrom, HM.out]
        rfl
      · rintro e w2 ⟨rfl, hb2⟩
        obtain ⟨a0, d0, add⟩ := may_nat hmay
        have HM := Lib.hid hmay
        clear hmay
        have b0 : w2.cell? ⟨wr.heap.size, 0, none⟩ = some (.int .i64 x.A) := (hb2.cell (p := ⟨wr.heap.size, 0, none⟩) (by simp)).trans (by go_simp)
        have b1 : w2.cell? ⟨wr.heap.size, 1, none⟩ = some (.int .i64 x.D) := (hb2.cell (p := ⟨wr.heap.size, 1, none⟩) (by simp)).trans (by go_simp)
        have hb3 := bel_then (bel_alloc hb (.cells #[.int .i64 x.A, .int .i64 x.D, .string x.T] 23)) hb2
        by_cases hat : x.A < at_
        · go_wp2_with fail
          go_ret
          refine ⟨ret_bool ?_, hb3⟩
          rw [← HRD.out, rowsFrom, decide_eq_false (show ¬ at_ ≤ x.A by omega), Bool.and_false, Bool.false_and]
        · go_wp2_with fail
          go_roundw
          case rel =>
            refine ⟨x.A + x.D, k + 1, by go_num, by go_num, by omega, by omega, by omega, ?_, hb3⟩
            rw [← HRD.out, rowsFrom, HM.out, decide_eq_true (show at_ ≤ x.A by omega), Bool.true_and, Bool.true_and]
          case measure => simp [intOf] <;> omega
    · obtain rfl : k = n := by omega
      go_wp2_with fail
      go_ret
      refine ⟨ret_bool ?_, hb⟩
      rw [← HR.out, List.drop_eq_nil_of_le (by rw [HL.out]; omega)]
      rfl

set_option maxHeartbeats 800000 in
theorem rapply_big (s : ByteArray) (A D : Int) (T : ByteArray) (w : World) (hs : s.size ≤ 20000) (hT : T.size ≤ 200) (h : mayB A D s.size = true) : Calls Try.prog 12 #[.string s, .agg #[.int .i64 A, .int .i64 D, .string T]] w fun e w' => e = .returned (.string (applyB s A D T)) ∧ Below w.heap.size w w' := by
  have h' : 0 ≤ A ∧ 0 ≤ D ∧ A ≤ s.size ∧ D ≤ s.size - A := by simpa [mayB] using h
  obtain ⟨h1, h2, h3, h4⟩ := h'
  clear h
  obtain ⟨a, rfl⟩ := Int.eq_ofNat_of_zero_le h1
  obtain ⟨d, rfl⟩ := Int.eq_ofNat_of_zero_le h2
  have h5 : a + d ≤ s.size := by omega
  have h6 : (a : Int) + d ≤ s.size := by omega
  have g1 : IntKind.i64.wrap ((a : Int) + d) = (a : Int) + d := IntWalk.i64_in _ (by omega)
  have g2 : (0 : Int) ≤ (a : Int) + d := by omega
  have g3 : ((a : Int) + d).toNat = a + d := by omega
  go_enter Try.func12, Try.ntmps12
  go_wp2_with fail
  go_quiet (fail)
  go_wp2
  go_ret
  refine ⟨?_, bel_drewN (bel_alloc (Below.refl _ _) _) _⟩
  unfold applyB
  rw [g3, Int.toNat_natCast]
  rfl

set_option maxRecDepth 100000 in
set_option maxHeartbeats 3200000 in
theorem rall_any (t : ByteArray) (A : Option Addr) (n c : Nat) (l : List E1) (w : World) (h : Reads w 3 A n (l.flatMap E1.cells)) (hn : n ≤ 12) (ht : t.size ≤ 80) (hT : ∀ e ∈ l, e.T.size ≤ 40) (hr : rowsFrom t.size 0 l = true) :
    Calls Try.prog 19 #[.string t, .slice A n c] w fun e w' => e = .returned (.string (backE t l)) ∧ Below w.heap.size w w' := by
  have hl := h.length E1.cells E1.cells_length (by omega)
  have hsuf : ∀ k, k ≤ n → ∃ at_ : Int, 0 ≤ at_ ∧ at_ ≤ t.size ∧ rowsFrom t.size at_ (l.drop k) = true := by
    intro k
    induction k with
    | zero => intro _; exact ⟨0, by omega, by omega, hr⟩
    | succ k ih =>
      intro hk
      obtain ⟨at_, h0, h1, h2⟩ := ih (by omega)
      have hx : l[k]? = some l[k] := List.getElem?_eq_getElem (by omega)
      rw [drop_e1 hx] at h2
      obtain ⟨hm, hle, hr⟩ := rows_head h2
      obtain ⟨a0, d0, ad⟩ := may_nat hm
      exact ⟨_, by omega, by omega, hr⟩
  have HL := Lib.hid hl
  have HS := Lib.hid hsuf
  have HT := Lib.hid hT
  clear hl hsuf hT hr
  go_enter Try.func19, Try.ntmps19
  go_wp2
  go_loopw [0, 5] (fun t_ k_ wr => ∃ (k : Nat) (s : ByteArray), t_ = .string s ∧ k_ = .int .i64 ((k : Int) - 1) ∧ k ≤ n ∧ s = backE t (l.drop k) ∧ Below w.heap.size w wr) (fun _ k_ _ => ((intOf k_) + 1).toNat)
  case atStart => exact ⟨n, t, rfl, by first | rfl | go_num, by omega, by rw [List.drop_eq_nil_of_le (by rw [HL.out]; omega)]; rfl, Below.refl _ _⟩
  case round =>
    obtain ⟨k, s, rfl, rfl, hk, hs, hb⟩ := hrel
    have HSS := Lib.hid hs
    clear hs
    rcases k with _ | k
    · go_wp2_with fail
      go_ret
      refine ⟨?_, hb⟩
      rw [HSS.out]
      rfl
    · obtain ⟨ad, x, rfl, hx, c0, c1, c2⟩ := (h.below hb).ed (show k < n by omega)
      obtain ⟨at1, p0, p1, p2⟩ := HS.out k (by omega)
      rw [drop_e1 hx] at p2
      obtain ⟨hm, hle, hr⟩ := rows_head p2
      obtain ⟨a0, d0, hadd⟩ := may_nat hm
      have hroom := back_room t _ _ (by omega) (by omega) hr
      have hbs := back_size t _ (fun e he => HT.out e (List.mem_of_mem_drop he)) _ (by omega) (by omega) hr
      rw [List.length_drop, HL.out] at hbs
      rw [← HSS.out] at hroom hbs
      have hxT := HT.out x (List.mem_of_getElem? hx)
      have hmay : mayB x.A x.D s.size = true := by simp only [mayB, decide_eq_true_eq]; omega
      have hstep : applyB s x.A x.D x.T = backE t (l.drop k) := by rw [HSS.out, drop_e1 hx]; rfl
      have hs2 : s.size ≤ 20000 := by omega
      have HX := Lib.hid hx
      have HMM := Lib.hid hmay
      have HST := Lib.hid hstep
      have e1 : ((k + 1 : Nat) : Int) - 1 = k := by omega
      have hkn : (k : Int) < n := by omega
      clear hx p0 p1 p2 hm hle hr a0 d0 hadd hroom hbs hmay hstep
      rw [e1]
      clear e1
      go_wp2_with fail
      refine (rapply_big s x.A x.D x.T _ hs2 (by omega) HMM.out).mono ?_
      rintro e w2 ⟨rfl, hb2⟩
      go_wp2_with fail
      go_roundw
      case rel => exact ⟨k, _, rfl, by go_num, by omega, HST.out, bel_then hb hb2⟩
      case measure => simp [intOf] <;> omega
end Go.Proofs.Ythdlgkpicgilhaa
