/- The walk of edit.All. -/
import Derived.Test.YthdlgkpicgilhaaRw1
import Derived.Test.YthdlgkpicgilhaaEdBu
set_option linter.unusedVariables false
set_option linter.unusedSimpArgs false
namespace Go.Proofs.Ythdlgkpicgilhaa
open Go.RowKit

theorem eall_no (t : ByteArray) (A : Option Addr) (n c : Nat) (l : List E1) (w : World) (h : Reads w 3 A n (l.flatMap E1.cells)) (hn : n ≤ 1000000) (ht : t.size ≤ 1000000) (hr : rowsFrom t.size 0 l = false) :
    Calls Try.prog 16 #[.string t, .slice A n c] w fun e w' => e = .returned (.tuple #[.string ⟨#[]⟩, .int .i64 2]) ∧ Below w.heap.size w w' := by
  have HR := Lib.hid hr
  clear hr
  go_enter Try.func16, Try.ntmps16
  go_wp2_with fail
  refine (erows_any A n c l t.size _ h hn (by omega) (by omega)).mono ?_
  rw [HR.out]
  rintro e w1 ⟨rfl, hb1⟩
  go_wp2_with fail
  go_ret2
  exact ⟨rfl, hb1⟩

set_option maxRecDepth 100000 in
set_option maxHeartbeats 6400000 in
theorem eall_yes (t : ByteArray) (A : Option Addr) (n c : Nat) (l : List E1) (w : World) (h : Reads w 3 A n (l.flatMap E1.cells)) (hn : n ≤ 12) (ht : t.size ≤ 80) (hT : ∀ e ∈ l, e.T.size ≤ 40) (hr : rowsFrom t.size 0 l = true) :
    Calls Try.prog 16 #[.string t, .slice A n c] w fun e w' => e = .returned (.tuple #[.string (backE t l), .int .i64 0]) ∧ Below w.heap.size w w' := by
  have hl := h.length E1.cells E1.cells_length (by omega)
  have hall := rows_all t l hr
  have HALL := Lib.hid hall
  have HL := Lib.hid hl
  have HT := Lib.hid hT
  have HR := Lib.hid hr
  clear hl hT hall
  go_enter Try.func16, Try.ntmps16
  go_wp2_with fail
  refine (erows_any A n c l t.size _ h (by omega) (by omega) (by omega)).mono ?_
  rw [HR.out]
  rintro e w1 ⟨rfl, hb1⟩
  have h1 := h.below hb1
  have hB0 := Lib.fresh_isBuilder 48 5 w1
  clear hr h
  go_wp2_with fail
  go_loopw [7, 17] (fun a_ k_ wr => ∃ (at_ : Int) (k : Nat) (bs : List UInt8), a_ = .int .i64 at_ ∧ k_ = .int .i64 k ∧ k ≤ n ∧ 0 ≤ at_ ∧ at_ ≤ t.size ∧ rowsFrom t.size at_ (l.drop k) = true ∧
    Lib.IsBuilder 48 5 w1.heap.size w1.heap.size (Lib.byteCells bs) wr ∧ bs ++ fwd t at_ (l.drop k) = fwd t 0 l ∧ bs.length ≤ at_.toNat + 40 * k ∧ Below w1.heap.size w1 wr) (fun _ k_ _ => n - (intOf k_).toNat)
  case atStart => exact ⟨0, 0, [], rfl, rfl, by omega, by omega, by omega, HR.out, hB0, rfl, by simp, bel_alloc (Below.refl _ _) _⟩
  case round =>
    clear hB0
    obtain ⟨at_, k, bs, rfl, rfl, hk, ha0, ha1, hrow, hB, hcat, hlen, hb⟩ := hrel
    have HROW := Lib.hid hrow
    have HCAT := Lib.hid hcat
    clear hrow hcat
    by_cases hlt : k < n
    · obtain ⟨ad, x, rfl, hx, c0, c1, c2⟩ := (h1.below hb).ed hlt
      have hrd := HROW.out
      rw [drop_e1 hx] at hrd
      obtain ⟨hm, hle, hr⟩ := rows_head hrd
      obtain ⟨a0, d0, hadd⟩ := may_nat hm
      have hxT := HT.out x (List.mem_of_getElem? hx)
      have HX := Lib.hid hx
      have HR2 := Lib.hid hr
      obtain ⟨a, hae⟩ := Int.eq_ofNat_of_zero_le a0
      obtain ⟨p, rfl⟩ := Int.eq_ofNat_of_zero_le ha0
      have hpa : p ≤ a := by omega
      have hat : a ≤ t.size := by omega
      have hadd2 : (a : Int) + x.D ≤ t.size := by omega
      rw [hae] at c0
      clear hx hrd hm hr a0 hle hadd
      have hbx := heap_alloc_new wr (.cells #[.int .i64 (a : Int), .int .i64 x.D, .string x.T] 23)
      have hBx := bu_alloc hB (.cells #[.int .i64 (a : Int), .int .i64 x.D, .string x.T] 23)
      have hbb := bel_alloc hb (.cells #[.int .i64 (a : Int), .int .i64 x.D, .string x.T] 23)
      have hnb : wr.heap.size ≠ w1.heap.size := by
        rcases hB with h | h
        · have := h.lt; omega
        · have := h.lt; omega
      clear hB hb
      have hbl : (Lib.byteCells bs).length = bs.length := by simp [Lib.byteCells]
      have hcs : (t.extract p a).size = a - p := by rw [ByteArray.size_extract, Nat.min_eq_left hat]
      have hne : ∀ cs fz, (Obj.cells #[.int .i64 (a : Int), .int .i64 x.D, .string x.T] 23) ≠ .cells cs 5 fz := by
        intro cs fz q
        injection q with _ q
        cases q
      have HNE := Lib.hid hne
      have HBX := Lib.hid hbx
      clear hne hbx
      go_wp2_with fail
      refine (write_any w1.heap.size w1.heap.size (Lib.byteCells bs) (t.extract p a) _ hBx (by omega) (hbb.size)).mono ?_
      rintro e w2 ⟨rfl, hB2, hb2, hk2⟩
      have hbx2 := hk2 wr.heap.size _ HBX.out (by simpa using hnb) HNE.out
      have q0 : w2.cell? ⟨wr.heap.size, 0, none⟩ = some (.int .i64 (a : Int)) := by rw [Lib.cell_of_heap hbx2]; rfl
      have q2 : w2.cell? ⟨wr.heap.size, 2, none⟩ = some (.string x.T) := by rw [Lib.cell_of_heap hbx2]; rfl
      have hbb2 : Below w1.heap.size w1 w2 := hbb.trans hb2
      have HBX2 := Lib.hid hbx2
      have hl2 : (Lib.byteCells bs ++ Lib.strCells (t.extract p a)).length ≤ 1000 := by
        rw [List.length_append, hbl, Lib.strCells_length, hcs]; omega
      clear hbx2 hBx hbb hb2 hk2
      go_wp2_with fail
      refine (write_any w1.heap.size w1.heap.size _ x.T _ (.inr hB2) (by omega) (hbb2.size)).mono ?_
      rintro e w3 ⟨rfl, hB3, hb3, hk3⟩
      have hbx3 := hk3 wr.heap.size _ HBX2.out (by simpa using hnb) HNE.out
      have r0 : w3.cell? ⟨wr.heap.size, 0, none⟩ = some (.int .i64 (a : Int)) := by rw [Lib.cell_of_heap hbx3]; rfl
      have r1 : w3.cell? ⟨wr.heap.size, 1, none⟩ = some (.int .i64 x.D) := by rw [Lib.cell_of_heap hbx3]; rfl
      have hbb3 : Below w1.heap.size w1 w3 := hbb2.trans hb3
      clear hbx3 hB2 hbb2 hb3 hk3 q0 q2
      have hDn : 0 ≤ x.D := d0
      go_wp2_with fail
      go_roundw
      case rel =>
        refine ⟨(a : Int) + x.D, k + 1, bs ++ (t.extract p a).data.toList ++ x.T.data.toList, by go_num, by go_num, by omega, by omega, by omega, ?_, ?_, ?_, ?_, hbb3⟩
        · rw [← hae]; exact HR2.out
        · have e1 : Lib.byteCells (bs ++ (t.extract p a).data.toList ++ x.T.data.toList) = Lib.byteCells bs ++ Lib.strCells (t.extract p a) ++ Lib.strCells x.T := by
            rw [Lib.strCells_eq, Lib.strCells_eq]; simp [Lib.byteCells]
          rw [e1]
          exact .inr hB3
        · rw [← HCAT.out, drop_e1 HX.out, fwd, hae, ba_cut, Int.toNat_natCast, Int.toNat_natCast]
          simp only [List.append_assoc]
        · rw [List.length_append, List.length_append, ← ba_size, ← ba_size, hcs]
          omega
      case measure => simp [intOf] <;> omega
    · obtain rfl : k = n := by omega
      obtain ⟨p, rfl⟩ := Int.eq_ofNat_of_zero_le ha0
      have hbl : (Lib.byteCells bs).length = bs.length := by simp [Lib.byteCells]
      have hcs : (t.extract p t.size).size = t.size - p := by rw [ByteArray.size_extract, Nat.min_self]
      have hcat := HCAT.out
      rw [List.drop_eq_nil_of_le (by rw [HL.out]; omega), fwd, Int.toNat_natCast] at hcat
      have HC := Lib.hid hcat
      clear hcat
      have hpt : p ≤ t.size := by omega
      go_wp2_with fail
      refine (write_any w1.heap.size w1.heap.size (Lib.byteCells bs) (t.extract p t.size) _ hB (by omega) (hb.size)).mono ?_
      rintro e w2 ⟨rfl, hB2, hb2, hk2⟩
      have e1 : Lib.byteCells (bs ++ (t.extract p t.size).data.toList) = Lib.byteCells bs ++ Lib.strCells (t.extract p t.size) := by
        rw [Lib.strCells_eq]; simp [Lib.byteCells]
      rw [← e1] at hB2
      have hbb2 : Below w1.heap.size w1 w2 := hb.trans hb2
      clear e1 hb hb2 hk2 hB
      have hfin : (⟨(bs ++ (t.extract p t.size).data.toList).toArray⟩ : ByteArray) = backE t l := by
        apply ba_ext
        rw [HALL.out, ← HC.out, ba_cut, ba_size, List.take_length]
      have CS := Try.Builder_String_any w1.heap.size w1.heap.size _ _ (.inr hB2) hbb2.size
      rw [hfin] at CS
      have HCS := Lib.hid CS
      clear CS hfin hB2
      go_wp2_with fail
      refine HCS.out.mono ?_
      rintro e w3 ⟨rfl, hb3⟩
      go_wp2_with fail
      go_ret2
      exact ⟨rfl, bel_then hb1 (hbb2.trans hb3)⟩
end Go.Proofs.Ythdlgkpicgilhaa
