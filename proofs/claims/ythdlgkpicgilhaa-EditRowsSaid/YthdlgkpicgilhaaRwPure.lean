/- Plain: edits one behind the other, as bytes. -/
import Derived.Test.YthdlgkpicgilhaaEdBytes
namespace Go.Proofs.Ythdlgkpicgilhaa

structure E1 where
  A : Int
  D : Int
  T : ByteArray
def rowsFrom (n : Int) : Int → List E1 → Bool
  | _, [] => true
  | at_, e :: l => mayB e.A e.D n && decide (at_ ≤ e.A) && rowsFrom n (e.A + e.D) l
/-- From the first one. -/
def fwd (t : ByteArray) : Int → List E1 → List UInt8
  | at_, [] => t.data.toList.drop at_.toNat
  | at_, e :: l => (t.data.toList.take e.A.toNat).drop at_.toNat ++ e.T.data.toList ++ fwd t (e.A + e.D) l
/-- From the last one. -/
def backE (t : ByteArray) : List E1 → ByteArray
  | [] => t
  | e :: l => applyB (backE t l) e.A e.D e.T
theorem may_nat {A D n : Int} (h : mayB A D n = true) : 0 ≤ A ∧ 0 ≤ D ∧ A + D ≤ n := by
  simp only [mayB, decide_eq_true_eq] at h
  omega
theorem rows_split (t : ByteArray) (l : List E1) : ∀ at_ : Int, 0 ≤ at_ → at_ ≤ t.size → rowsFrom t.size at_ l = true →
    (backE t l).data.toList.take at_.toNat = t.data.toList.take at_.toNat ∧ (backE t l).data.toList.drop at_.toNat = fwd t at_ l := by
  induction l with
  | nil => intro at_ _ _ _; exact ⟨rfl, rfl⟩
  | cons e l ih =>
    intro at_ h0 h1 h
    simp only [rowsFrom, Bool.and_eq_true, decide_eq_true_eq] at h
    obtain ⟨⟨hm, hle⟩, hr⟩ := h
    obtain ⟨a0, d0, ad⟩ := may_nat hm
    obtain ⟨A, D, T⟩ := e
    simp only at hm hle hr a0 d0 ad
    obtain ⟨a, rfl⟩ := Int.eq_ofNat_of_zero_le a0
    obtain ⟨d, rfl⟩ := Int.eq_ofNat_of_zero_le d0
    obtain ⟨p, rfl⟩ := Int.eq_ofNat_of_zero_le h0
    obtain ⟨i1, i2⟩ := ih ((a : Int) + d) (by omega) (by omega) hr
    rw [show ((a : Int) + d).toNat = a + d by omega] at i1 i2
    have hts : t.data.toList.length = t.size := rfl
    have hB : a + d ≤ (backE t l).data.toList.length := by
      have := congrArg List.length i1
      rw [List.length_take, List.length_take] at this
      omega
    simp only [backE, fwd]
    rw [apply_list, i2, Int.toNat_natCast, Int.toNat_natCast]
    have hta : (backE t l).data.toList.take a = t.data.toList.take a := by
      have := congrArg (List.take a) i1
      rwa [List.take_take, List.take_take, Nat.min_eq_left (by omega)] at this
    have hl : (t.data.toList.take a).length = a := by rw [List.length_take]; omega
    rw [hta]
    constructor
    · rw [List.append_assoc, List.take_append_of_le_length (by rw [hl]; omega), List.take_take, Nat.min_eq_left (by omega)]
    · rw [List.append_assoc, List.drop_append_of_le_length (by rw [hl]; omega), List.append_assoc]
theorem rows_all (t : ByteArray) (l : List E1) (h : rowsFrom t.size 0 l = true) : (backE t l).data.toList = fwd t 0 l := by
  have := (rows_split t l 0 (by omega) (by omega) h).2
  rwa [Int.toNat_zero, List.drop_zero] at this
/-- What stands behind has room for the edit ahead of it. -/
theorem back_room (t : ByteArray) (l : List E1) (at_ : Int) (h0 : 0 ≤ at_) (h1 : at_ ≤ t.size) (h : rowsFrom t.size at_ l = true) : at_ ≤ (backE t l).size := by
  have := congrArg List.length (rows_split t l at_ h0 h1 h).1
  rw [List.length_take, List.length_take] at this
  have hts : t.data.toList.length = t.size := rfl
  have hbs : (backE t l).data.toList.length = (backE t l).size := rfl
  omega
theorem rows_head {n at_ : Int} {e : E1} {l : List E1} (h : rowsFrom n at_ (e :: l) = true) : mayB e.A e.D n = true ∧ at_ ≤ e.A ∧ rowsFrom n (e.A + e.D) l = true := by
  simp only [rowsFrom, Bool.and_eq_true, decide_eq_true_eq] at h
  exact ⟨h.1.1, h.1.2, h.2⟩
theorem back_size (t : ByteArray) (l : List E1) (hT : ∀ e ∈ l, e.T.size ≤ 40) : ∀ at_ : Int, 0 ≤ at_ → at_ ≤ t.size → rowsFrom t.size at_ l = true → (backE t l).size ≤ t.size + 40 * l.length := by
  induction l with
  | nil => intro _ _ _ _; simp [backE]
  | cons e l ih =>
    intro at_ h0 h1 h
    obtain ⟨hm, hle, hr⟩ := rows_head h
    obtain ⟨a0, d0, ad⟩ := may_nat hm
    obtain ⟨A, D, T⟩ := e
    simp only at hm hle hr a0 d0 ad
    have hTe := hT ⟨A, D, T⟩ (by simp)
    simp only at hTe
    have i := ih (fun e he => hT e (List.mem_cons_of_mem _ he)) (A + D) (by omega) (by omega) hr
    have hroom := back_room t l (A + D) (by omega) (by omega) hr
    obtain ⟨a, rfl⟩ := Int.eq_ofNat_of_zero_le a0
    obtain ⟨d, rfl⟩ := Int.eq_ofNat_of_zero_le d0
    simp only [backE]
    rw [apply_size _ a d T (by omega)]
    simp only [List.length_cons]
    omega
end Go.Proofs.Ythdlgkpicgilhaa
