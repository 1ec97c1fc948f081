/- Edits of byte arrays. -/
import Derived.Test.YthdlgkpicgilhaaEdPure
import Derived.Test.YthdlgkpicgilhaaEd1
namespace Go.Proofs.Ythdlgkpicgilhaa

theorem ba_ext {x y : ByteArray} (h : x.data.toList = y.data.toList) : x = y := ByteArray.ext (Array.ext' h)
theorem ba_app (x y : ByteArray) : (x ++ y).data.toList = x.data.toList ++ y.data.toList := by rw [ByteArray.data_append, Array.toList_append]
theorem ba_cut (x : ByteArray) (i j : Nat) : (x.extract i j).data.toList = (x.data.toList.take j).drop i := by
  rw [ByteArray.data_extract, Array.toList_extract, List.extract_eq_take_drop, List.drop_take]
theorem ba_size (x : ByteArray) : x.size = x.data.toList.length := rfl
theorem apply_list (t : ByteArray) (A D : Nat) (T : ByteArray) : (applyB t A D T).data.toList = t.data.toList.take A ++ T.data.toList ++ t.data.toList.drop (A + D) := by
  unfold applyB
  rw [ba_app, ba_app, ba_cut, ba_cut, ba_size, List.take_length, List.drop_zero]
  rfl

theorem apply_back (t : ByteArray) (A D : Nat) (T : ByteArray) (h : A + D ≤ t.size) : applyB (applyB t A D T) A T.size (t.extract A (A + D)) = t := by
  apply ba_ext
  rw [apply_list, apply_list, ba_cut, ba_size]
  exact Ed.back _ _ _ _ h

theorem apply_size (t : ByteArray) (A D : Nat) (T : ByteArray) (h : A + D ≤ t.size) : (applyB t A D T).size = A + T.size + (t.size - (A + D)) := by
  rw [ba_size, apply_list]
  rw [ba_size] at h
  rw [List.length_append, List.length_append, List.length_take, List.length_drop, ba_size t, ba_size T]
  omega
end Go.Proofs.Ythdlgkpicgilhaa
