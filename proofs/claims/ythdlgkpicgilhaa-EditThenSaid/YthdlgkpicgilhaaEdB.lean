/- One edit behind another one, as bytes. -/
import Derived.Test.YthdlgkpicgilhaaEdBytes
import Derived.Test.YthdlgkpicgilhaaEd3
import Derived.Test.YthdlgkpicgilhaaEd5
namespace Go.Proofs.Ythdlgkpicgilhaa

theorem then_size (T U : ByteArray) (a b e : Nat) : (thenText T U a b e).size ≤ T.size + U.size + T.size := by
  unfold thenText
  rw [ByteArray.size_append, ByteArray.size_append, ByteArray.size_extract, ByteArray.size_extract]
  omega

theorem then_applies (t T U : ByteArray) (a d b e : Nat) (h1 : a + d ≤ t.size) (h2 : b + e ≤ (applyB t a d T).size) (h3 : b ≤ a + T.size) (h4 : a ≤ b + e) :
    applyB t (min a b : Nat) (d + (a - b) + (b + e - (a + T.size)) : Nat) (thenText T U a b e) = applyB (applyB t a d T) b e U := by
  apply ba_ext
  rw [apply_list, apply_list, apply_list]
  unfold thenText
  rw [ba_app, ba_app, ba_cut, ba_cut, ba_size T, List.take_length, List.drop_zero]
  refine Ed.comp t.data.toList T.data.toList U.data.toList a d b e h1 ?_ h3 h4
  rw [ba_size, apply_list] at h2
  exact h2

theorem then_may (t T : ByteArray) (a d b e : Nat) (h1 : a + d ≤ t.size) (h2 : b + e ≤ (applyB t a d T).size) (h3 : b ≤ a + T.size) (h4 : a ≤ b + e) :
    mayB (min a b : Nat) (d + (a - b) + (b + e - (a + T.size)) : Nat) t.size = true := by
  rw [apply_size t a d T h1] at h2
  unfold mayB
  rw [decide_eq_true_eq]
  omega
end Go.Proofs.Ythdlgkpicgilhaa
