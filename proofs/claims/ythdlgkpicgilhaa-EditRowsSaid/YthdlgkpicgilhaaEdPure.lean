/- Plain mathematics of edits: lists of bytes. No program in sight. -/
namespace Go.Proofs.Ed

theorem comp {α : Type} (t T U : List α) (A D B E : Nat) (hA : A + D ≤ t.length) (hB : B + E ≤ (t.take A ++ T ++ t.drop (A + D)).length) (h1 : B ≤ A + T.length) (h2 : A ≤ B + E) :
    t.take (min A B) ++ (T.take (B - A) ++ U ++ T.drop (min (B + E) (A + T.length) - A)) ++ t.drop (min A B + (D + (A - B) + (B + E - (A + T.length)))) =
    (t.take A ++ T ++ t.drop (A + D)).take B ++ U ++ (t.take A ++ T ++ t.drop (A + D)).drop (B + E) := by
  have hl : (t.take A).length = A := by rw [List.length_take]; omega
  have hB' : B + E ≤ A + T.length + (t.length - (A + D)) := by
    simp only [List.length_append, hl, List.length_drop] at hB; omega
  have e1 : (t.take A ++ T ++ t.drop (A + D)).take B = t.take (min A B) ++ T.take (B - A) := by
    rw [List.append_assoc, List.take_append, hl, List.take_append, List.take_take, show B - A - T.length = 0 by omega, List.take_zero, List.append_nil, Nat.min_comm]
  have e2 : (t.take A ++ T ++ t.drop (A + D)).drop (B + E) = T.drop (min (B + E) (A + T.length) - A) ++ t.drop (min A B + (D + (A - B) + (B + E - (A + T.length)))) := by
    rw [List.append_assoc, List.drop_append, hl, List.drop_append, List.drop_drop, List.drop_eq_nil_of_le (show (t.take A).length ≤ B + E by omega), List.nil_append]
    congr 1
    · rcases Nat.le_total (B + E) (A + T.length) with h | h
      · rw [Nat.min_eq_left h]
      · rw [Nat.min_eq_right h, List.drop_eq_nil_of_le (by omega), List.drop_eq_nil_of_le (by omega)]
    · congr 1
      rcases Nat.le_total A B with h | h
      · rw [Nat.min_eq_left h]; omega
      · rw [Nat.min_eq_right h]; omega
  rw [e1, e2]
  simp only [List.append_assoc]

/-- What an edit makes, undone. -/
theorem back {α : Type} (t T : List α) (A D : Nat) (hA : A + D ≤ t.length) :
    (t.take A ++ T ++ t.drop (A + D)).take A ++ (t.take (A + D)).drop A ++ (t.take A ++ T ++ t.drop (A + D)).drop (A + T.length) = t := by
  have hl : (t.take A).length = A := by rw [List.length_take]; omega
  have e1 : (t.take A ++ T ++ t.drop (A + D)).take A = t.take A := by
    rw [List.append_assoc, List.take_append, hl, Nat.sub_self, List.take_zero, List.append_nil, List.take_take, Nat.min_self]
  have e2 : (t.take A ++ T ++ t.drop (A + D)).drop (A + T.length) = t.drop (A + D) := by
    rw [List.drop_append_of_le_length (by simp [hl]), List.drop_eq_nil_of_le (by simp [hl]), List.nil_append]
  rw [e1, e2]
  have e3 : t.take A ++ (t.take (A + D)).drop A = t.take (A + D) := by
    have := List.take_append_drop A (t.take (A + D))
    rwa [List.take_take, Nat.min_eq_left (by omega)] at this
  rw [e3, List.take_append_drop]

end Go.Proofs.Ed
