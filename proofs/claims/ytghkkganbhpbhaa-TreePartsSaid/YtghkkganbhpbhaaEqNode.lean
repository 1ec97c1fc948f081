/- '==' of nodes as one truth value. -/
import Derived.Test.YtghkkganbhpbhaaBase
set_option linter.unusedVariables false
set_option linter.unusedSimpArgs false
namespace Go.Proofs.Ytghkkganbhpbhaa
open Go.RowKit Go.Proofs.Bs
attribute [local go_sem] eqSet
theorem ok_ite (c : Prop) [Decidable c] (w : World) (a b : Bool) : (if c then Result.ok a w else Result.ok b w) = Result.ok (if c then a else b) w := by split <;> rfl
theorem eqNode (D : Nat) (w : World) (k a b c d l h k' a' b' c' d' l' h' : Int) :
    (Op.equalIn (D + 3) 78 (.agg #[.int .i64 k, .int .u64 a, .int .u64 b, .int .u64 c, .int .u64 d, .int .i64 l, .int .i64 h]) (.agg #[.int .i64 k', .int .u64 a', .int .u64 b', .int .u64 c', .int .u64 d', .int .i64 l', .int .i64 h'])).run Try.prog w = .ok (k == k' && ((a == a' && (b == b' && (c == c' && d == d'))) && (l == l' && h == h'))) w := by
  go_simp
  simp only [ok_ite]
  congr 1
  grind
end Go.Proofs.Ytghkkganbhpbhaa
