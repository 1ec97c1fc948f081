/- Pruned from its seat's text: what the theorem hangs on. -/
import Derived.Test.YtibabfgfahlekaaBCore
import Derived.Test.YtibabfgfahlekaaBTree0
/- What the walks share: sets and nodes as values. -/
set_option linter.unusedVariables false
set_option linter.unusedSimpArgs false
namespace Go.Proofs.Ytibabfgfahlekaa
open Go.RowKit Go.Proofs.Bs

theorem isAggU64 (w : World) : (isAgg 27).run Try.prog w = .ok false w := by kernel_rfl
theorem range'_four : List.range' 0 4 = [0, 1, 2, 3] := rfl
theorem eqSet (D : Nat) (w : World) (a b c d a' b' c' d' : Int) :
    (Op.equalIn (D + 2) 29 (.agg #[.int .u64 a, .int .u64 b, .int .u64 c, .int .u64 d]) (.agg #[.int .u64 a', .int .u64 b', .int .u64 c', .int .u64 d'])).run Try.prog w = .ok (a == a' && (b == b' && (c == c' && d == d'))) w := by
  unfold Op.equalIn
  simp only [Sem.run_bind, run_underlying Try.underlying29, Result.andThen_ok]
  simp [go_sem, range'_four, isAggU64]
  by_cases h1 : a = a' <;> by_cases h2 : b = b' <;> by_cases h3 : c = c' <;> by_cases h4 : d = d' <;> simp [go_sem, isAggU64, h1, h2, h3, h4]

def Nd.cells (n : Nd) : List Value := [.int .i64 n.kind, .int .u64 n.set.a, .int .u64 n.set.b, .int .u64 n.set.c, .int .u64 n.set.d, .int .i64 n.lo, .int .i64 n.hi]
theorem Nd.cells_length (n : Nd) : n.cells.length = 7 := rfl
theorem add_field (ad : Addr) (x j : Nat) (hj : j ≠ 0) : (⟨(ad.add x).block, (ad.add x).off + j, none⟩ : Addr) = ad.add (x + j) := by
  unfold Addr.add
  by_cases hx : x = 0 <;> simp [hx, hj, Nat.add_assoc]
theorem Reads.nd {w : World} {A : Option Addr} {n : Nat} {l : List Nd} (h : Reads w 7 A n (l.flatMap Nd.cells)) {k : Nat} (hk : k < n) :
    ∃ ad x, A = some ad ∧ l[k]? = some x ∧ w.cell? (ad.add (k * 7)) = some (.int .i64 x.kind) ∧
      w.cell? ⟨(ad.add (k * 7)).block, (ad.add (k * 7)).off + 1, none⟩ = some (.int .u64 x.set.a) ∧ w.cell? ⟨(ad.add (k * 7)).block, (ad.add (k * 7)).off + 2, none⟩ = some (.int .u64 x.set.b) ∧
      w.cell? ⟨(ad.add (k * 7)).block, (ad.add (k * 7)).off + 3, none⟩ = some (.int .u64 x.set.c) ∧ w.cell? ⟨(ad.add (k * 7)).block, (ad.add (k * 7)).off + 4, none⟩ = some (.int .u64 x.set.d) ∧
      w.cell? ⟨(ad.add (k * 7)).block, (ad.add (k * 7)).off + 5, none⟩ = some (.int .i64 x.lo) ∧ w.cell? ⟨(ad.add (k * 7)).block, (ad.add (k * 7)).off + 6, none⟩ = some (.int .i64 x.hi) := by
  obtain ⟨ad, x, e, hx, hc⟩ := h.elem Nd.cells Nd.cells_length (by omega) hk
  refine ⟨ad, x, e, hx, hc 0 _ rfl, ?_, ?_, ?_, ?_, ?_, ?_⟩ <;> rw [add_field _ _ _ (by omega)]
  · exact hc 1 _ rfl
  · exact hc 2 _ rfl
  · exact hc 3 _ rfl
  · exact hc 4 _ rfl
  · exact hc 5 _ rfl
  · exact hc 6 _ rfl

end Go.Proofs.Ytibabfgfahlekaa
