/- Several short texts of this proof, one behind the other. -/
import Derived.Test.YtfjemaeidmikmaaDoorFCore
import Derived.Test.YtfjemaeidmikmaaDoorFM1
import Derived.Test.YtfjemaeidmikmaaDoorFTreePure
import Derived.ProofKit
import Derived.OpenShut
import Derived.ShutString
import Derived.ChangeOld
import Derived.SizedLaws
import Derived.Deep.Slices
import Derived.Deep.Fields
import Derived.Test.YtfjemaeidmikmaaDoorProg
import Derived.Below
import Derived.Deep.Draws
import Derived.Deep.AppendLies
import Derived.Maps.AppendAt
import Derived.OwnWalk
import Derived.Laws.BytesArg
import Derived.Laws.MakeOwn
import Derived.Laws.OwnMore
import Derived.Deep.OwnRows
import Derived.Tactics
import Derived.Lib.ConvBytes
import Derived.Laws.Slices
import Derived.WalkKit
import Derived.KernelRfl
import Derived.RowKit3
import Derived.Deep.LoopGhost
import Derived.Deep.QuietTactic
import Derived.BigQuiet
import Derived.WideLaws
import Derived.Deep.DeepCutAuto
import Derived.Deep.CutBlock
import Derived.Deep.RegionHeld3
import Derived.Laws.Rows
import Derived.Lib.AppendStr
import Derived.ArgAppend
import Derived.Laws.IdiomCopy
import Derived.OrdersHeld
import Derived.Laws.BitsLemmas
import Derived.RowKit
import Derived.Test.YtfjemaeidmikmaaDoorFW1
import Derived.Laws.StructEq
import Derived.Maps.OwnSet
import Derived.DeepKeys4
import Derived.MapViews
import Derived.Lib.LaidTab
import Derived.Test.YtfjemaeidmikmaaDoorRows
import Derived.Test.YtfjemaeidmikmaaDoorTie
import Derived.Test.YtfjemaeidmikmaaDoorCards
import Derived.LaidMore
import Derived.Stop.Joined
import Derived.SevenTiedAt
import Derived.Lib.SmallJoins
import Derived.Laws.BitsAllLaws
import Derived.Lib.Hide
import Derived.Deep.RegionWith
import Derived.StringKeys
import Derived.RegionTactic
import Derived.BigRegion
import Derived.ChangeAlike
import Derived.Deep.RegionLaw
section
set_option linter.unusedVariables false
set_option linter.unusedSimpArgs false
namespace Go.Proofs.YtfjemaeidmikmaaDoor
open Go.RowKit
def casts (l : List Nat) : List Int := l.map Int.ofNat
theorem map_at {l : List (Int × Int)} {g : Int × Int → Int} {k : Nat} {x : Int} (h : (l.map g)[k]? = some x) : ∃ p, l[k]? = some p ∧ x = g p := by
  simp only [List.getElem?_map, Option.map_eq_some_iff] at h;obtain ⟨y, h1, h2⟩ := h;exact ⟨y, h1, h2.symm⟩
theorem ints_set (l : List Int) (k : Nat) (x : Int) : (ints l).set k (.int .i64 x) = ints (l.set k x) := by simp [ints, List.map_set]
end Go.Proofs.YtfjemaeidmikmaaDoor
end
section
set_option linter.unusedVariables false
set_option linter.unusedSimpArgs false
namespace Go.Proofs.YtfjemaeidmikmaaDoor
open Go.RowKit Go.Proofs.Bs
theorem isAggU64 (w : World) : (isAgg 60).run Tryd.prog w = .ok false w := by kernel_rfl
theorem range'_four : List.range' 0 4 = [0, 1, 2, 3] := rfl
theorem eqSet (D : Nat) (w : World) (a b c d a' b' c' d' : Int) :
    (Op.equalIn (D + 2) 62 (.agg #[.int .u64 a, .int .u64 b, .int .u64 c, .int .u64 d]) (.agg #[.int .u64 a', .int .u64 b', .int .u64 c', .int .u64 d'])).run Tryd.prog w = .ok (a == a' && (b == b' && (c == c' && d == d'))) w := by
  unfold Op.equalIn;simp only [Sem.run_bind, run_underlying Tryd.underlying62, Result.andThen_ok];simp [go_sem, range'_four, isAggU64];by_cases h1 : a = a' <;> by_cases h2 : b = b' <;> by_cases h3 : c = c' <;> by_cases h4 : d = d' <;> simp [go_sem, isAggU64, h1, h2, h3, h4]
def Nd.cells (n : Nd) : List Value := [.int .i64 n.kind, .int .u64 n.set.a, .int .u64 n.set.b, .int .u64 n.set.c, .int .u64 n.set.d, .int .i64 n.lo, .int .i64 n.hi]
theorem Nd.cells_length (n : Nd) : n.cells.length = 7 := rfl
theorem add_field (ad : Addr) (x j : Nat) (hj : j ≠ 0) : (⟨(ad.add x).block, (ad.add x).off + j, none⟩ : Addr) = ad.add (x + j) := by
  unfold Addr.add;by_cases hx : x = 0 <;> simp [hx, hj, Nat.add_assoc]
theorem Reads.nd {w : World} {A : Option Addr} {n : Nat} {l : List Nd} (h : Reads w 7 A n (l.flatMap Nd.cells)) {k : Nat} (hk : k < n) :
    ∃ ad x, A = some ad ∧ l[k]? = some x ∧ w.cell? (ad.add (k * 7)) = some (.int .i64 x.kind) ∧
      w.cell? ⟨(ad.add (k * 7)).block, (ad.add (k * 7)).off + 1, none⟩ = some (.int .u64 x.set.a) ∧ w.cell? ⟨(ad.add (k * 7)).block, (ad.add (k * 7)).off + 2, none⟩ = some (.int .u64 x.set.b) ∧
      w.cell? ⟨(ad.add (k * 7)).block, (ad.add (k * 7)).off + 3, none⟩ = some (.int .u64 x.set.c) ∧ w.cell? ⟨(ad.add (k * 7)).block, (ad.add (k * 7)).off + 4, none⟩ = some (.int .u64 x.set.d) ∧
      w.cell? ⟨(ad.add (k * 7)).block, (ad.add (k * 7)).off + 5, none⟩ = some (.int .i64 x.lo) ∧ w.cell? ⟨(ad.add (k * 7)).block, (ad.add (k * 7)).off + 6, none⟩ = some (.int .i64 x.hi) := by
  obtain ⟨ad, x, e, hx, hc⟩ := h.elem Nd.cells Nd.cells_length (by omega) hk;refine ⟨ad, x, e, hx, hc 0 _ rfl, ?_, ?_, ?_, ?_, ?_, ?_⟩ <;> rw [add_field _ _ _ (by omega)]
  · exact hc 1 _ rfl
  · exact hc 2 _ rfl
  · exact hc 3 _ rfl
  · exact hc 4 _ rfl
  · exact hc 5 _ rfl
  · exact hc 6 _ rfl
end Go.Proofs.YtfjemaeidmikmaaDoor
end
section
namespace Go.Proofs.YtfjemaeidmikmaaDoor
open Go.Proofs.Bs
def maxOf : List Int → Int → Int
  | [], m => m
  | d :: ds, m => maxOf ds (max m d)
def stackStep (s : List Int) (x : Nd) : List Int := s.take (s.length - (arity x.kind).toNat) ++ [maxOf (s.drop (s.length - (arity x.kind).toNat)) 0 + 1]
def stackP (l : List Nd) : Nat → List Int
  | 0 => []
  | k + 1 => stackStep (stackP l k) (l.getD k zNd)
theorem stack_tiles (l : List Nd) (hr : rightB l = true) (k : Nat) (hk : k ≤ l.length) : ∃ m, tiles l k m ∧ (stackP l k).length = m := by
  obtain ⟨_, hall, _⟩ := (rightB_iff l).1 hr
  induction k with
  | zero => exact ⟨0, rfl, rfl⟩
  | succ k ih =>
    obtain ⟨m, ht, hm⟩ := ih (by omega);have hx : l[k]? = some l[k] := List.getElem?_eq_getElem (by omega);(have hg : l.getD k zNd = l[k] := by rw [List.getD_eq_getElem?_getD, hx]; rfl);have h0 := (hall k (by omega)).1;have hp := fst1_pop l k _ hx;generalize l[k] = x at hx hg hp;have h1 := pop_tiles l (arity x.kind).toNat k m ht;(have ha : ¬ arity x.kind < 0 := by intro h; rw [if_pos h] at hp; omega);rw [if_neg ha] at hp
    have ham : (arity x.kind).toNat ≤ m := by
      rcases Nat.lt_or_ge m (arity x.kind).toNat with h | h
      · have := h1.2 h; rw [hp] at h0; exact absurd h0 (by omega)
      · exact h
    obtain ⟨s, hs, hts⟩ := h1.1 ham;refine ⟨m - (arity x.kind).toNat + 1, ⟨by omega, ?_, ?_⟩, ?_⟩
    · rw [Nat.add_sub_cancel]; exact h0
    · rw [Nat.add_sub_cancel, hp, hs, Int.toNat_natCast]; exact hts
    · rw [stackP, hg, stackStep, List.length_append, List.length_take, hm];simp
theorem stack_room (l : List Nd) (hr : rightB l = true) (k : Nat) (x : Nd) (hx : l[k]? = some x) : 0 ≤ arity x.kind ∧ (arity x.kind).toNat ≤ (stackP l k).length := by
  obtain ⟨_, hall, _⟩ := (rightB_iff l).1 hr;have hk := (List.getElem?_eq_some_iff.1 hx).1;obtain ⟨m, ht, hm⟩ := stack_tiles l hr k (by omega);have h0 := (hall k hk).1;have hp := fst1_pop l k _ hx;have h1 := pop_tiles l (arity x.kind).toNat k m ht;(have ha : ¬ arity x.kind < 0 := by intro h; rw [if_pos h] at hp; omega);rw [if_neg ha] at hp;refine ⟨by omega, ?_⟩;rw [hm];rcases Nat.lt_or_ge m (arity x.kind).toNat with h | h
  · have := h1.2 h; rw [hp] at h0; exact absurd h0 (by omega)
  · exact h
theorem stack_end (l : List Nd) (hr : rightB l = true) : 1 ≤ (stackP l l.length).length := by
  obtain ⟨m, ht, hm⟩ := stack_tiles l hr l.length (by omega);obtain ⟨_, _, h0, _⟩ := (rightB_iff l).1 hr;rw [hm]
  cases m with
  | zero => exact absurd ht (by show ¬ l.length = 0; omega)
  | succ m => omega
end Go.Proofs.YtfjemaeidmikmaaDoor
end
section
set_option linter.unusedVariables false
set_option linter.unusedSimpArgs false
namespace Go.Proofs.YtfjemaeidmikmaaDoor
open Go.ChangeShapes Go.WideShapes Go.ChangeAt Go.RowKit Go.Deep
theorem laidOut : laidOutB Tryd.prog = true := by kernel_rfl
theorem ownKnob_none : ownKnob Tryd.prog.godebug = none := by kernel_rfl
section
variable {H : Type} {enc : TypeId × Value → H} {w : World} {base : Nat} {spare : Nat → Bool} {held : Bool}
theorem cellsInt : Tryd.prog.cellsOf 3 = 1 := by kernel_rfl
theorem open_i64 {fuel : Nat} {cs : List Value} {x : DataW H × List MemPlace} (h : DataW.trod enc Tryd.prog w base spare held fuel 3 cs = some x) : ∃ a : Int, cs = [.int .i64 a] ∧ -9223372036854775808 ≤ a ∧ a ≤ 9223372036854775807 := by
  obtain ⟨n, rfl, _, hw⟩ := DataW.trod_int Tryd.underlying3 h;exact ⟨n, rfl, bounds_i64 hw⟩
theorem open_list {α : Type} (f : α → List Value) (ok : α → Prop) {size : Nat} (hf : ∀ x, (f x).length = size) (z : α) {t e : TypeId} (ht : Tryd.prog.underlying t = some (.slice e)) (he : Tryd.prog.cellsOf e = size)
    (hopen : ∀ {fuel : Nat} {cs : List Value} {x : DataW H × List MemPlace}, DataW.trod enc Tryd.prog w base spare held fuel e cs = some x → ∃ n, cs = f n ∧ ok n)
    {A : Option Addr} {len cap : Nat} {d : DataW H} {ps : List MemPlace} (h : DataW.Trod enc Tryd.prog w base spare held t (.slice A len cap) d ps) :
    ∃ l : List α, Reads w size A len (l.flatMap f) ∧ len ≤ cap ∧ (∀ n ∈ l, ok n) ∧ (d = .nil ∧ len = 0 ∨ ∃ es sp, d = .slice es sp ∧ es.length = len) := by
  obtain ⟨fuel, h⟩ := h;rcases open_slice ht h with ⟨hcs, hx⟩ | ⟨a, len', cap', m, n, D, Pl, hcs, _, hl, _, hm, hx, hi⟩
  · simp only [Value.cells] at hcs;(have hcs : Value.slice A len cap = .slice none 0 0 := by simpa using hcs);injection hcs with h1 h2 h3;subst h1 h2 h3;injection hx with hx;exact ⟨[], ⟨by simp, fun h => absurd h (by omega)⟩, by omega, (fun n hn => by cases hn), .inl ⟨hx, rfl⟩⟩
  · (have hcs : Value.slice A len cap = .slice (some a) len' cap' := by simpa [Value.cells] using hcs);injection hcs with h1 h2 h3;subst h1 h2 h3;(have hlm : len ≤ m := by rw [hm]; split <;> omega);rw [he] at hi
    have hex : ∀ i, ∃ n : α, i < m → ((∀ j u, (f n)[j]? = some u → w.cell? (a.add (i * size + j)) = some u) ∧ ok n) := by
      intro i;by_cases him : i < m
      · obtain ⟨cs', hc, ht'⟩ := hi i him;obtain ⟨n, rfl, hn⟩ := hopen ht';obtain ⟨_, hcl, hat⟩ := World.cells?_some hc;refine ⟨n, fun _ => ⟨fun j u hu => ?_, hn⟩⟩;(have hj : j < size := by have := (List.getElem?_eq_some_iff.1 hu).1; rwa [hf] at this);rw [← add_of_add, hat j hj];exact hu
      · exact ⟨z, fun h => absurd h him⟩
    have hch : ∃ g : Nat → α, ∀ i, i < m → ((∀ j u, (f (g i))[j]? = some u → w.cell? (a.add (i * size + j)) = some u) ∧ ok (g i)) := ⟨fun i => Classical.choose (hex i), fun i => Classical.choose_spec (hex i)⟩;obtain ⟨g, hg⟩ := hch;refine ⟨(List.range len).map g, ⟨?_, fun hp => ⟨a, rfl, fun j u hu => ?_⟩⟩, hl, ?_, .inr ⟨_, _, (Prod.mk.inj hx).1, by simp⟩⟩
    · rw [flat_length f size hf]; simp
    · have hjl := (List.getElem?_eq_some_iff.1 hu).1;rw [flat_length f size hf, List.length_map, List.length_range] at hjl
      have hs : 0 < size := by
        rcases Nat.eq_zero_or_pos size with h0 | h0
        · rw [h0] at hjl; omega
        · exact h0
      have hq : j / size < len := Nat.div_lt_of_lt_mul (by rw [Nat.mul_comm]; exact hjl);have hr : j % size < size := Nat.mod_lt _ hs;(have hj : j = j / size * size + j % size := by rw [Nat.mul_comm]; exact (Nat.div_add_mod j size).symm);(have hel : ((List.range len).map g)[j / size]? = some (g (j / size)) := by simp [hq]);rw [hj, flat_at f size hf _ _ _ hel _ hr] at hu;rw [hj];exact (hg _ (by omega)).1 _ u hu
    · intro n hn;obtain ⟨i, hi', rfl⟩ := List.mem_map.1 hn;exact (hg i (by have := List.mem_range.1 hi'; omega)).2
end
end Go.Proofs.YtfjemaeidmikmaaDoor
end
section
namespace Go.Proofs.YtfjemaeidmikmaaDoorQ
open Go.RowKit Go.Proofs.YtfjemaeidmikmaaDoorW.PrintWords Go.Proofs.YtfjemaeidmikmaaDoorW.PrintLast Go.Proofs.YtfjemaeidmikmaaDoorW.PrintMore
attribute [local go_sem] max2_int min2_int max_two min_two max_three min_three max_four min_four
set_option linter.unusedVariables false
set_option linter.unusedSimpArgs false
def errW : Option Int → Value
 | none => .nilIface
 | some c => .iface 0 (.int .i64 c)
theorem errW_none : errW none = .nilIface := rfl
theorem errW_some (c : Int) : errW (some c) = .iface 0 (.int .i64 c) := rfl
theorem info3 : (Tryd.prog.info? 3).map (fun i => (i.zero, i.size, i.bytes)) = some (some (.int .i64 0), 1, 8) := by kernel_rfl
theorem info4 : (Tryd.prog.info? 4).map (fun i => (i.zero, i.size, i.bytes)) = some (some (.bool false), 1, 1) := by kernel_rfl
theorem info28 : (Tryd.prog.info? 28).map (fun i => (i.zero, i.size, i.bytes)) = some (some (.slice none 0 0), 1, 24) := by kernel_rfl
theorem info71 : (Tryd.prog.info? 71).map (fun i => (i.zero, i.size, i.bytes)) = some (some (.agg #[(.int .i64 0), (.int .u64 0), (.int .u64 0), (.int .u64 0), (.int .u64 0), (.int .i64 0), (.int .i64 0)]), 7, 56) := by kernel_rfl
structure S62 where
 f0 : Int
 f1 : Int
 f2 : Int
 f3 : Int
def z62 : S62 := ⟨(0 : Int), (0 : Int), (0 : Int), (0 : Int)⟩
def k62 : Kd S62 := Kd.iso (Kd.pair (Kd.int .u64) (Kd.pair (Kd.int .u64) (Kd.pair (Kd.int .u64) (Kd.int .u64)))) (fun x : S62 => (x.f0, x.f1, x.f2, x.f3))
theorem k62_open {w : World} {x : S62} {cs : List Value} (h : k62.K w x cs) : cs = [.int .u64 x.f0, .int .u64 x.f1, .int .u64 x.f2, .int .u64 x.f3] := by
 obtain ⟨_, _, rfl, rfl, ⟨_, _, rfl, rfl, ⟨_, _, rfl, rfl, rfl⟩⟩⟩ := h;exact rfl
theorem k62_mk (w : World) (x : S62)  : k62.K w x [.int .u64 x.f0, .int .u64 x.f1, .int .u64 x.f2, .int .u64 x.f3] := ⟨[.int .u64 x.f0], [.int .u64 x.f1, .int .u64 x.f2, .int .u64 x.f3], rfl, rfl, ⟨[.int .u64 x.f1], [.int .u64 x.f2, .int .u64 x.f3], rfl, rfl, ⟨[.int .u64 x.f2], [.int .u64 x.f3], rfl, rfl, rfl⟩⟩⟩
theorem k62_mkM (w : World) (base : Nat) (ok : Nat → Prop) (x : S62)  : k62.M w base ok x [.int .u64 x.f0, .int .u64 x.f1, .int .u64 x.f2, .int .u64 x.f3] := ⟨[.int .u64 x.f0], [.int .u64 x.f1, .int .u64 x.f2, .int .u64 x.f3], rfl, rfl, ⟨[.int .u64 x.f1], [.int .u64 x.f2, .int .u64 x.f3], rfl, rfl, ⟨[.int .u64 x.f2], [.int .u64 x.f3], rfl, rfl, rfl⟩⟩⟩
structure S64 where
 f0 : Int
 f1 : Int
 f2 : Int
 f3 : S62
def z64 : S64 := ⟨(0 : Int), (0 : Int), (0 : Int), z62⟩
def k64 : Kd S64 := Kd.iso (Kd.pair (Kd.int .i64) (Kd.pair (Kd.int .i64) (Kd.pair (Kd.int .i64) k62))) (fun x : S64 => (x.f0, x.f1, x.f2, x.f3))
theorem k64_open {w : World} {x : S64} {cs : List Value} (h : k64.K w x cs) : cs = [.int .i64 x.f0, .int .i64 x.f1, .int .i64 x.f2, .int .u64 x.f3.f0, .int .u64 x.f3.f1, .int .u64 x.f3.f2, .int .u64 x.f3.f3] := by
 obtain ⟨_, _, rfl, rfl, ⟨_, _, rfl, rfl, ⟨_, _, rfl, rfl, s3⟩⟩⟩ := h;obtain rfl := k62_open s3;exact rfl
theorem k64_mkM (w : World) (base : Nat) (ok : Nat → Prop) (x : S64)  : k64.M w base ok x [.int .i64 x.f0, .int .i64 x.f1, .int .i64 x.f2, .int .u64 x.f3.f0, .int .u64 x.f3.f1, .int .u64 x.f3.f2, .int .u64 x.f3.f3] := ⟨[.int .i64 x.f0], [.int .i64 x.f1, .int .i64 x.f2, .int .u64 x.f3.f0, .int .u64 x.f3.f1, .int .u64 x.f3.f2, .int .u64 x.f3.f3], rfl, rfl, ⟨[.int .i64 x.f1], [.int .i64 x.f2, .int .u64 x.f3.f0, .int .u64 x.f3.f1, .int .u64 x.f3.f2, .int .u64 x.f3.f3], rfl, rfl, ⟨[.int .i64 x.f2], [.int .u64 x.f3.f0, .int .u64 x.f3.f1, .int .u64 x.f3.f2, .int .u64 x.f3.f3], rfl, rfl, (k62_mkM w base ok x.f3 )⟩⟩⟩
def rd_T64 (xs : List S64) (i : Int) : S64 := xs.getD i.toNat z64
theorem at_T64 {w : World} {A : Option Addr} {n : Nat} {xs : List S64} (h : Kd.C k64 w A n xs) (i : Int) (h0 : 0 ≤ i) (h1 : i < n) : ∃ ad , A = some ad ∧ w.cell? (ad.add (i.toNat * 7)) = some (.int .i64 (rd_T64 xs i).f0) ∧ w.cell? ⟨(ad.add (i.toNat * 7)).block, (ad.add (i.toNat * 7)).off + 1, none⟩ = some (.int .i64 (rd_T64 xs i).f1) ∧ w.cell? ⟨(ad.add (i.toNat * 7)).block, (ad.add (i.toNat * 7)).off + 2, none⟩ = some (.int .i64 (rd_T64 xs i).f2) ∧ w.cell? ⟨(ad.add (i.toNat * 7)).block, (ad.add (i.toNat * 7)).off + 3, none⟩ = some (.int .u64 (rd_T64 xs i).f3.f0) ∧ w.cell? ⟨(ad.add (i.toNat * 7)).block, (ad.add (i.toNat * 7)).off + 4, none⟩ = some (.int .u64 (rd_T64 xs i).f3.f1) ∧ w.cell? ⟨(ad.add (i.toNat * 7)).block, (ad.add (i.toNat * 7)).off + 5, none⟩ = some (.int .u64 (rd_T64 xs i).f3.f2) ∧ w.cell? ⟨(ad.add (i.toNat * 7)).block, (ad.add (i.toNat * 7)).off + 6, none⟩ = some (.int .u64 (rd_T64 xs i).f3.f3) := by
 obtain ⟨ad, c, e, _, hK, hc0⟩ := Kd.C_get h z64 i h0 h1;have hc : ∀ j u, c[j]? = some u → w.cell? (ad.add (i.toNat * 7 + j)) = some u := hc0;obtain rfl := k64_open hK;exact ⟨ad, e, hc 0 _ rfl, by rw [← add_field _ _ 1 (by omega)]; exact hc 1 _ rfl, by rw [← add_field _ _ 2 (by omega)]; exact hc 2 _ rfl, by rw [← add_field _ _ 3 (by omega)]; exact hc 3 _ rfl, by rw [← add_field _ _ 4 (by omega)]; exact hc 4 _ rfl, by rw [← add_field _ _ 5 (by omega)]; exact hc 5 _ rfl, by rw [← add_field _ _ 6 (by omega)]; exact hc 6 _ rfl⟩
structure S24 where
 f0 : (List S64)
 f1 : Int
 f2 : Int
def rd_L10 (xs : List (List Bool)) (i : Int) : (List Bool) := xs.getD i.toNat ([] : List Bool)
theorem at_L10 {w : World} {A : Option Addr} {n : Nat} {xs : List (List Bool)} (h : Kd.C (Kd.slice 4 Kd.bool) w A n xs) (i : Int) (h0 : 0 ≤ i) (h1 : i < n) : ∃ ad A0 c0, A = some ad ∧ w.cell? (ad.add i.toNat) = some (.slice A0 (rd_L10 xs i).length c0) ∧ (rd_L10 xs i).length ≤ c0 ∧ Kd.bool.C w A0 (rd_L10 xs i).length (rd_L10 xs i) := by
 obtain ⟨ad, c, e, _, hK, hc0⟩ := Kd.C_get h ([] : List Bool) i h0 h1;have hc : ∀ j u, c[j]? = some u → w.cell? (ad.add (i.toNat * 1 + j)) = some u := hc0;obtain ⟨A0, c0, rfl, l0, g0⟩ := hK;exact ⟨ad, A0, c0, e, by have hq := hc 0 _ rfl; rwa [Nat.mul_one, Nat.add_zero] at hq, l0, g0⟩
structure S30 where
 f0 : (List Int)
 f1 : Int
 f2 : Int
 f3 : (List Int)
 f4 : (List Bool)
structure S71 where
 f0 : Int
 f1 : S62
 f2 : Int
 f3 : Int
def z71 : S71 := ⟨(0 : Int), z62, (0 : Int), (0 : Int)⟩
def k71 : Kd S71 := Kd.iso (Kd.pair (Kd.int .i64) (Kd.pair k62 (Kd.pair (Kd.int .i64) (Kd.int .i64)))) (fun x : S71 => (x.f0, x.f1, x.f2, x.f3))
theorem k71_open {w : World} {x : S71} {cs : List Value} (h : k71.K w x cs) : cs = [.int .i64 x.f0, .int .u64 x.f1.f0, .int .u64 x.f1.f1, .int .u64 x.f1.f2, .int .u64 x.f1.f3, .int .i64 x.f2, .int .i64 x.f3] := by
 obtain ⟨_, _, rfl, rfl, ⟨_, _, rfl, s1, ⟨_, _, rfl, rfl, rfl⟩⟩⟩ := h;obtain rfl := k62_open s1;exact rfl
theorem k71_mk (w : World) (x : S71)  : k71.K w x [.int .i64 x.f0, .int .u64 x.f1.f0, .int .u64 x.f1.f1, .int .u64 x.f1.f2, .int .u64 x.f1.f3, .int .i64 x.f2, .int .i64 x.f3] := ⟨[.int .i64 x.f0], [.int .u64 x.f1.f0, .int .u64 x.f1.f1, .int .u64 x.f1.f2, .int .u64 x.f1.f3, .int .i64 x.f2, .int .i64 x.f3], rfl, rfl, ⟨[.int .u64 x.f1.f0, .int .u64 x.f1.f1, .int .u64 x.f1.f2, .int .u64 x.f1.f3], [.int .i64 x.f2, .int .i64 x.f3], rfl, (k62_mk w x.f1 ), ⟨[.int .i64 x.f2], [.int .i64 x.f3], rfl, rfl, rfl⟩⟩⟩
def rd_T71 (xs : List S71) (i : Int) : S71 := xs.getD i.toNat z71
theorem at_T71 {w : World} {A : Option Addr} {n : Nat} {xs : List S71} (h : Kd.C k71 w A n xs) (i : Int) (h0 : 0 ≤ i) (h1 : i < n) : ∃ ad , A = some ad ∧ w.cell? (ad.add (i.toNat * 7)) = some (.int .i64 (rd_T71 xs i).f0) ∧ w.cell? ⟨(ad.add (i.toNat * 7)).block, (ad.add (i.toNat * 7)).off + 1, none⟩ = some (.int .u64 (rd_T71 xs i).f1.f0) ∧ w.cell? ⟨(ad.add (i.toNat * 7)).block, (ad.add (i.toNat * 7)).off + 2, none⟩ = some (.int .u64 (rd_T71 xs i).f1.f1) ∧ w.cell? ⟨(ad.add (i.toNat * 7)).block, (ad.add (i.toNat * 7)).off + 3, none⟩ = some (.int .u64 (rd_T71 xs i).f1.f2) ∧ w.cell? ⟨(ad.add (i.toNat * 7)).block, (ad.add (i.toNat * 7)).off + 4, none⟩ = some (.int .u64 (rd_T71 xs i).f1.f3) ∧ w.cell? ⟨(ad.add (i.toNat * 7)).block, (ad.add (i.toNat * 7)).off + 5, none⟩ = some (.int .i64 (rd_T71 xs i).f2) ∧ w.cell? ⟨(ad.add (i.toNat * 7)).block, (ad.add (i.toNat * 7)).off + 6, none⟩ = some (.int .i64 (rd_T71 xs i).f3) := by
 obtain ⟨ad, c, e, _, hK, hc0⟩ := Kd.C_get h z71 i h0 h1;have hc : ∀ j u, c[j]? = some u → w.cell? (ad.add (i.toNat * 7 + j)) = some u := hc0;obtain rfl := k71_open hK;exact ⟨ad, e, hc 0 _ rfl, by rw [← add_field _ _ 1 (by omega)]; exact hc 1 _ rfl, by rw [← add_field _ _ 2 (by omega)]; exact hc 2 _ rfl, by rw [← add_field _ _ 3 (by omega)]; exact hc 3 _ rfl, by rw [← add_field _ _ 4 (by omega)]; exact hc 4 _ rfl, by rw [← add_field _ _ 5 (by omega)]; exact hc 5 _ rfl, by rw [← add_field _ _ 6 (by omega)]; exact hc 6 _ rfl⟩
end Go.Proofs.YtfjemaeidmikmaaDoorQ
end
section
set_option linter.unusedVariables false
set_option linter.unusedSimpArgs false
set_option maxRecDepth 100000
namespace Go.Proofs.YtfjemaeidmikmaaDoor
open Go.RowKit Go.Maps
theorem pair_row : (100 : TypeId) < Tryd.prog.types.size := of_decide_eq_true (by kernel_rfl)
theorem pair_wide : (match Tryd.prog.underlying 100 with | some (.array _ _) | some (.struct _) => true | _ => false) = true := by rw [Tryd.underlying100]
theorem pair_law : WideMaps.KeyLaw Tryd.prog 100 := deep_law_laid laidOut (m := 2) (by omega) pair_row (by kernel_rfl) pair_wide
theorem pair_keyed : Keyed Tryd.prog 100 := Keyed.of_law pair_law
theorem zero_int (w : World) : (zeroValue 3).run Tryd.prog w = .ok (.int .i64 0) w := by kernel_rfl
theorem pair_cells : Tryd.prog.cellsOf 100 = 2 := by kernel_rfl
theorem int_cells : Tryd.prog.cellsOf 3 = 1 := by kernel_rfl
theorem pair_type : Tryd.prog.keyType 100 = true := by kernel_rfl
def okP (p : Int × Int) : Prop := (Lit.int .i64 p.1).wf = true ∧ (Lit.int .i64 p.2).wf = true
noncomputable def pv (p : Int × Int) : Value := .agg #[.int .i64 p.1, .int .i64 p.2]
noncomputable def pk (p : Int × Int) : Lit := (keyOf Tryd.prog 100 (pv p)).getD (.bool true)
theorem pair_formed (p : Int × Int) : (pv p).formed Tryd.prog 100 = true := by simp [pv, Value.formed, Tryd.underlying100, pair_cells]
theorem pair_key (p : Int × Int) (h : okP p) : keyOf Tryd.prog 100 (pv p) = some (pk p) := by
  obtain ⟨h1, h2⟩ := h
  have : ∃ l, keyOf Tryd.prog 100 (pv p) = some l := by
    obtain ⟨m, hm⟩ : ∃ m, Tryd.prog.types.size = m + 1 := ⟨Tryd.prog.types.size - 1, (Nat.sub_add_cancel (show 1 ≤ Tryd.prog.types.size from Nat.lt_of_le_of_lt (Nat.zero_le _) pair_row)).symm⟩;unfold keyOf;rw [pair_type, pair_formed, hm];simp [Tryd.underlying100, Tryd.underlying3, Program.keyLits, pair_cells, int_cells, pv, Value.cells, h1, h2]
  obtain ⟨l, hl⟩ := this;unfold pk;rw [hl];rfl
theorem pk_inj {p q : Int × Int} (hp : okP p) (hq : okP q) (h : pk p = pk q) : p = q := by
  have := pair_keyed.inj (pair_key p hp) (h ▸ pair_key q hq);simp only [pv, Value.agg.injEq, Array.mk.injEq, List.cons.injEq, Value.int.injEq, true_and, and_true] at this;exact Prod.ext this.1 this.2
theorem pk_lit {p : Int × Int} (hp : okP p) : WideAt.IsKeyLit (pk p) := pair_keyed.key (pair_key p hp)
structure MapIs (D : DataW Unit) (l : List (Int × Int)) : Prop where
  has : ∀ p, okP p → Maps.has D (pk p) = decide (p ∈ l)
  atKey : ∀ p, okP p → p ∈ l → D.atKey (pk p) (.lit (.int .i64 0)) = .lit (.int .i64 (Al.pos (Al.run l).1 p : Nat))
  size : Maps.size D = (Al.run l).1.length
theorem MapIs.nil : MapIs (.map []) [] := ⟨fun p _ => by simp [Maps.has], (fun p _ h => by cases h), rfl⟩
theorem run_old {l : List (Int × Int)} {p : Int × Int} (h : p ∈ l) : (Al.run (l ++ [p])).1 = (Al.run l).1 := by
  rw [Al.run_snoc];simp only [Al.step];rw [if_pos ((Al.run_mem l p).2 h)]
theorem run_new {l : List (Int × Int)} {p : Int × Int} (h : p ∉ l) : (Al.run (l ++ [p])).1 = (Al.run l).1 ++ [p] := by
  rw [Al.run_snoc];simp only [Al.step];rw [if_neg fun k => h ((Al.run_mem l p).1 k)]
theorem MapIs.old {D : DataW Unit} {l : List (Int × Int)} (h : MapIs D l) {p : Int × Int} (hp : p ∈ l) : MapIs D (l ++ [p]) := by
  refine ⟨fun q hq => ?_, fun q hq hm => ?_, ?_⟩
  · rw [h.has q hq];by_cases e : q ∈ l
    · simp [e]
    · (have : q ≠ p := fun k => e (k ▸ hp));simp [e, this]
  · rw [run_old hp];refine h.atKey q hq ?_;rcases List.mem_append.1 hm with k | k
    · exact k
    · rw [List.mem_singleton.1 k]; exact hp
  · rw [run_old hp]; exact h.size
theorem MapIs.new {D : DataW Unit} (hT : Tidy D) {l : List (Int × Int)} (h : MapIs D l) {p : Int × Int} (ok : okP p) (hp : p ∉ l) {c : Int} (hc : c = (Al.run l).1.length) : MapIs (D.put (pk p) (.lit (.int .i64 c))) (l ++ [p]) := by
  subst hc;refine ⟨fun q hq => ?_, fun q hq hm => ?_, ?_⟩
  · by_cases e : q = p
    · subst e;rw [Maps.has_put_same hT.isMap (pk_lit ok)];simp
    · rw [Maps.has_put_other (fun k => e (pk_inj hq ok k)), h.has q hq];simp [e]
  · rw [run_new hp];by_cases e : q = p
    · subst e;rw [Maps.atKey_put_same hT.isMap (pk_lit ok)];rw [Al.pos_new _ fun k => hp ((Al.run_mem l q).1 k)]
    · have hql : q ∈ l := by
        rcases List.mem_append.1 hm with k | k
        · exact k
        · exact absurd (List.mem_singleton.1 k) e
      rw [Maps.atKey_put_other (fun k => e (pk_inj hq ok k)), h.atKey q hq hql];rw [Al.pos_old _ _ ((Al.run_mem l q).2 hql)]
  · rw [run_new hp, Maps.size_put hT, h.has p ok, h.size];simp [hp]
end Go.Proofs.YtfjemaeidmikmaaDoor
end
section
namespace Go.Proofs.YtfjemaeidmikmaaDoor
open Go.Proofs.Bs
set_option linter.unusedVariables false
def roots (l : List Nd) (m k : Nat) : List Int := (kidsDown l m ((k : Int) - 1)).reverse
theorem kidsDown_add (l : List Nd) (a b : Nat) : ∀ k : Nat, k ≤ l.length → ∀ s : Nat, popG l a k = s → kidsDown l (a + b) ((k : Int) - 1) = kidsDown l a ((k : Int) - 1) ++ kidsDown l b ((s : Int) - 1) := by
  induction a with
  | zero =>
    intro k _ s hs;have : (k : Int) = s := hs;rw [Nat.zero_add, this];rfl
  | succ a ih =>
    intro k hk s hs;unfold popG at hs;rw [if_neg (show ¬ (k : Int) < 0 by omega)] at hs;by_cases h0 : (k : Int) = 0
    · rw [if_pos h0, popG_neg _ _ _ (by omega)] at hs; omega
    · rw [if_neg h0, show ((k : Int) - 1).toNat = k - 1 by omega] at hs;have hr := fst1_range l (k - 1)
      have h1 : 0 ≤ fst1 l (k - 1) := by
        by_cases h2 : fst1 l (k - 1) < 0
        · rw [popG_neg _ _ _ h2] at hs; omega
        · omega
      obtain ⟨f, hf⟩ := Int.eq_ofNat_of_zero_le h1;rw [hf] at hs;have := ih f (by omega) s hs
      have e : firstI l ((k : Int) - 1) = f := by
        rw [show (k : Int) - 1 = ((k - 1 : Nat) : Int) by omega, first_eq l _ (by omega), hf]
      rw [show a + 1 + b = (a + b) + 1 by omega]
      show _ :: kidsDown l (a + b) (firstI l ((k : Int) - 1) - 1) = (_ :: kidsDown l a (firstI l ((k : Int) - 1) - 1)) ++ _
      rw [e, this];rfl
end Go.Proofs.YtfjemaeidmikmaaDoor
end
section
namespace Go.Proofs.YtfjemaeidmikmaaDoorQ
open Go.RowKit Go.Proofs.YtfjemaeidmikmaaDoorW.PrintWords Go.Proofs.YtfjemaeidmikmaaDoorW.PrintLast
abbrev St := S64
def wput (p : List Bool × List Int) (s : Int) : List Bool × List Int :=
  if 0 ≤ s ∧ s < p.1.length ∧ rdOf false p.1 s = false then (p.1.set s.toNat true, p.2 ++ [s]) else p
def goesA (st : St) (sym : Int) : Bool := decide (st.f0 = 3 ∨ st.f0 = 2 ∨ st.f0 = 4 ∧ (sym = 256 ∨ sym = 258) ∨ st.f0 = 5 ∧ (sym = 257 ∨ sym = 258))
def wvisit (st : St) (sym : Int) (q : List Bool × List Int) : List Bool × List Int :=
  if st.f0 = 3 then wput (wput q st.f2) st.f1 else if goesA st sym = true then wput q st.f1 else q
def wstep (sts : List St) (sym : Int) (p : List Bool × List Int) : List Bool × List Int := wvisit (rd_T64 sts (p.2.getLastD 0)) sym (p.1, p.2.dropLast)
def wrun (sts : List St) (sym : Int) : Nat → List Bool × List Int → List Bool × List Int
  | 0, p => p
  | k + 1, p => if p.2 = [] then p else wrun sts sym k (wstep sts sym p)
def few (l : List Bool) : Nat := (l.filter fun b => !b).length
def wmeas (p : List Bool × List Int) : Nat := 3 * few p.1 + p.2.length
theorem few_set (l : List Bool) (i : Nat) (h : i < l.length) (hf : l[i] = false) : few (l.set i true) + 1 = few l := by
  induction l generalizing i with
  | nil => simp at h
  | cons b l ih =>
    cases i with
    | zero => simp at hf; subst hf; simp [few]
    | succ i =>
      have := ih i (by simpa using h) (by simpa using hf);cases b <;> simp [few] at this ⊢ <;> omega
theorem wput_len (p : List Bool × List Int) (s : Int) : (wput p s).1.length = p.1.length := by unfold wput; split <;> simp
theorem wput_meas (p : List Bool × List Int) (s : Int) : wmeas (wput p s) ≤ wmeas p := by
  unfold wput;split
  · rename_i h
    have := few_set p.1 s.toNat (by omega) (by
      have h3 := h.2.2;unfold rdOf at h3;rw [List.getD_eq_getElem?_getD, List.getElem?_eq_getElem (by omega)] at h3
      simpa using h3)
    simp only [wmeas, List.length_append, List.length_singleton];omega
  · omega
theorem wvisit_meas (st : St) (sym : Int) (q : List Bool × List Int) : wmeas (wvisit st sym q) ≤ wmeas q := by
  unfold wvisit;split
  · have := wput_meas q st.f2;have := wput_meas (wput q st.f2) st.f1;omega
  · split
    · exact wput_meas _ _
    · omega
theorem wstep_meas (sts : List St) (sym : Int) (p : List Bool × List Int) (h : p.2 ≠ []) : wmeas (wstep sts sym p) + 1 ≤ wmeas p := by
  have := wvisit_meas (rd_T64 sts (p.2.getLastD 0)) sym (p.1, p.2.dropLast)
  have h1 : p.2.dropLast.length + 1 = p.2.length := by
    have := List.length_pos_iff.2 h;simp;omega
  unfold wstep;simp only [wmeas] at this ⊢;omega
theorem wvisit_len (st : St) (sym : Int) (q : List Bool × List Int) : (wvisit st sym q).1.length = q.1.length := by
  unfold wvisit;split
  · rw [wput_len, wput_len]
  · split
    · rw [wput_len]
    · rfl
theorem wrun_enough (sts : List St) (sym : Int) : ∀ (k : Nat) (p : List Bool × List Int), wmeas p ≤ k → wrun sts sym k p = wrun sts sym (wmeas p) p := by
  intro k
  induction k using Nat.strongRecOn with
  | ind k ih =>
    intro p hk;by_cases h : p.2 = []
    · cases k with
      | zero => rw [show wmeas p = 0 by omega]
      | succ k =>
        cases hm : wmeas p with
        | zero => simp [wrun, h]
        | succ m => simp [wrun, h]
    · have hm := wstep_meas sts sym p h;obtain ⟨m, em⟩ : ∃ m, wmeas p = m + 1 := ⟨wmeas p - 1, by omega⟩;obtain ⟨k, rfl⟩ : ∃ j, k = j + 1 := ⟨k - 1, by omega⟩;rw [em];simp only [wrun, if_neg h];rw [ih k (by omega) _ (by omega), ih m (by omega) _ (by omega)]
def wfrom (n : Nat) (from_ : List Int) : List Bool × List Int := from_.foldl wput (List.replicate n false, [])
def walkF (sts : List St) (from_ : List Int) (sym : Int) : List Bool := (wrun sts sym (wmeas (wfrom sts.length from_)) (wfrom sts.length from_)).1
def onOk (n : Nat) (p : List Bool × List Int) : Prop := p.1.length = n ∧ p.2.length ≤ n ∧ (∀ s ∈ p.2, 0 ≤ s ∧ s < n) ∧ p.2.length + few p.1 ≤ n
theorem onOk_put {n : Nat} {p : List Bool × List Int} (h : onOk n p) (s : Int) : onOk n (wput p s) := by
  obtain ⟨h1, h2, h3, h4⟩ := h;unfold wput;split
  · rename_i h
    have hs := few_set p.1 s.toNat (by omega) (by
      have h3 := h.2.2;unfold rdOf at h3;rw [List.getD_eq_getElem?_getD, List.getElem?_eq_getElem (by omega)] at h3
      simpa using h3)
    refine ⟨by simpa using h1, ?_, ?_, ?_⟩
    · simp; omega
    · intro x hx;simp only [List.mem_append, List.mem_singleton] at hx;rcases hx with hx | rfl
      · exact h3 x hx
      · omega
    · simp; omega
  · exact ⟨h1, h2, h3, h4⟩
theorem onOk_pop {n : Nat} {p : List Bool × List Int} (h : onOk n p) : onOk n (p.1, p.2.dropLast) := by
  obtain ⟨h1, h2, h3, h4⟩ := h;(have : p.2.dropLast.length ≤ p.2.length := by simp);exact ⟨h1, by show p.2.dropLast.length ≤ n; omega, fun s hs => h3 s ((List.dropLast_sublist _).subset hs), by show p.2.dropLast.length + few p.1 ≤ n; omega⟩
theorem onOk_new (n : Nat) : onOk n (List.replicate n false, []) := by
  refine ⟨by simp, by simp, by simp, ?_⟩;have : few (List.replicate n false) ≤ (List.replicate n false).length := List.length_filter_le _ _;simpa using this
theorem onOk_fold {n : Nat} (l : List Int) {p : List Bool × List Int} (h : onOk n p) : onOk n (l.foldl wput p) := by
  induction l generalizing p with
  | nil => exact h
  | cons s l ih => exact ih (onOk_put h s)
theorem onOk_from (n : Nat) (l : List Int) : onOk n (wfrom n l) := onOk_fold l (onOk_new n)
end Go.Proofs.YtfjemaeidmikmaaDoorQ
end
section
namespace Go.Proofs.YtfjemaeidmikmaaDoorQ
open Go.RowKit
def deTab : List Int := [0, 1, 56, 2, 57, 49, 28, 3, 61, 58, 42, 50, 38, 29, 17, 4, 62, 47, 59, 36, 45, 43, 51, 22, 53, 39, 33, 30, 24, 18, 12, 5, 63, 55, 48, 27, 60, 41, 37, 16, 46, 35, 44, 21, 52, 32, 23, 11, 54, 26, 40, 15, 34, 20, 31, 10, 25, 14, 19, 9, 13, 8, 7, 6]
def TabG (w : World) : Prop := ∀ i, i < 64 → w.cell? ⟨0, i, none⟩ = some (.int .u8 (deTab.getD i 0))
theorem TabG.tab {w : World} (h : TabG w) : ∀ i, i < 64 → w.cell? ⟨0, i, none⟩ = some (.int .u8 (deTab.getD i 0)) := h
theorem TabG.below {w w' : World} (h : TabG w) (hb : Below w.heap.size w w') : TabG w' := fun i hi =>
  (hb.cell (World.block_lt_of_cell? w _ (h i hi))).trans (h i hi)
theorem gTab : Tryd.prog.globalNamed "math/bits.deBruijn64tab" = some 0 := by kernel_rfl
theorem TabG.of_tab {w : World} (h : Lib.TabIs Tryd.prog w "math/bits.deBruijn64tab" .u8 deTab) : TabG w := fun i hi => h.cell gTab i (by simpa [deTab] using hi)
end Go.Proofs.YtfjemaeidmikmaaDoorQ
end
section
namespace Go.Proofs.YtfjemaeidmikmaaDoorQ
open Go.RowKit Go.Proofs.Bs
def wfI (a b c d : Int) : Prop := (0 ≤ a ∧ a < 18446744073709551616) ∧ (0 ≤ b ∧ b < 18446744073709551616) ∧ (0 ≤ c ∧ c < 18446744073709551616) ∧ 0 ≤ d ∧ d < 18446744073709551616
instance (a b c d : Int) : Decidable (wfI a b c d) := by unfold wfI; infer_instance
def setI (a b c d : Int) : S := ⟨a.toNat, b.toNat, c.toNat, d.toNat⟩
theorem setI_wf {a b c d : Int} (h : wfI a b c d) : (setI a b c d).wf := by
  obtain ⟨⟨a0, a1⟩, ⟨b0, b1⟩, ⟨c0, c1⟩, d0, d1⟩ := h;refine ⟨?_, ?_, ?_, ?_⟩ <;> (simp only [setI, W]; omega)
theorem setI_cast {a b c d : Int} (h : wfI a b c d) : ((setI a b c d).a : Int) = a ∧ ((setI a b c d).b : Int) = b ∧ ((setI a b c d).c : Int) = c ∧ ((setI a b c d).d : Int) = d := by
  obtain ⟨⟨a0, a1⟩, ⟨b0, b1⟩, ⟨c0, c1⟩, d0, d1⟩ := h;refine ⟨?_, ?_, ?_, ?_⟩ <;> (simp only [setI]; omega)
theorem wfI_of (s : S) (h : s.wf) : wfI s.a s.b s.c s.d := by
  have ha := h.a; have hb := h.b; have hc := h.c; have hd := h.d;unfold W at *;unfold wfI;omega
theorem setI_of (s : S) : setI s.a s.b s.c s.d = s := by simp [setI]
end Go.Proofs.YtfjemaeidmikmaaDoorQ
end
section
set_option linter.unusedVariables false
set_option linter.unusedSimpArgs false
namespace Go.Proofs.YtfjemaeidmikmaaDoor
open Go.RowKit
def keyOne (s : Int) : List Int := [s / 256, s % 256]
def keyL (l : List Int) : List Int := l.flatMap keyOne
def u8s (l : List Int) : List Value := l.map (Value.int .u8)
theorem keyL_len (l : List Int) : (keyL l).length = 2 * l.length := by
  induction l with
  | nil => rfl
  | cons s l ih => show (keyOne s ++ keyL l).length = _; rw [List.length_append, ih]; simp [keyOne]; omega
theorem info_u8k : (Tryd.prog.info? 5).map (fun i => (i.zero, i.size, i.bytes)) = some (some (.int .u8 0), 1, 1) := by kernel_rfl
theorem take_snoc' {l : List Int} {k : Nat} {x : Int} (h : l[k]? = some x) : l.take (k + 1) = l.take k ++ [x] := by
  rw [List.take_add_one, h];rfl
theorem cells_u8 (w : World) (base : Nat) (g : Nat) (cap : Nat) (xs : List Int) (n : Nat) (hn : xs.length = n) (HO : w.ownsRow base 5 1 (.slice (some ⟨g, 0, none⟩) n cap) n (u8s xs)) :
    ∀ i, i < n → w.cell? ⟨g, 0 + i, none⟩ = some (.int .u8 (xs.getD i 0)) := by
  intro i hi;have := HO.cellAt i (by omega);rw [Nat.zero_add, this];simp [u8s, List.getD_eq_getElem?_getD, List.getElem?_eq_getElem (show i < xs.length by omega)]
set_option maxRecDepth 100000 in
theorem conv_u8 (w : World) (base : Nat) (A : Option Addr) (c : Nat) (xs : List Int) (n : Nat) (hn : xs.length = n) (HO : w.ownsRow base 5 1 (.slice A n c) n (u8s xs)) :
    (convert 83 9 (.slice A n c)).run Tryd.prog w = .ok (.string (strOfNums xs)) w := by
  rcases HO.2 with ⟨h1, h2⟩ | ⟨g, cap, cur, h1, _⟩
  · injection h1 with h1 h3 h4;subst h1;obtain rfl : xs = [] := List.eq_nil_of_length_eq_zero (by omega);rw [run_convert_bytes_nil w 83 5 Tryd.underlying83 Tryd.underlying5 _ _ _ Tryd.underlying9];rfl
  · injection h1 with h1 h3 h4;subst h1;exact run_convert_bytes_arg w 83 5 Tryd.underlying83 Tryd.underlying5 g 0 n c xs hn (cells_u8 w base g c xs n hn HO) _ Tryd.underlying9
set_option maxRecDepth 100000 in
set_option maxHeartbeats 3200000 in
theorem key_any (A : Option Addr) (n c : Nat) (l : List Int) (w : World) (h : Reads w 1 A n (ints l)) (hn : n ≤ 1000000) (hok : ∀ x ∈ l, 0 ≤ x ∧ x < 65536) :
    Calls Tryd.prog 61 #[.slice A n c] w fun e w' => e = .returned (.string (strOfNums (keyL l))) ∧ Below w.heap.size w w' := by
  (have hl : l.length = n := by have := h.1; rw [ints_length] at this; omega);have HL := Lib.hid hl;have HOK := Lib.hid hok;clear hl hok;obtain ⟨i0, hi, hz0, hz1, hz2⟩ := info_parts info_u8k;go_enter Tryd.func61, Tryd.ntmps61;go_wp2_with (at_make; refine wpList_make_own _ rfl _ _ 83 rfl w.heap.size 5 i0 (.int .u8 0) 1 Tryd.underlying83 hi hz0 hz1 _ _ _ (2 * n) rfl rfl (by omega) (by rw [hz2]; omega) (by unfold maxLen; omega) (Nat.le_refl _) ?_; intro w2 HO2 hg2);have hb2 : Below w.heap.size w w2 := (Below.refl _ _).grown hg2 (Nat.le_refl _) (fun j hj => by cases hj);clear hg2;go_loopw [3, 5, 12] (fun b_ _ k_ wr => ∃ (k : Nat) (B1 : Option Addr) (c1 : Nat), k_ = .int .i64 k ∧ k ≤ n ∧ b_ = .slice B1 (2 * k) c1 ∧ wr.ownsRow w.heap.size 5 1 (.slice B1 (2 * k) c1) (2 * k) (u8s (keyL (l.take k))) ∧ Below w.heap.size w wr) (fun _ _ k_ _ => n - (intOf k_).toNat)
  case atStart => exact ⟨0, _, _, rfl, by omega, rfl, HO2, hb2⟩
  case round =>
    clear HO2 hb2;obtain ⟨k, B1, c1, rfl, hk, rfl, HO, hb⟩ := hrel;by_cases hlt : k < n
    · obtain ⟨ad, x, rfl, hx, cx⟩ := (h.below hb).int hlt;obtain ⟨x0, x1⟩ := HOK.out x (List.mem_of_getElem? hx);have htk := take_snoc' hx;have HT := Lib.hid htk;(have hkn : (k : Int) < n := by omega);clear hx htk;go_wp2_with (at_builtin; refine app_lit rfl (.tmp 16) (.tmp 22) 83 rfl w.heap.size 5 Tryd.underlying83 info_u8k rfl (by omega) (by omega) _ (2 * k) (u8s (keyL (l.take k))) rfl HO [.int .u8 (x / 256), .int .u8 (x % 256)] 2 2 rfl rfl rfl (by omega) hb (Nat.le_refl _) hb.size ?_; intro A3 c3 w3 HO3 hg3 hb3);go_roundw
      case rel =>
        refine ⟨k + 1, A3, c3, by go_num, by omega, rfl, ?_, hb3⟩;rw [HT.out];simpa [u8s, keyL, keyOne, Nat.mul_add] using HO3
      case measure => simp [intOf] <;> omega
    · (obtain rfl : k = n := by omega);have e : l.take k = l := List.take_of_length_le (by rw [HL.out]; omega);rw [e] at HO;have kc := conv_u8 wr w.heap.size B1 c1 (keyL l) (2 * k) (by rw [keyL_len, HL.out]) HO;clear HO e;go_wp2_with fail;go_ret;exact ⟨rfl, hb⟩
end Go.Proofs.YtfjemaeidmikmaaDoor
end
section
set_option linter.unusedVariables false
set_option linter.unusedSimpArgs false
namespace Go.Proofs.YtfjemaeidmikmaaDoor
open Go.RowKit Go.Proofs.Bs
attribute [local go_sem] eqSet
set_option maxHeartbeats 400000 in
theorem args_any (k : Int) (w : World) : Calls Tryd.prog 49 #[.int .i64 k] w fun e w' => e = .returned (.int .i64 (arity k)) ∧ w = w' := by
  go_enter Tryd.func49, Tryd.ntmps49;go_wp2;(all_goals (go_ret; exact ⟨by simp_all [arity], rfl⟩))
set_option maxHeartbeats 400000 in
theorem fields_any (n : Nd) (w : World) : Calls Tryd.prog 65 #[.agg #[.int .i64 n.kind, .int .u64 n.set.a, .int .u64 n.set.b, .int .u64 n.set.c, .int .u64 n.set.d, .int .i64 n.lo, .int .i64 n.hi]] w fun e w' => e = .returned (.bool (fieldsB n)) ∧ Below w.heap.size w w' := by
  go_enter Tryd.func65, Tryd.ntmps65;go_wp2;(all_goals (go_ret; refine ⟨ret_bool ?_, (Below.refl _ _).alloc (Nat.le_refl _) _⟩));(all_goals (unfold fieldsB; grind))
set_option maxHeartbeats 800000 in
theorem right_any (A : Option Addr) (n c : Nat) (l : List Nd) (w : World) (h : Reads w 7 A n (l.flatMap Nd.cells)) (hn : n ≤ 140737488351232) :
    Calls Tryd.prog 48 #[.slice A n c] w fun e w' => e = .returned (.bool (rightB l)) ∧ Below w.heap.size w w' := by
  have hl := h.length Nd.cells Nd.cells_length (by omega);by_cases h5 : 512 < n
  · go_enter Tryd.func48, Tryd.ntmps48;go_wp2;go_ret;exact ⟨ret_bool (by unfold rightB; rw [if_pos (by omega)]), Below.refl _ _⟩
  · have HL := Lib.hid hl;clear hl;go_enter Tryd.func48, Tryd.ntmps48;go_wp2;go_loopw [2, 3, 12] (fun r o i wr => ∃ (k : Nat) (m : Int), k ≤ n ∧ r = .bool false ∧ i = .int .i64 k ∧ o = .int .i64 m ∧ 0 ≤ m ∧ m ≤ k ∧ rightFrom (l.drop k) m = rightFrom l 0 ∧ Below w.heap.size w wr) (fun _ _ i _ => n - (intOf i).toNat)
    case atStart => exact ⟨0, 0, Nat.zero_le _, rfl, rfl, rfl, by omega, by omega, rfl, Below.refl _ _⟩
    case round =>
      obtain ⟨k, m, hk, rfl, rfl, rfl, hm0, hmk, hr, hb⟩ := hrel;have HR := Lib.hid hr;clear hr;by_cases hlt : k < n
      · obtain ⟨ad, x, rfl, hx, c0, c1, c2, c3, c4, c5, c6⟩ := (h.below hb).nd hlt;have HX := Lib.hid hx;clear hx;have a1 := arity_lo x.kind;have a2 := arity_hi x.kind
        go_wp2_with (first
          | (go_at_call 49; refine (args_any _ _).mono ?_; rintro e w1 ⟨rfl, rfl⟩)
          | (go_at_call 65; refine (fields_any x _).mono ?_; rintro e w1 ⟨rfl, hb1⟩))
        · go_ret;refine ⟨ret_bool ?_, bel_then (bel_alloc hb _) hb1⟩;have hr := HR.out;rw [right_step HX.out, if_pos (by grind)] at hr;unfold rightB;rw [← hr, ite_self]
        · go_roundw
          case rel =>
            refine ⟨k + 1, m + (1 - arity x.kind), by omega, rfl, by go_num, rfl, by omega, by omega, ?_, bel_then (bel_alloc hb _) hb1⟩;have hr := HR.out;rw [right_step HX.out, if_neg (by grind)] at hr;exact hr
          case measure => simp [intOf]; omega
        all_goals
          go_ret
          refine ⟨ret_bool ?_, bel_alloc hb _⟩
          have hr := HR.out
          rw [right_step HX.out, if_pos (by grind)] at hr
          unfold rightB
          rw [← hr, ite_self]
      · go_wp2_with fail;go_ret;refine ⟨ret_bool ?_, hb⟩;(have : k = n := by omega);subst this;have hr := HR.out;rw [List.drop_eq_nil_of_le (by rw [HL.out]; omega)] at hr;unfold rightB;rw [if_neg (by rw [HL.out]; omega), ← hr];rfl
end Go.Proofs.YtfjemaeidmikmaaDoor
end
section
set_option linter.unusedVariables false
set_option linter.unusedSimpArgs false
namespace Go.Proofs.YtfjemaeidmikmaaDoor
open Go.RowKit Go.Maps
theorem ajoin_ne (A B : Option Addr) (n m c d : Nat) (w : World) (hn : n ≤ 1000000) (hm : m ≤ 1000000) (hne : n ≠ m) :
    Calls Tryd.prog 38 #[.slice A n c, .slice B m d] w fun e w' => e = .returned (.tuple #[.slice none 0 0, .int .i64 0]) ∧ Below w.heap.size w w' := by
  rcases (show n < m ∨ m < n by omega) with hc | hc
  all_goals
    clear hne
    go_enter Tryd.func38, Tryd.ntmps38
    go_wp2_with fail
    go_ret2
    exact ⟨rfl, Below.refl _ _⟩
theorem made_ints (n : Nat) : (madeCells (Value.int .i64 0).cells (n * 1)).toList = ints (casts (List.replicate n 0)) := by
  rw [Nat.mul_one]
  show (madeCells #[Value.int .i64 0] n).toList = _
  rw [toList_madeCells_one];simp [ints, casts]
set_option maxRecDepth 100000 in
set_option maxHeartbeats 3200000 in
theorem ajoin_any (A B : Option Addr) (n c d : Nat) (l : List (Int × Int)) (w : World) (h : Reads w 1 A n (ints (l.map Prod.fst))) (h' : Reads w 1 B n (ints (l.map Prod.snd))) (hn : n ≤ 1000000) (hok : ∀ p ∈ l, okP p) :
    Calls Tryd.prog 38 #[.slice A n c, .slice B n d] w fun e w' => ∃ A1 c1, e = .returned (.tuple #[.slice A1 n c1, .int .i64 ((Al.run l).1.length : Nat)]) ∧ w'.ownsRow w.heap.size 3 1 (.slice A1 n c1) n (ints (casts (Al.run l).2)) ∧ Below w.heap.size w w' := by
  (have hl : l.length = n := by have := h.1; rw [ints_length, List.length_map] at this; omega);have HL := Lib.hid hl;have HOK := Lib.hid hok;clear hl hok;have hmm := @run_makeMap Tryd.prog;obtain ⟨i0, hi, hz0, hz1, hz2⟩ := info_parts info_int;go_enter Tryd.func38, Tryd.ntmps38;go_wp2_with (at_make; refine wpList_make_full _ rfl _ _ 27 rfl (w.heap.size + 1) 3 i0 (.int .i64 0) 1 Tryd.underlying27 hi hz0 hz1 _ _ _ _ n rfl rfl rfl rfl (by rw [hz2]; omega) (by unfold maxLen; omega) (by simp) ?_; intro w2 HO2 hg2);rw [made_ints] at HO2;have hb2 : Below w.heap.size w w2 := (bel_alloc (Below.refl _ _) _).grown hg2 (by simp) (fun j hj => by cases hj);have hm2 := (World.ownsMap_made (H := Unit) w Tryd.prog 100 (plainElem Tryd.prog 3)).kept hg2 (by simp);rw [show (w.alloc (.map #[] 0)).heap.size = w.heap.size + 1 by simp] at HO2;clear hg2 hmm
  go_loopw [8, 9, 10, 11, 23] (fun _ _ _ _ k_ wr => ∃ (k : Nat) (D : DataW Unit), k_ = .int .i64 k ∧ k ≤ n ∧ wr.ownsMap Tryd.prog 100 (plainElem Tryd.prog 3) w.heap.size k D ∧ MapIs D (l.take k) ∧
    wr.ownsRow (w.heap.size + 1) 3 1 (.slice (some ⟨w.heap.size + 1, 0, none⟩) n n) n (ints (casts ((Al.run (l.take k)).2 ++ List.replicate (n - k) 0))) ∧ Below w.heap.size w wr) (fun _ _ _ _ k_ _ => n - (intOf k_).toNat)
  case atStart => exact ⟨0, _, rfl, by omega, hm2, MapIs.nil, HO2, hb2⟩
  case round =>
    clear HO2 hb2 hm2;obtain ⟨k, D, rfl, hk, hown, hmi, HO, hb⟩ := hrel;have HMI := Lib.hid hmi;clear hmi;by_cases hlt : k < n
    · obtain ⟨ad, x0, rfl, hx, cx⟩ := (h.below hb).int hlt;obtain ⟨bd, y0, rfl, hy, cy⟩ := (h'.below hb).int hlt;obtain ⟨p, hp, rfl⟩ := map_at hx;obtain ⟨p', hp', rfl⟩ := map_at hy;obtain rfl : p = p' := Option.some.inj (hp.symm.trans hp');have HP := Lib.hid hp;have hkey := pair_key p (HOK.out p (List.mem_of_getElem? hp));have HK := Lib.hid hkey;(have hkn : (k : Int) < n := by omega);clear hx hy hp hp' hkey;have cx2 := cell_alloc cx (.cells #[.int .i64 0, .int .i64 0] 100);have cy2 := cell_alloc cy (.cells #[.int .i64 0, .int .i64 0] 100);go_upto_region 8 with fail;go_region;(have b0 : ((wr.alloc (.cells #[.int .i64 p.1, .int .i64 p.2] 100)).drew).cell? ⟨wr.heap.size, 0, none⟩ = some (.int .i64 p.1) := by go_simp);(have b1 : ((wr.alloc (.cells #[.int .i64 p.1, .int .i64 p.2] 100)).drew).cell? ⟨wr.heap.size, 1, none⟩ = some (.int .i64 p.2) := by go_simp);have hown3 := (hown.alloc (.cells #[.int .i64 p.1, .int .i64 p.2] 100)).drew;have HO3 := (own_below HO (bel_alloc (Below.refl _ _) (.cells #[.int .i64 p.1, .int .i64 p.2] 100))).drew;have hb3 := bel_drew (bel_alloc hb (.cells #[.int .i64 p.1, .int .i64 p.2] 100));clear hown HO hb cx cy cx2 cy2;generalize ((wr.alloc (.cells #[.int .i64 p.1, .int .i64 p.2] 100)).drew) = w3 at *;(have hlen : ((Al.run (l.take k)).2).length = k := by rw [Al.run_len, List.length_take, HL.out]; omega)
      have hfew : ((Al.run (l.take k)).1).length ≤ k := by
        have := Al.run_few (l.take k);rw [List.length_take, HL.out] at this;omega
      have htk := Al.take_snoc HP.out;obtain ⟨m, hm⟩ : ∃ m, n = k + 1 + m := ⟨n - (k + 1), by omega⟩;(have e1 : n - k = m + 1 := by omega);(have e2 : n - (k + 1) = m := by omega);rw [e1] at HO3;obtain ⟨v0, hv0⟩ : ∃ v0, (ints (casts ((Al.run (l.take k)).2 ++ List.replicate (m + 1) 0)))[k]? = some v0 := ⟨_, List.getElem?_eq_getElem (by simp [ints, casts, hlen])⟩;have cv := (HO3.cellAt k (by omega)).trans hv0;have fz := HO3.frozenAt k;have hrow := Al.row_step ((Al.run (l.take k)).2) m (Al.pos (Al.run (l.take k)).1 p);rw [hlen, ← Al.run_snd, ← htk] at hrow;have HROW := Lib.hid hrow;have HTK := Lib.hid htk;have HE2 := Lib.hid e2;have HV0 := Lib.hid hv0;have hpk : keyOf Tryd.prog 100 (.agg #[.int .i64 p.1, .int .i64 p.2]) = some (pk p) := HK.out;have HPK := Lib.hid hpk
      have hfin : ∀ c0 : Nat, c0 = Al.pos (Al.run (l.take k)).1 p → (ints (casts ((Al.run (l.take k)).2 ++ List.replicate (m + 1) 0))).set k (.int .i64 (c0 : Int)) = ints (casts ((Al.run (l.take (k + 1))).2 ++ List.replicate m 0)) := by
        intro c0 hc0;rw [ints_set, ← HROW.out, hc0];simp [casts, List.map_set]
      have HFIN := Lib.hid hfin;clear hrow htk e1 e2 hv0 hpk hfin hlen hm;by_cases hin : p ∈ l.take k
      · have hhas := (HMI.out.has p (HOK.out p (List.mem_of_getElem? HP.out))).trans (decide_eq_true hin);have hat0 := HMI.out.atKey p (HOK.out p (List.mem_of_getElem? HP.out)) hin;have HAT := Lib.hid hat0;have HIN := Lib.hid hin;clear hat0 hin;go_wp2_with (at_lookup; refine wpList_lookup_own_ok_int _ rfl _ _ 98 rfl 100 3 .i64 pair_keyed Tryd.underlying98 Tryd.underlying3 (zero_int _) w.heap.size k D rfl hown3 _ _ rfl HPK.out ?_; intro c0 hat hwc);go_roundw
        case rel =>
          have hc0 : c0 = ((Al.pos (Al.run (l.take k)).1 p : Nat) : Int) := by
            rw [HAT.out] at hat;injection hat with hat;injection hat with _ hat;exact hat.symm
          subst hc0;refine ⟨k + 1, D, by go_num, by omega, (hown3.mono (Nat.le_succ _)).kept (HO3.stored k _).2 (by simp), ?_, ?_, ?_⟩
          · rw [HTK.out]; exact HMI.out.old HIN.out
          · rw [HE2.out, ← HFIN.out _ rfl];exact (HO3.stored k _).1
          · exact bel_grown hb3 HO3 (by omega) (HO3.stored k _).2
        case measure => simp [intOf] <;> omega
      · have hhas := (HMI.out.has p (HOK.out p (List.mem_of_getElem? HP.out))).trans (decide_eq_false hin);have HIN := Lib.hid hin;have hsz := HMI.out.size;have hT := hown3.tidy pair_keyed;have HT := Lib.hid hT;clear hin hT
        go_wp2_with (first
          | (at_lookup; refine wpList_lookup_own_ok_int _ rfl _ _ 98 rfl 100 3 .i64 pair_keyed Tryd.underlying98 Tryd.underlying3 (zero_int _) w.heap.size k D rfl hown3 _ _ rfl HPK.out ?_; intro c0 hat hwc)
          | (at_len; refine wpList_len_own _ rfl _ 98 rfl 100 3 Tryd.underlying98 (plainElem Tryd.prog 3) w.heap.size k D rfl hown3 ?_)
          | (at_mapUpdate; refine wpList_mapUpdate_own _ rfl _ _ _ 98 rfl 100 3 pair_keyed Tryd.underlying98 (plainElem Tryd.prog 3) w.heap.size k D rfl hown3 (by unfold maxLen; omega) _ _ _ rfl rfl HPK.out _ [] (plainElem_int Tryd.underlying3 (WalkArith.wf_i64 (by omega))) ?_; intro w4 hown4 hgrow4; have HO4 := HO3.kept hgrow4 (by simp [Value.ownBlock]); have cv4 := (HO4.cellAt k (by omega)).trans HV0.out; have fz4 := HO4.frozenAt k))
        go_roundw
        case rel =>
          refine ⟨k + 1, _, by go_num, by omega, hown4.kept (HO4.stored k _).2 (by simp), ?_, ?_, ?_⟩
          · rw [HTK.out];exact HMI.out.new HT.out (HOK.out p (List.mem_of_getElem? HP.out)) HIN.out rfl
          · rw [HE2.out, ← HFIN.out (Al.run (l.take k)).1.length (Al.pos_end (fun q => HIN.out ((Al.run_mem _ _).1 q))).symm];exact (HO4.stored k _).1
          · exact bel_grown (hb3.grown hgrow4 (by have := hb3.size; omega) (fun j hj => by cases hj; exact Nat.le_refl _)) HO4 (by omega) (HO4.stored k _).2
        case measure => simp [intOf] <;> omega
    · (obtain rfl : k = n := by omega);have hsz := HMI.out.size;have e : l.take k = l := List.take_of_length_le (by rw [HL.out]; omega);rw [e] at hsz HO;rw [Nat.sub_self, List.replicate_zero, List.append_nil] at HO;have HE := Lib.hid e;clear e;go_wp2_with (at_len; refine wpList_len_own _ rfl _ 98 rfl 100 3 Tryd.underlying98 (plainElem Tryd.prog 3) w.heap.size k D rfl hown ?_);go_ret2;exact ⟨_, _, by first | rfl | (rw [hsz]; rfl), own_mono HO (by omega), hb⟩
end Go.Proofs.YtfjemaeidmikmaaDoor
end
section
namespace Go.Proofs.YtfjemaeidmikmaaDoor
open Go.Proofs.Bs
set_option linter.unusedVariables false
section
variable {β : Type} (f : Nd → List β → β)
def aStep (s : List β) (x : Nd) : List β := s.take (s.length - (arity x.kind).toNat) ++ [f x (s.drop (s.length - (arity x.kind).toNat))]
def aStack (l : List Nd) : Nat → List β
  | 0 => []
  | k + 1 => aStep f (aStack l k) (l.getD k zNd)
theorem aStack_length (l : List Nd) (k : Nat) : (aStack f l k).length = (stackP l k).length := by
  induction k with
  | zero => rfl
  | succ k ih =>
    rw [aStack, stackP, aStep, stackStep, List.length_append, List.length_append, List.length_take, List.length_take, ih];rfl
end
section
variable {β : Type} [Inhabited β] (f : Nd → List β → β)
def attr (l : List Nd) (i : Nat) : β :=
  f (l.getD i zNd) ((kidsP l i).map fun y => if h : y.toNat < i then attr l y.toNat else default)
termination_by i
theorem attr_eq (l : List Nd) (i : Nat) (hi : i < l.length) (hf : 0 ≤ fst1 l i) : attr f l i = f (l.getD i zNd) ((kidsP l i).map fun y => attr f l y.toNat) := by
  rw [attr];congr 1;apply List.map_congr_left;intro y hy;have := kidsP_ok l i hi hf y hy;rw [dif_pos (by omega)]
theorem aStack_roots (l : List Nd) (hr : rightB l = true) (k : Nat) (hk : k ≤ l.length) : tiles l k (aStack f l k).length ∧ aStack f l k = (roots l (aStack f l k).length k).map fun y => attr f l y.toNat := by
  obtain ⟨_, hall, _⟩ := (rightB_iff l).1 hr
  induction k with
  | zero => exact ⟨rfl, rfl⟩
  | succ k ih =>
    obtain ⟨ht, hs⟩ := ih (by omega);have hx : l[k]? = some l[k] := List.getElem?_eq_getElem (by omega);(have hg : l.getD k zNd = l[k] := by rw [List.getD_eq_getElem?_getD, hx]; rfl);have h0 := (hall k (by omega)).1;have hp := fst1_pop l k _ hx;have hkp := kidsP_eq l k _ hx h0;have hroom := stack_room l hr k _ hx;have hae := attr_eq f l k (by omega) h0;rw [hg] at hae;rw [← aStack_length f] at hroom;generalize l[k] = x at hx hg hp hkp hroom hae;have h1 := pop_tiles l (arity x.kind).toNat k _ ht;rw [if_neg (by omega)] at hp;obtain ⟨s, hps, hts⟩ := h1.1 hroom.2;generalize hm : (aStack f l k).length = m at *;obtain ⟨b, hb⟩ : ∃ b, m = (arity x.kind).toNat + b := ⟨m - (arity x.kind).toNat, by omega⟩
    have hlen : (aStack f l (k + 1)).length = b + 1 := by
      rw [aStack, hg, aStep, List.length_append, List.length_take, hm];simp; omega
    have hroots : roots l m k = (kidsDown l b ((s : Int) - 1)).reverse ++ kidsP l k := by
      unfold roots;rw [hb, kidsDown_add l _ b k (by omega) s hps, List.reverse_append, hkp]
    (have hcl : ((kidsDown l b ((s : Int) - 1)).reverse).length = b := by rw [List.length_reverse, kidsDown_length]);(have hfs : fst1 l k = s := by rw [hp, hps]);rw [hlen];refine ⟨⟨by omega, ?_, ?_⟩, ?_⟩
    · rw [Nat.add_sub_cancel]; omega
    · rw [Nat.add_sub_cancel, hfs, Int.toNat_natCast, show b = m - (arity x.kind).toNat by omega]; exact hts
    · rw [aStack, hg, aStep, hm, show m - (arity x.kind).toNat = b by omega, hs, hroots, List.map_append]
      have e1 : roots l (b + 1) (k + 1) = (kidsDown l b ((s : Int) - 1)).reverse ++ [(k : Int)] := by
        unfold roots;rw [show ((k + 1 : Nat) : Int) - 1 = (k : Int) by omega]
        show ((k : Int) :: kidsDown l b (firstI l (k : Int) - 1)).reverse = _
        rw [first_eq l k (by omega), hfs, List.reverse_cons]
      rw [e1, List.map_append, List.take_left' (by rw [List.length_map, hcl]), List.drop_left' (by rw [List.length_map, hcl])];congr 1;simp only [List.map_cons, List.map_nil, Int.toNat_natCast];rw [hae]
theorem aStack_end (l : List Nd) (hr : rightB l = true) : aStack f l l.length = [attr f l (l.length - 1)] := by
  obtain ⟨_, hall, h0, hf⟩ := (rightB_iff l).1 hr;obtain ⟨ht, hs⟩ := aStack_roots f l hr l.length (by omega);have he := stack_end l hr;rw [← aStack_length f] at he;generalize hm : (aStack f l l.length).length = m at *
  have hm1 : m = 1 := by
    cases m with
    | zero => omega
    | succ m =>
      have := ht.2.2;rw [hf] at this;have := tiles_zero this;omega
  subst hm1;rw [hs];simp only [roots, kidsDown, List.reverse_cons, List.reverse_nil, List.nil_append, List.map_cons, List.map_nil];congr 2;omega
end
end Go.Proofs.YtfjemaeidmikmaaDoor
end
section
namespace Go.Proofs.YtfjemaeidmikmaaDoor
open Go.ChangeShapes Go.WideShapes Go.ChangeAt Go.WideMaps Go.WideElems Go.RowKit
def laidL : List (String × DataW Unit) := [("math/bits.deBruijn64tab", Rows.laid_math_bits_deBruijn64tab)]
theorem door_met (os : Os) (args : Array Value) : laidMetH Tryd.prog laidL ((World.doorLaid Tryd.prog 14 os).forCall (fun _ _ => 0) ⟨#[], args, []⟩).memory :=
  laidMetH_of_parts3 (fuel := 8) (laidMet_of_run' 8 (by kernel_rfl) (by kernel_rfl)) (by kernel_rfl) (by kernel_rfl)
theorem tTab : (Tryd.prog.globals[0]?).map (·.type) = some 110 := by kernel_rfl
theorem tab_of_laid {W : World} (h : laidMetH Tryd.prog laidL W) : Go.Proofs.YtfjemaeidmikmaaDoorQ.TabG W := by
  rw [MakeChecks.laidMetH_plain _ _ _ (by kernel_rfl)] at h;have h2 : laidMet Tryd.prog (("math/bits.deBruijn64tab", Lib.tabData .u8 Go.Proofs.YtfjemaeidmikmaaDoorQ.deTab) :: []) W := h;exact Go.Proofs.YtfjemaeidmikmaaDoorQ.TabG.of_tab (Lib.tabIs_of_head Go.Proofs.YtfjemaeidmikmaaDoorQ.gTab tTab Tryd.underlying110 Tryd.underlying5 (by kernel_rfl) (by kernel_rfl) h2)
end Go.Proofs.YtfjemaeidmikmaaDoor
end
section
set_option linter.unusedVariables false
set_option linter.unusedSimpArgs false
namespace Go.Proofs.YtfjemaeidmikmaaDoorQ
open Go.ChangeShapes Go.WideShapes Go.ChangeAt Go.RowKit Go.Deep Go.Proofs.YtfjemaeidmikmaaDoor Go.Proofs.Bs
open Go.Proofs.YtfjemaeidmikmaaDoorW.PrintWords (Kd)
section
variable {H : Type} {enc : TypeId × Value → H} {w : World} {base : Nat} {spare : Nat → Bool} {held : Bool}
theorem kslice_le {t e : TypeId} (ht : Tryd.prog.underlying t = some (.slice e)) {A : Option Addr} {len cap : Nat} {d : DataW H} {ps : List MemPlace} (h : DataW.Trod enc Tryd.prog w base spare held t (.slice A len cap) d ps) : len ≤ 9223372036854775807 := by
  obtain ⟨fuel, h⟩ := h;rcases open_slice ht h with ⟨hcs, hx⟩ | ⟨a, len', cap', m, n, D, Pl, hcs, _, hl, hm, _⟩
  · (have hcs : Value.slice A len cap = .slice none 0 0 := by simpa [Value.cells] using hcs);injection hcs with h1 h2 h3;omega
  · (have hcs : Value.slice A len cap = .slice (some a) len' cap' := by simpa [Value.cells] using hcs);injection hcs with h1 h2 h3;(have : maxLen ≤ 9223372036854775807 := by simp only [maxLen]; omega);omega
theorem kC_of {α : Type} (d : Kd α) (f : α → List Value) {size : Nat} (hs : d.sz = size) (hf : ∀ x, (f x).length = size) (hk : ∀ x, d.K w x (f x)) {A : Option Addr} {n : Nat} {l : List α} (hp : 0 < size) (h : Reads w size A n (l.flatMap f)) (hn : n ≤ 9223372036854775807) : Kd.C d w A n l := by
  subst hs;refine ⟨Reads.length f hf hp h, by omega, fun h0 => ?_⟩;obtain ⟨ad, e, hc⟩ := h.2 h0;refine ⟨ad, e, fun j p hj => ⟨f p, hf p, hk p, fun i u hu => hc _ u ?_⟩⟩;have hi := (List.getElem?_eq_some_iff.1 hu).1;rw [hf] at hi;rw [flat_at f d.sz hf l j p hj i hi];exact hu
theorem kcellsU64 : Tryd.prog.cellsOf 60 = 1 := by kernel_rfl
theorem kcellsSet : Tryd.prog.cellsOf 62 = 4 := by kernel_rfl
theorem kopen_u64 {fuel : Nat} {cs : List Value} {x : DataW H × List MemPlace} (h : DataW.trod enc Tryd.prog w base spare held fuel 60 cs = some x) : ∃ a : Int, cs = [.int .u64 a] ∧ 0 ≤ a ∧ a < 18446744073709551616 := by
  obtain ⟨n, rfl, _, hw⟩ := DataW.trod_int Tryd.underlying60 h;have hb := bounds_u64 hw;exact ⟨n, rfl, by omega, by omega⟩
theorem kopen_set {fuel : Nat} {cs : List Value} {x : DataW H × List MemPlace} (h : DataW.trod enc Tryd.prog w base spare held fuel 62 cs = some x) :
    ∃ s : S62, wfI s.f0 s.f1 s.f2 s.f3 ∧ cs = [.int .u64 s.f0, .int .u64 s.f1, .int .u64 s.f2, .int .u64 s.f3] := by
  obtain ⟨xs, m, _, _, hlen, hxl, hf⟩ := DataW.trod_array Tryd.underlying62 h;rw [kcellsSet] at hlen;simp only [kcellsU64, Nat.mul_one] at hf
  match cs, hlen, xs, hxl with
  | [c0, c1, c2, c3], _, [x0, x1, x2, x3], _ =>
    obtain ⟨a, ha, wa⟩ := kopen_u64 (by simpa using hf 0 (by omega));obtain ⟨b, hb, wb⟩ := kopen_u64 (by simpa using hf 1 (by omega));obtain ⟨c, hc, wc⟩ := kopen_u64 (by simpa using hf 2 (by omega));obtain ⟨d, hd, wd⟩ := kopen_u64 (by simpa using hf 3 (by omega));injection ha with ha;injection hb with hb;injection hc with hc;injection hd with hd;subst ha hb hc hd;exact ⟨⟨a, b, c, d⟩, ⟨wa, wb, wc, wd⟩, rfl⟩
end
end Go.Proofs.YtfjemaeidmikmaaDoorQ
end
section
namespace Go.Proofs.YtfjemaeidmikmaaDoorQ
open Go.RowKit Go.Proofs.YtfjemaeidmikmaaDoorW.PrintWords Go.Proofs.YtfjemaeidmikmaaDoorW.PrintLast Go.Proofs.YtfjemaeidmikmaaDoorW.PrintMore
attribute [local go_sem] max2_int min2_int max_two min_two max_three min_three max_four min_four
set_option linter.unusedVariables false
set_option linter.unusedSimpArgs false
theorem isAggE62 (w : World) : (isAgg 60).run Tryd.prog w = .ok false w := by kernel_rfl
theorem rangeE62 : List.range' 0 4 = [0, 1, 2, 3] := rfl
theorem eqA62 (d : Nat) (w : World) (x0 y0 : Int) (x1 y1 : Int) (x2 y2 : Int) (x3 y3 : Int) :
    (Op.equalIn (d + 2) 62 (.agg #[.int .u64 x0, .int .u64 x1, .int .u64 x2, .int .u64 x3]) (.agg #[.int .u64 y0, .int .u64 y1, .int .u64 y2, .int .u64 y3])).run Tryd.prog w = .ok (x0 == y0 && (x1 == y1 && (x2 == y2 && (x3 == y3)))) w := by
  unfold Op.equalIn;simp only [Sem.run_bind, run_underlying Tryd.underlying62, Result.andThen_ok];simp [go_sem, rangeE62, isAggE62];by_cases h0 : x0 = y0 <;> by_cases h1 : x1 = y1 <;> by_cases h2 : x2 = y2 <;> by_cases h3 : x3 = y3 <;> simp [go_sem, isAggE62, h0, h1, h2, h3]
end Go.Proofs.YtfjemaeidmikmaaDoorQ
end
section
set_option linter.unusedVariables false
set_option linter.unusedSimpArgs false
namespace Go.Proofs.YtfjemaeidmikmaaDoorQ
open Go.RowKit Go.Proofs.Bs Go.Proofs.YtfjemaeidmikmaaDoor Go.Proofs.YtfjemaeidmikmaaDoorW.PrintWords
abbrev NdI := S71
def ndOf (x : NdI) : Nd := ⟨x.f0, setI x.f1.f0 x.f1.f1 x.f1.f2 x.f1.f3, x.f2, x.f3⟩
def ndWf (x : NdI) : Prop := wfI x.f1.f0 x.f1.f1 x.f1.f2 x.f1.f3
instance (x : NdI) : Decidable (ndWf x) := by unfold ndWf; infer_instance
def ndsWf (l : List NdI) : Bool := l.all fun x => decide (ndWf x)
theorem ndsWf_at {l : List NdI} (h : ndsWf l = true) {x : NdI} (hx : x ∈ l) : ndWf x := of_decide_eq_true (List.all_eq_true.1 h x hx)
theorem nd_cells {x : NdI} (h : ndWf x) : (ndOf x).cells = [.int .i64 x.f0, .int .u64 x.f1.f0, .int .u64 x.f1.f1, .int .u64 x.f1.f2, .int .u64 x.f1.f3, .int .i64 x.f2, .int .i64 x.f3] := by
  obtain ⟨e0, e1, e2, e3⟩ := setI_cast h;unfold Nd.cells ndOf;simp only [e0, e1, e2, e3]
theorem reads_nds {w : World} {A : Option Addr} {l : List NdI} (h : Kd.C k71 w A l.length l) (hw : ndsWf l = true) : Reads w 7 A l.length ((l.map ndOf).flatMap Nd.cells) := by
  (have hlen : ((l.map ndOf).flatMap Nd.cells).length = l.length * 7 := by rw [flat_length Nd.cells 7 Nd.cells_length, List.length_map]);refine ⟨hlen, fun hp => ?_⟩;obtain ⟨ad, e, hc⟩ := h.2.2 hp;refine ⟨ad, e, fun j u hu => ?_⟩;have hj := (List.getElem?_eq_some_iff.1 hu).1;rw [hlen] at hj;(have hq : j / 7 < l.length := by omega);(have hr : j % 7 < 7 := by omega);(have hdm : j = j / 7 * 7 + j % 7 := by omega);obtain ⟨cs, hl, hK, hcell⟩ := hc (j / 7) _ (List.getElem?_eq_getElem hq);have hcs := k71_open hK;(have hel : (l.map ndOf)[j / 7]? = some (ndOf l[j / 7]) := by rw [List.getElem?_map, List.getElem?_eq_getElem hq]; rfl);rw [hdm, flat_at Nd.cells 7 Nd.cells_length _ _ _ hel _ hr, nd_cells (ndsWf_at hw (List.getElem_mem hq)), ← hcs] at hu;rw [hdm];exact hcell _ u hu
end Go.Proofs.YtfjemaeidmikmaaDoorQ
end
section
namespace Go.Proofs.YtfjemaeidmikmaaDoorQ
open Go.RowKit Go.Proofs.YtfjemaeidmikmaaDoorW.PrintWords Go.Proofs.YtfjemaeidmikmaaDoorW.PrintLast Go.Proofs.YtfjemaeidmikmaaDoorW.PrintMore
attribute [local go_sem] max2_int min2_int max_two min_two max_three min_three max_four min_four
set_option linter.unusedVariables false
set_option linter.unusedSimpArgs false
def nfa_list.l0 : Nat → List Int → List Bool → Int → Int → Option (List Int)
 | 0, _, _, _, _ => none
 | k + 1, x3, x6, x7, x8 => if x8 < x7 then (if 0 ≤ x8 then (if x8 < (x6.length : Int) then (if rdOf false x6 x8 = true then (if x3.length < 17592186044416 then (nfa_list.l0 k (x3 ++ [x8]) x6 x7 (wrap64 (x8 + 1))) else (none)) else (nfa_list.l0 k x3 x6 x7 (wrap64 (x8 + 1)))) else (none)) else (none)) else (some x3)
def nfa_list.f (k : Nat) (l0 : List Bool) : Option (List Int) := nfa_list.l0 k ([] : List Int) l0 (l0.length : Int) 0
set_option maxHeartbeats 8000000 in
set_option maxRecDepth 100000 in
theorem nfa_list.calls (k : Nat) (A0 : Option Addr) (c0 : Nat) (l0 : List Bool) (r : List Int) (w : World) (hr0 : Kd.C Kd.bool w A0 l0.length l0) (hc0 : l0.length ≤ c0) (h : nfa_list.f k l0 = some r) :
  Calls Tryd.prog 62 #[.slice A0 l0.length c0] w fun e w' => ∃ v0_ : Value, e = .returned (v0_) ∧ Kd.R (Kd.int .i64) 3 w' w.heap.size (fun _ => True) v0_ r ∧ Below w.heap.size w w' := by
 have HR0 := Aside0.mk hr0;have HC0 := Aside0.mk hc0;clear hr0 hc0;have HB := Aside0.mk (Below.refl w.heap.size w);have H : (nfa_list.l0 k ([] : List Int) l0 (l0.length : Int) 0) = some r := h;clear h;have H' := Aside0.mk H;clear H;go_enter Tryd.func62, Tryd.ntmps62;go_wp2;go_loopg [3, 8] k (fun kq v3 v8 w' => ∃ (x3_1 : List Int) (x8_1 : Int), v8 = .int .i64 x8_1 ∧ Aside0 (nfa_list.l0 kq x3_1 l0 (l0.length : Int) x8_1 = some r) ∧ Aside0 (kq ≤ k) ∧ Aside0 (Kd.R (Kd.int .i64) 3 w' w.heap.size (fun _ => True) v3 x3_1) ∧ Aside0 (Below w.heap.size w w'))
 case atStart => exact ⟨(([] : List Int)), (0), (by first | rfl | (simp; done) | (simp [*]; done)), H', ⟨Nat.le_refl _⟩, ⟨by first | exact Kd.R_nil _ _ _ _ _ | exact Kd.N_nil _ _ _ _ _ | exact Kd.V_nil _ _ _ _ _ | exact Kd.Q_nil _ _ _ _ _ | exact Kd.S_nil _ _ _ _ _⟩, ⟨by repeat (first | (with_reducible first | exact HB.out | apply below_alloc | apply pw_below_drewN | apply below_drew1) | exact HB.out)⟩⟩
 case round =>
  clear H';obtain ⟨x3_1, x8_1, rfl, HA, HK1, HO_3, HB⟩ := hrel
  cases gk with
  | zero => exact absurd HA.out (by simp [nfa_list.l0])
  | succ k1 =>
   have H := HA.out;clear HA;simp only [nfa_list.l0] at H;by_cases c2 : x8_1 < (l0.length : Int)
   ·rw [if_pos c2] at H;have c2b0 := decide_eq_true c2;clear c2;by_cases c3 : 0 ≤ x8_1
    ·rw [if_pos c3] at H;have c3b0 := decide_eq_true c3;clear c3;by_cases c4 : x8_1 < (l0.length : Int)
     ·rw [if_pos c4] at H;have c4b0 := decide_eq_true c4;clear c4;obtain ⟨bq5, hbq5⟩ : ∃ b_ : Bool, b_ = (rdOf false l0 x8_1) := ⟨_, rfl⟩;(replace H : (if bq5 = true then (if x3_1.length < 17592186044416 then (nfa_list.l0 k1 (x3_1 ++ [x8_1]) l0 (l0.length : Int) (wrap64 (x8_1 + 1))) else (none)) else (nfa_list.l0 k1 x3_1 l0 (l0.length : Int) (wrap64 (x8_1 + 1)))) = some r := by rw [← hbq5] at H; exact H);have Nbq5 := Aside0.mk hbq5;clear hbq5;by_cases c6 : bq5 = true
      ·subst c6;(have H1 : (if x3_1.length < 17592186044416 then (nfa_list.l0 k1 (x3_1 ++ [x8_1]) l0 (l0.length : Int) (wrap64 (x8_1 + 1))) else (none)) = some r := by rw [if_pos rfl] at H; exact H);clear H;have H := H1;clear H1;by_cases c7 : x3_1.length < 17592186044416
       ·rw [if_pos c7] at H;have LMc7 := Aside0.mk c7;clear c7;obtain ⟨y102, hy102⟩ : ∃ y_ : List Int, y_ = (x3_1 ++ [x8_1]) := ⟨_, rfl⟩;(replace H : (nfa_list.l0 k1 y102 l0 (l0.length : Int) (wrap64 (x8_1 + 1))) = some r := by first | (rw [hy102]; with_reducible exact H) | (have H2_ := (Option.bind_some _ _).symm.trans H; rw [hy102]; with_reducible exact H2_) | (have H2_ := (Option.bind_some _ _).symm.trans H; with_reducible exact H2_) | with_reducible exact H | (rw [hy102]; exact H) | exact H);have Ny102 := Aside0.mk hy102;clear hy102;have H' := Aside0.mk H;clear H;have p101 : 0 ≤ (x8_1 : Int) := of_decide_eq_true (by first | (with_reducible assumption) | assumption);have q101 : x8_1 < (l0.length : Int) := of_decide_eq_true (by first | (with_reducible assumption) | assumption);obtain ⟨ad101, e101, hx101_0⟩ := Kd.at_bool HR0.out x8_1 p101 q101;(try rw [← Nbq5.out] at hx101_0); (try rw [← Nbq5.out] at hw101_0);cases e101;replace hx101_0 := (HB.out.cell (World.block_lt_of_cell? w _ hx101_0)).trans hx101_0;replace p101 := eq_true p101;replace q101 := eq_true q101;go_wp2_with (first | ((with_reducible refine gate_builtin (b := .append) (xs := #[.tmp 14, .tmp 16]) rfl ?_); at_builtin; refine Kd.R_append (Kd.int .i64) (w0 := w) w.heap.size rfl (.tmp 14) (.tmp 16) 27 3 (.int .i64 0) 8 rfl Tryd.underlying27 info3 rfl (by decide) (by omega) u3 x3_1 x8_1 [.int .i64 x8_1] (fun _ => True) (fun _ => False) rfl rfl ?aP (fun _ hk => hk.elim) ?aF ?aO ?aB ?aS ?aL ?_; (case aP => exact rfl); (case aB => exact (by repeat (first | (with_reducible first | exact HB.out | apply below_alloc | apply pw_below_drewN | apply below_drew1) | exact HB.out))); (case aF => exact (fun _ _ => trivial)); (case aO => exact (by (with_reducible repeat (first | apply Kd.R_alloc | apply Kd.R_drewN | apply Kd.R_drew)); exact HO_3.out)); (case aS => exact (below_size (by repeat (first | (with_reducible first | exact HB.out | apply below_alloc | apply pw_below_drewN | apply below_drew1) | exact HB.out)))); (case aL => have := LMc7.out; omega); intro v103 w8 ho hb hg hat; rw [← Ny102.out] at ho; have n0_ := Aside0.mk (hb); have n1_ := Aside0.mk (ho); clear HB; clear HO_3; have HB := n0_; have HO104 := n1_; clear n0_ n1_; clear ho hb hg hat));go_roundg k1
        case measure => have := HK1.out; omega
        case rel => exact ⟨(y102), (wrap64 (x8_1 + 1)), (by first | rfl | (simp; done) | (simp [*]; done)), H', ⟨by have := HK1.out; omega⟩, ⟨by (with_reducible repeat (first | apply Kd.R_alloc | apply Kd.R_drewN | apply Kd.R_drew)); exact HO104.out⟩, ⟨by repeat (first | (with_reducible first | exact HB.out | apply below_alloc | apply pw_below_drewN | apply below_drew1) | exact HB.out)⟩⟩
       ·rw [if_neg c7] at H;exact absurd H (by simp)
      ·replace c6 := Bool.eq_false_iff.mpr c6;subst c6;(have H1 : (nfa_list.l0 k1 x3_1 l0 (l0.length : Int) (wrap64 (x8_1 + 1))) = some r := by rw [if_neg (show ¬ (false = true) by decide)] at H; exact H);clear H;have H := H1;clear H1;have H' := Aside0.mk H;clear H;have p101 : 0 ≤ (x8_1 : Int) := of_decide_eq_true (by first | (with_reducible assumption) | assumption);have q101 : x8_1 < (l0.length : Int) := of_decide_eq_true (by first | (with_reducible assumption) | assumption);obtain ⟨ad101, e101, hx101_0⟩ := Kd.at_bool HR0.out x8_1 p101 q101;(try rw [← Nbq5.out] at hx101_0); (try rw [← Nbq5.out] at hw101_0);cases e101;replace hx101_0 := (HB.out.cell (World.block_lt_of_cell? w _ hx101_0)).trans hx101_0;replace p101 := eq_true p101;replace q101 := eq_true q101;go_wp2;go_roundg k1
       case measure => have := HK1.out; omega
       case rel => exact ⟨(x3_1), (wrap64 (x8_1 + 1)), (by first | rfl | (simp; done) | (simp [*]; done)), H', ⟨by have := HK1.out; omega⟩, ⟨by (with_reducible repeat (first | apply Kd.R_alloc | apply Kd.R_drewN | apply Kd.R_drew)); exact HO_3.out⟩, ⟨by repeat (first | (with_reducible first | exact HB.out | apply below_alloc | apply pw_below_drewN | apply below_drew1) | exact HB.out)⟩⟩
     ·rw [if_neg c4] at H;exact absurd H (by simp)
    ·rw [if_neg c3] at H;exact absurd H (by simp)
   ·rw [if_neg c2] at H;have c2b0 := decide_eq_false c2;clear c2;obtain rfl := Option.some.inj H;go_wp2;go_ret;exact ⟨_, by first | rfl | (simp [errW_none, errW_some] <;> rfl) | (simp [*, errW_none, errW_some] <;> rfl), by (with_reducible repeat (first | apply Kd.R_alloc | apply Kd.R_drewN | apply Kd.R_drew)); exact HO_3.out, by repeat (first | (with_reducible first | exact HB.out | apply below_alloc | apply pw_below_drewN | apply below_drew1) | exact HB.out)⟩
end Go.Proofs.YtfjemaeidmikmaaDoorQ
end
section
namespace Go.Proofs.YtfjemaeidmikmaaDoorQ
open Go.RowKit Go.Proofs.YtfjemaeidmikmaaDoorW.PrintWords Go.Proofs.YtfjemaeidmikmaaDoorW.PrintLast Go.Proofs.YtfjemaeidmikmaaDoorW.PrintMore
attribute [local go_sem] max2_int min2_int max_two min_two max_three min_three max_four min_four
set_option linter.unusedVariables false
set_option linter.unusedSimpArgs false
def tattinglaw11_one.f  : Option ((List (S64)) × Int × Int) := some ((([(⟨1, 1, 0, (⟨0, 8589934592, 0, 0⟩ : S62)⟩ : S64), (⟨6, 0, 0, (⟨0, 0, 0, 0⟩ : S62)⟩ : S64)] : List (S64))), 0, 1)
set_option maxHeartbeats 8000000 in
set_option maxRecDepth 100000 in
theorem tattinglaw11_one.calls  (r1 : List (S64)) (r2 : Int) (r3 : Int) (w : World) (h : tattinglaw11_one.f  = some (r1, r2, r3)) :
    Calls Tryd.prog 19 #[] w fun e w' => ∃ v0_ : Value, e = .returned (.agg #[v0_, .int .i64 r2, .int .i64 r3]) ∧ Kd.R k64 64 w' w.heap.size (fun _ => True) v0_ r1 ∧ Below w.heap.size w w' := by
  have hu24 := Tryd.underlying24;have hu62 := Tryd.underlying62;have hu64 := Tryd.underlying64;have HB := Aside0.mk (Below.refl w.heap.size w);have H : (some ((([(⟨1, 1, 0, (⟨0, 8589934592, 0, 0⟩ : S62)⟩ : S64), (⟨6, 0, 0, (⟨0, 0, 0, 0⟩ : S62)⟩ : S64)] : List (S64))), 0, 1)) = some (r1, r2, r3) := h;clear h;obtain ⟨y102, hy102⟩ : ∃ y_ : List (S64), y_ = (([(⟨1, 1, 0, (⟨0, 8589934592, 0, 0⟩ : S62)⟩ : S64), (⟨6, 0, 0, (⟨0, 0, 0, 0⟩ : S62)⟩ : S64)] : List (S64))) := ⟨_, rfl⟩;(replace H : (some (y102, 0, 1)) = some (r1, r2, r3) := by first | (rw [hy102]; with_reducible exact H) | (have H2_ := (Option.bind_some _ _).symm.trans H; rw [hy102]; with_reducible exact H2_) | (have H2_ := (Option.bind_some _ _).symm.trans H; with_reducible exact H2_) | with_reducible exact H | (rw [hy102]; exact H) | exact H);have Ny102 := Aside0.mk hy102;clear hy102;simp only [Option.some.injEq, Prod.mk.injEq] at H;obtain ⟨rfl, rfl, rfl⟩ := H;go_enter Tryd.func19, Tryd.ntmps19;go_wp2_with (first | ((with_reducible refine gate_dst (N := 0) rfl ?_); refine box_event ?hg (N := 0) ?hd (cs := #[.slice none 0 0, .int .i64 0, .int .i64 0]) (t := 24) ?hr ?_; (case hd => rfl); (case hg => rfl); (case hr => first | (go_simp; done) | (go_simp; rfl)); intro gb101 hg w1 hbox hb; have n0_ := Aside0.mk (below_step (by repeat (first | (with_reducible first | exact HB.out | apply below_alloc | apply pw_below_drewN | apply below_drew1) | exact HB.out)) hb); have n1_ := Aside0.mk (hbox); have n2_ := Aside0.mk ((by rw [hg]; exact (below_size (by repeat (first | (with_reducible first | exact HB.out | apply below_alloc | apply pw_below_drewN | apply below_drew1) | exact HB.out))) : w.heap.size ≤ gb101)); have n3_ := Aside0.mk ((by rw [hg]; exact (below_size (by repeat (first | (with_reducible first | exact HB.out | apply below_alloc | apply pw_below_drewN | apply below_drew1) | exact HB.out))) : w.heap.size ≤ gb101)); clear HB; have HB := n0_; have BK101 := n1_; have GW101 := n2_; have GE101 := n3_; clear n0_ n1_ n2_ n3_; clear hb hbox hg) | ((with_reducible refine gate_dst (N := 4) rfl ?_); refine Kd.R_lit k64 _ 64 ?hg (N := 4) ?hd (xs := ([(⟨1, 1, 0, (⟨0, 8589934592, 0, 0⟩ : S62)⟩ : S64), (⟨6, 0, 0, (⟨0, 0, 0, 0⟩ : S62)⟩ : S64)] : List (S64))) (inner := [.int .i64 1, .int .i64 1, .int .i64 0, .int .u64 0, .int .u64 8589934592, .int .u64 0, .int .u64 0, .int .i64 6, .int .i64 0, .int .i64 0, .int .u64 0, .int .u64 0, .int .u64 0, .int .u64 0]) (ok := fun _ => True) (okp := fun _ => True) ?hr ?hp (fun _ hk => hk) trivial (Below.refl _ _) (Nat.le_refl _) (by simp) ?_; (case hd => rfl); (case hg => rfl); (case hr => first | (go_simp; done) | (go_simp; rfl)); (case hp => exact (Reps.c7 (show Kd.M k64 _ _ _ (⟨1, 1, 0, (⟨0, 8589934592, 0, 0⟩ : S62)⟩ : S64) [.int .i64 1, .int .i64 1, .int .i64 0, .int .u64 0, .int .u64 8589934592, .int .u64 0, .int .u64 0] from (k64_mkM _ _ _ (⟨1, 1, 0, (⟨0, 8589934592, 0, 0⟩ : S62)⟩ : S64) )) (Reps.c7 (show Kd.M k64 _ _ _ (⟨6, 0, 0, (⟨0, 0, 0, 0⟩ : S62)⟩ : S64) [.int .i64 6, .int .i64 0, .int .i64 0, .int .u64 0, .int .u64 0, .int .u64 0, .int .u64 0] from (k64_mkM _ _ _ (⟨6, 0, 0, (⟨0, 0, 0, 0⟩ : S62)⟩ : S64) )) (Reps.none _ _)))); intro v103 w2 ho3 hb hg_ hnew_; clear hg_ hnew_; (first | rw [← Ny102.out] at ho3 | (simp only [Int.reduceToNat] at ho3; rw [← Ny102.out] at ho3)); have n0_ := Aside0.mk (Kd.R_lower ho3 (below_size (by repeat (first | (with_reducible first | exact HB.out | apply below_alloc | apply pw_below_drewN | apply below_drew1 | refine below_set ?_ GE101.out) | exact HB.out)))); have n1_ := Aside0.mk (blk_below (g := gb101) (o := .cells #[.slice none 0 0, .int .i64 0, .int .i64 0] 24 (0, 0)) (by (with_reducible repeat (first | refine blk_drewN ?_ _ | refine blk_drew ?_ | refine blk_alloc ?_ _)); exact BK101.out) hb); have n2_ := Aside0.mk (below_step (by repeat (first | (with_reducible first | exact HB.out | apply below_alloc | apply pw_below_drewN | apply below_drew1 | refine below_set ?_ GE101.out) | exact HB.out)) hb); clear BK101; clear HB; have HO104 := n0_; have BK101 := n1_; have HB := n2_; clear n0_ n1_ n2_; clear hb ho3; obtain ⟨Ao4, co4, eo4⟩ := Kd.R_slice HO104.out; subst eo4; have hcz5_0 : w2.cell? ⟨gb101, 0, none⟩ = some (.slice none 0 0) := (blk_cell BK101.out 0).trans rfl; have hcz5_1 : w2.cell? ⟨gb101, 1, none⟩ = some (.int .i64 0) := (blk_cell BK101.out 1).trans rfl; have hcz5_2 : w2.cell? ⟨gb101, 2, none⟩ = some (.int .i64 0) := (blk_cell BK101.out 2).trans rfl; have hfz5_0 := blk_frozen BK101.out 0; have hfz5_1 := blk_frozen BK101.out 1; have hfz5_2 := blk_frozen BK101.out 2));refine bodyPost_ret (results_cell_row rfl _ _ gb101 24 #[.slice Ao4 y102.length co4, .int .i64 0, .int .i64 1] (0, 0) _ rfl (by (with_reducible repeat (first | refine blk_drewN ?_ _ | refine blk_drew ?_ | refine blk_alloc ?_ _)); refine blk_put (cs := #[.slice Ao4 y102.length co4, .int .i64 0, .int .i64 0]) ?_ 2 _ rfl; (with_reducible repeat (first | refine blk_drewN ?_ _ | refine blk_drew ?_ | refine blk_alloc ?_ _)); refine blk_put (cs := #[.slice Ao4 y102.length co4, .int .i64 0, .int .i64 0]) ?_ 1 _ rfl; (with_reducible repeat (first | refine blk_drewN ?_ _ | refine blk_drew ?_ | refine blk_alloc ?_ _)); refine blk_put (cs := #[.slice none 0 0, .int .i64 0, .int .i64 0]) ?_ 0 _ rfl; (with_reducible repeat (first | refine blk_drewN ?_ _ | refine blk_drew ?_ | refine blk_alloc ?_ _)); exact BK101.out) Tryd.underlying24 rfl (by kernel_rfl)) rfl ?_;exact ⟨_, by first | rfl | (simp [errW_none, errW_some] <;> rfl) | (simp [*, errW_none, errW_some] <;> rfl), by (with_reducible repeat (first | apply Kd.R_alloc | apply Kd.R_drewN | apply Kd.R_drew)); exact Kd.R_mono (Kd.R_far (p := ⟨gb101, 2, none⟩) (Kd.R_far (p := ⟨gb101, 1, none⟩) (Kd.R_far (p := ⟨gb101, 0, none⟩) (Kd.R_types HO104.out BK101.out (by decide)) (fun _ hk => hk.2) (.slice Ao4 y102.length co4)) (fun _ hk => hk.2) (.int .i64 0)) (fun _ hk => hk.2) (.int .i64 1)) (fun _ hk => trivial), by repeat (first | (with_reducible first | exact HB.out | apply below_alloc | apply pw_below_drewN | apply below_drew1 | refine below_set ?_ GE101.out) | exact HB.out)⟩
end Go.Proofs.YtfjemaeidmikmaaDoorQ
end
section
namespace Go.Proofs.YtfjemaeidmikmaaDoorQ
open Go.RowKit Go.Proofs.YtfjemaeidmikmaaDoorW.PrintWords Go.Proofs.YtfjemaeidmikmaaDoorW.PrintLast Go.Proofs.YtfjemaeidmikmaaDoorW.PrintMore
attribute [local go_sem] max2_int min2_int max_two min_two max_three min_three max_four min_four
set_option linter.unusedVariables false
set_option linter.unusedSimpArgs false
def tattingref07_grid.l0 : Nat → Int → List (List Bool) → Int → Option ((List (List Bool)))
 | 0, _, _, _ => none
 | k + 1, x0, x3, x4 => if x4 ≤ x0 then (if 0 ≤ (wrap64 (x0 + 1)) then (if (wrap64 (x0 + 1) : Int).toNat ≤ 281474976710656 then (if x3.length < 5864062014805 then (tattingref07_grid.l0 k x0 (x3 ++ [(List.replicate (wrap64 (x0 + 1) : Int).toNat false)]) (wrap64 (x4 + 1))) else (none)) else (none)) else (none)) else (some x3)
def tattingref07_grid.f (k : Nat) (a0 : Int) : Option ((List (List Bool))) := tattingref07_grid.l0 k a0 ([] : List (List Bool)) 0
theorem tat07griid_t0 {P : Prop} (h : P := by repeat (first | (with_reducible first | exact HB.out | apply below_alloc | apply pw_below_drewN | apply below_drew1) | exact HB.out)) : P := h
set_option maxHeartbeats 8000000 in
set_option maxRecDepth 100000 in
theorem tattingref07_grid.calls (k : Nat) (a0 : Int) (r : List (List Bool)) (w : World) (h : tattingref07_grid.f k a0 = some r) :
  Calls Tryd.prog 56 #[.int .i64 a0] w fun e w' => ∃ v0_ : Value, e = .returned (v0_) ∧ Kd.S (Kd.slice 4 Kd.bool) 28 w' w.heap.size (fun _ => True) v0_ r ∧ Below w.heap.size w w' := by
 have HB := Aside0.mk (Below.refl w.heap.size w);have H : (tattingref07_grid.l0 k a0 ([] : List (List Bool)) 0) = some r := h;clear h;have H' := Aside0.mk H;clear H;go_enter Tryd.func56, Tryd.ntmps56;go_wp2;go_loopg [3, 4] k (fun kq v3 v4 w' => ∃ (x3_1 : List (List Bool)) (x4_1 : Int), v4 = .int .i64 x4_1 ∧ Aside0 (tattingref07_grid.l0 kq a0 x3_1 x4_1 = some r) ∧ Aside0 (kq ≤ k) ∧ Aside0 (Kd.S (Kd.slice 4 Kd.bool) 28 w' w.heap.size (fun _ => True) v3 x3_1) ∧ Aside0 (Below w.heap.size w w'))
 case atStart => exact ⟨(([] : List (List Bool))), (0), (by first | rfl | (simp; done) | (simp [*]; done)), H', ⟨Nat.le_refl _⟩, ⟨by first | exact Kd.S_nil _ _ _ _ _ | exact Kd.N_nil _ _ _ _ _ | exact Kd.V_nil _ _ _ _ _ | exact Kd.Q_nil _ _ _ _ _ | exact Kd.R_nil _ _ _ _ _⟩, ⟨by repeat (first | (with_reducible first | exact HB.out | apply below_alloc | apply pw_below_drewN | apply below_drew1) | exact HB.out)⟩⟩
 case round =>
  clear H';obtain ⟨x3_1, x4_1, rfl, HA, HK1, HO_3, HB⟩ := hrel
  cases gk with
  | zero => exact absurd HA.out (by simp [tattingref07_grid.l0])
  | succ k1 =>
   have H := HA.out;clear HA;simp only [tattingref07_grid.l0] at H;by_cases c2 : x4_1 ≤ a0
   ·rw [if_pos c2] at H;have c2b0 := decide_eq_true c2;clear c2;obtain ⟨ji3, hji3⟩ : ∃ j_ : Int, (wrap64 (a0 + 1)) = j_ := ⟨_, rfl⟩;(replace H : (if 0 ≤ (ji3) then (if (ji3 : Int).toNat ≤ 281474976710656 then (if x3_1.length < 5864062014805 then (tattingref07_grid.l0 k1 a0 (x3_1 ++ [(List.replicate (ji3 : Int).toNat false)]) (wrap64 (x4_1 + 1))) else (none)) else (none)) else (none)) = some r := by first | (rw [hji3] at H; exact H) | (simp only [hji3] at H ⊢; exact H));have hji3w : (IntKind.i64.wrap (a0 + 1)) = ji3 := (i64_w _).trans hji3;by_cases c4 : 0 ≤ (ji3)
    ·rw [if_pos c4] at H;have c4b0 := eq_true c4;have c4b1 := decide_eq_true c4;clear c4;by_cases c5 : (ji3 : Int).toNat ≤ 281474976710656
     ·rw [if_pos c5] at H;have c5b0 := eq_true c5;have c5b1 := decide_eq_true c5;clear c5;obtain ⟨y101, hy101⟩ : ∃ y_ : List Bool, y_ = (List.replicate (ji3 : Int).toNat false) := ⟨_, rfl⟩;(replace H : (if x3_1.length < 5864062014805 then (tattingref07_grid.l0 k1 a0 (x3_1 ++ [y101]) (wrap64 (x4_1 + 1))) else (none)) = some r := by first | (rw [hy101]; with_reducible exact H) | (have H2_ := (Option.bind_some _ _).symm.trans H; rw [hy101]; with_reducible exact H2_) | (have H2_ := (Option.bind_some _ _).symm.trans H; with_reducible exact H2_) | with_reducible exact H | (rw [hy101]; exact H) | exact H);have Ny101 := Aside0.mk hy101;clear hy101;by_cases c6 : x3_1.length < 5864062014805
      ·rw [if_pos c6] at H;have LMc6 := Aside0.mk c6;clear c6;obtain ⟨y104, hy104⟩ : ∃ y_ : List (List Bool), y_ = (x3_1 ++ [y101]) := ⟨_, rfl⟩;(replace H : (tattingref07_grid.l0 k1 a0 y104 (wrap64 (x4_1 + 1))) = some r := by first | (rw [hy104]; with_reducible exact H) | (have H2_ := (Option.bind_some _ _).symm.trans H; rw [hy104]; with_reducible exact H2_) | (have H2_ := (Option.bind_some _ _).symm.trans H; with_reducible exact H2_) | with_reducible exact H | (rw [hy104]; exact H) | exact H);have Ny104 := Aside0.mk hy104;clear hy104;have H' := Aside0.mk H;clear H;go_wp2_with (first | ((with_reducible refine gate_dst (N := 13) rfl ?_); refine Kd.R_make Kd.bool _ 4 rfl (N := 13) rfl 28 _ _ rfl ji3 rfl rfl Tryd.underlying28 (.bool false) 1 info4 rfl (by decide) (by omega) false (ok := fun _ => True) (okp := fun _ => True) rfl (fun _ hk => hk) trivial (of_decide_eq_true (by first | (with_reducible assumption) | assumption)) (Nat.le_trans (Nat.mul_le_mul_right _ (of_decide_eq_true (by first | (with_reducible assumption) | assumption) : ji3.toNat ≤ 281474976710656)) (by omega)) (Below.refl _ _) (Nat.le_refl _) ?_; intro v102 w7 ho8 hb hg_ hnew_; clear hg_ hnew_; (first | rw [← Ny101.out] at ho8 | (simp only [Int.reduceToNat] at ho8; rw [← Ny101.out] at ho8)); have n0_ := Aside0.mk (Kd.S_elder' (by (with_reducible repeat (first | apply Kd.S_alloc | apply Kd.S_drewN | apply Kd.S_drew)); exact HO_3.out) (Kd.R_base ho8) hb); have n1_ := Aside0.mk (Kd.R_lower ho8 (below_size tat07griid_t0)); have n2_ := Aside0.mk (below_step tat07griid_t0 hb); clear HO_3; clear HB; have HO_3 := n0_; have HO103 := n1_; have HB := n2_; clear n0_ n1_ n2_; clear hb ho8; obtain ⟨Ao10, co10, eo10⟩ := Kd.R_slice HO103.out; subst eo10) | ((with_reducible refine gate_builtin (b := .append) (xs := #[.tmp 10, .tmp 14]) rfl ?_); at_builtin; refine Kd.S_append (Kd.slice 4 Kd.bool) (w0 := w) w.heap.size rfl (.tmp 10) (.tmp 14) 45 28 (.slice none 0 0) 24 rfl Tryd.underlying45 info28 rfl (by decide) (by omega) u3 x3_1 y101 [.slice Ao10 y101.length co10] (fun _ => True) (fun k_ => some k_ = (.slice Ao10 y101.length co10 : Value).ownBlock) rfl rfl ?aP (fun k_ hk_ => ((Kd.R_mono (ok' := fun k_ => ((fun _ => True)) k_ ∧ some k_ ≠ (u3 : Value).ownBlock) (Kd.R_apart' (HO103.out) (Kd.S_typed HO_3.out) (by decide)) (fun k_ hk => (by first | exact ⟨trivial, hk.2⟩ | (simp_all; done) | grind)))).1 k_ hk_.symm) ?aF ?aO ?aB ?aS ?aL ?_; (case aP => exact Kd.M_row (Kd.R_mono (Kd.R_tight rfl (Kd.R_mono (ok' := fun k_ => ((fun _ => True)) k_ ∧ some k_ ≠ (u3 : Value).ownBlock) (Kd.R_apart' (HO103.out) (Kd.S_typed HO_3.out) (by decide)) (fun k_ hk => (by first | exact ⟨trivial, hk.2⟩ | (simp_all; done) | grind)))) (fun _ h_ => h_))); (case aB => exact tat07griid_t0); (case aF => exact (fun _ _ => trivial)); (case aO => exact (by (with_reducible repeat (first | apply Kd.S_alloc | apply Kd.S_drewN | apply Kd.S_drew)); exact Kd.S_mono HO_3.out (fun k_ hk => ⟨trivial, fun e_ => hk.2 e_⟩))); (case aS => exact (below_size tat07griid_t0)); (case aL => have := LMc6.out; omega); intro v105 w9 ho hb hg hat; rw [← Ny104.out] at ho; have n0_ := Aside0.mk (hb); have n1_ := Aside0.mk (ho); clear HB; clear HO_3; clear HO103; have HB := n0_; have HO106 := n1_; clear n0_ n1_; clear ho hb hg hat));go_roundg k1
       case measure => have := HK1.out; omega
       case rel => exact ⟨(y104), (wrap64 (x4_1 + 1)), (by first | rfl | (simp; done) | (simp [*]; done)), H', ⟨by have := HK1.out; omega⟩, ⟨by (with_reducible repeat (first | apply Kd.S_alloc | apply Kd.S_drewN | apply Kd.S_drew)); exact HO106.out⟩, ⟨by repeat (first | (with_reducible first | exact HB.out | apply below_alloc | apply pw_below_drewN | apply below_drew1) | exact HB.out)⟩⟩
      ·rw [if_neg c6] at H;exact absurd H (by simp)
     ·rw [if_neg c5] at H;exact absurd H (by simp)
    ·rw [if_neg c4] at H;exact absurd H (by simp)
   ·rw [if_neg c2] at H;have c2b0 := decide_eq_false c2;clear c2;obtain rfl := Option.some.inj H;go_wp2;go_ret;exact ⟨_, by first | rfl | (simp [errW_none, errW_some] <;> rfl) | (simp [*, errW_none, errW_some] <;> rfl), by (with_reducible repeat (first | apply Kd.S_alloc | apply Kd.S_drewN | apply Kd.S_drew)); exact HO_3.out, by repeat (first | (with_reducible first | exact HB.out | apply below_alloc | apply pw_below_drewN | apply below_drew1) | exact HB.out)⟩
end Go.Proofs.YtfjemaeidmikmaaDoorQ
end
section
set_option linter.unusedVariables false
set_option linter.unusedSimpArgs false
namespace Go.Proofs.YtfjemaeidmikmaaDoorQ
open Go.RowKit Go.Proofs.Bs
theorem bit_at (x n : Nat) (hx : x < W) : (bits .and .u64 ((x : Int) / 2 ^ n) 1 == 1) = x.testBit n := by
  (have e : ((x : Int) / 2 ^ n) = ((x / 2 ^ n : Nat) : Int) := by simp);have h := u64_and_nat (x / 2 ^ n) 1 (Nat.lt_of_le_of_lt (Nat.div_le_self _ _) hx) (by omega);rw [e, show (1 : Int) = ((1 : Nat) : Int) from rfl, h, Nat.testBit_eq_decide_div_mod_eq, Nat.and_one_is_mod];by_cases c : x / 2 ^ n % 2 = 1
  · simp [c]
  · rw [decide_eq_false c];simp;omega
theorem ret_has {a b : Bool} (h : a = b) : Ending.returned (Value.bool a) = Ending.returned (Value.bool b) := by rw [h]
theorem has_at (s : S) (hs : s.wf) (b : Int) (h0 : 0 ≤ b) (q : Nat) (hq : b / 64 = q) : (bits .and .u64 ((s.word q : Int) / 2 ^ (b % 64).toNat) 1 == 1) = has s b.toNat := by
  rw [bit_at _ _ (hs.wf_word q)];unfold has;rw [show b.toNat / 64 = q by omega, show b.toNat % 64 = (b % 64).toNat by omega]
theorem has_walk (s : S) (hs : s.wf) (b : Int) (h0 : 0 ≤ b) (h1 : b < 256) (w : World) : Calls Tryd.prog 69 #[.agg #[.int .u64 s.a, .int .u64 s.b, .int .u64 s.c, .int .u64 s.d], .int .u8 b] w fun e w' => e = .returned (.bool (has s b.toNat)) ∧ Below w.heap.size w w' := by
  rcases (show b / 64 = (0 : Nat) ∨ b / 64 = (1 : Nat) ∨ b / 64 = (2 : Nat) ∨ b / 64 = (3 : Nat) by omega) with hq | hq | hq | hq
  all_goals
    have H := Lib.hid (has_at s hs b h0 _ hq)
    go_enter Tryd.func69, Tryd.ntmps69
    go_wp2
    go_ret
    exact ⟨ret_has H.out, (Below.refl _ _).alloc (Nat.le_refl _) _⟩
def byteset_Has.f (a0_0 a0_1 a0_2 a0_3 a1 : Int) : Option Bool := if wfI a0_0 a0_1 a0_2 a0_3 ∧ 0 ≤ a1 ∧ a1 < 256 then some (has (setI a0_0 a0_1 a0_2 a0_3) a1.toNat) else none
theorem byteset_Has.calls (a0_0 a0_1 a0_2 a0_3 : Int) (a1 : Int) (r : Bool) (w : World) (h : byteset_Has.f a0_0 a0_1 a0_2 a0_3 a1 = some r) :
    Calls Tryd.prog 69 #[.agg #[.int .u64 a0_0, .int .u64 a0_1, .int .u64 a0_2, .int .u64 a0_3], .int .u8 a1] w fun e w' => e = .returned (.bool r) ∧ Below w.heap.size w w' := by
  unfold byteset_Has.f at h;split at h
  case isFalse => cases h
  case isTrue c =>
    injection h with h;subst h;obtain ⟨e0, e1, e2, e3⟩ := setI_cast c.1;have hw := has_walk (setI a0_0 a0_1 a0_2 a0_3) (setI_wf c.1) a1 c.2.1 c.2.2 w;rw [e0, e1, e2, e3] at hw;exact hw
end Go.Proofs.YtfjemaeidmikmaaDoorQ
end
section
set_option linter.unusedVariables false
set_option linter.unusedSimpArgs false
namespace Go.Proofs.YtfjemaeidmikmaaDoorQ
open Go.RowKit Go.Proofs.Bs Go.Proofs.YtfjemaeidmikmaaDoor
def four (s : S) : Int × Int × Int × Int := (s.a, s.b, s.c, s.d)
end Go.Proofs.YtfjemaeidmikmaaDoorQ
end
section
set_option linter.unusedVariables false
set_option linter.unusedSimpArgs false
set_option maxRecDepth 100000
namespace Go.Proofs.YtfjemaeidmikmaaDoor
open Go.RowKit Go.Maps
def okT (t : List Int) : Prop := t.length ≤ 1000000 ∧ ∀ x ∈ t, 0 ≤ x ∧ x < 65536
theorem str_keyed : Keyed Tryd.prog 9 := string_keyed Tryd.underlying9
theorem zero_int3 (w : World) : (zeroValue 3).run Tryd.prog w = .ok (.int .i64 0) w := by kernel_rfl
noncomputable def tk (t : List Int) : Lit := (keyOf Tryd.prog 9 (.string (strOfNums (keyL t)))).getD (.bool true)
theorem sn_list (xs : List Int) : (strOfNums xs).data.toList = xs.map fun n => UInt8.ofNat n.toNat := by simp [strOfNums]
theorem sn_size (xs : List Int) : (strOfNums xs).size = xs.length := by
  have := congrArg List.length (sn_list xs);simpa using this
theorem u8_inj {a b : Int} (ha : 0 ≤ a ∧ a < 256) (hb : 0 ≤ b ∧ b < 256) (h : UInt8.ofNat a.toNat = UInt8.ofNat b.toNat) : a = b := by
  have h2 := congrArg UInt8.toNat h;rw [UInt8.toNat_ofNat', UInt8.toNat_ofNat', Nat.mod_eq_of_lt (by omega), Nat.mod_eq_of_lt (by omega)] at h2;omega
theorem keyL_inj : ∀ (a b : List Int), (∀ x ∈ a, 0 ≤ x ∧ x < 65536) → (∀ x ∈ b, 0 ≤ x ∧ x < 65536) → ((keyL a).map fun n => UInt8.ofNat n.toNat) = ((keyL b).map fun n => UInt8.ofNat n.toNat) → a = b
  | [], [], _, _, _ => rfl
  | [], y :: b, _, _, h => by simp [keyL, keyOne] at h
  | x :: a, [], _, _, h => by simp [keyL, keyOne] at h
  | x :: a, y :: b, ha, hb, h => by
    have hx := ha x List.mem_cons_self
    have hy := hb y List.mem_cons_self
    have h' : (UInt8.ofNat (x / 256).toNat :: UInt8.ofNat (x % 256).toNat :: (keyL a).map fun n => UInt8.ofNat n.toNat) = (UInt8.ofNat (y / 256).toNat :: UInt8.ofNat (y % 256).toNat :: (keyL b).map fun n => UInt8.ofNat n.toNat) := h
    injection h' with h1 h2
    injection h2 with h2 h3
    have e1 := u8_inj (by omega) (by omega) h1
    have e2 := u8_inj (by omega) (by omega) h2
    have e3 := keyL_inj a b (fun z hz => ha z (List.mem_cons_of_mem _ hz)) (fun z hz => hb z (List.mem_cons_of_mem _ hz)) h3
    have : x = y := by omega
    rw [this, e3]
theorem t_key {t : List Int} (h : okT t) : keyOf Tryd.prog 9 (.string (strOfNums (keyL t))) = some (tk t) := by
  have hs : (strOfNums (keyL t)).size ≤ maxLen := by
    rw [sn_size, keyL_len];have := h.1;unfold maxLen;omega
  have hl := WideMaps.keyOf_string_mk (P := Tryd.prog) (k := 9) Tryd.underlying9 hs;unfold tk;rw [hl];rfl
theorem tk_inj {p q : List Int} (hp : okT p) (hq : okT q) (h : tk p = tk q) : p = q := by
  have := str_keyed.inj (t_key hp) (h ▸ t_key hq);injection this with this;refine keyL_inj p q hp.2 hq.2 ?_;rw [← sn_list, ← sn_list, this]
theorem tk_lit {p : List Int} (hp : okT p) : WideAt.IsKeyLit (tk p) := str_keyed.key (t_key hp)
structure KMap (D : DataW Unit) (S : List (List Int)) : Prop where
  has : ∀ p, okT p → Maps.has D (tk p) = decide (p ∈ S)
  atKey : ∀ p, okT p → p ∈ S → D.atKey (tk p) (.lit (.int .i64 0)) = .lit (.int .i64 (S.idxOf p : Nat))
theorem KMap.nil : KMap (.map []) [] := ⟨fun p _ => by simp [Maps.has], fun p _ h => by cases h⟩
theorem KMap.new {D : DataW Unit} (hT : Tidy D) {S : List (List Int)} (h : KMap D S) {p : List Int} (ok : okT p) (hp : p ∉ S) {c : Int} (hc : c = S.length) : KMap (D.put (tk p) (.lit (.int .i64 c))) (S ++ [p]) := by
  subst hc;refine ⟨fun q hq => ?_, fun q hq hm => ?_⟩
  · by_cases e : q = p
    · subst e;rw [Maps.has_put_same hT.isMap (tk_lit ok)];simp
    · rw [Maps.has_put_other (fun k => e (tk_inj hq ok k)), h.has q hq];simp [e]
  · by_cases e : q = p
    · subst e;rw [Maps.atKey_put_same hT.isMap (tk_lit ok), List.idxOf_append, if_neg hp];simp
    · have hql : q ∈ S := by
        rcases List.mem_append.1 hm with k | k
        · exact k
        · exact absurd (List.mem_singleton.1 k) e
      rw [Maps.atKey_put_other (fun k => e (tk_inj hq ok k)), h.atKey q hq hql, List.idxOf_append, if_pos hql]
def knS (S : List (List Int)) (t : List Int) : List (List Int) × Nat := if t ∈ S then (S, S.idxOf t) else (S ++ [t], S.length)
end Go.Proofs.YtfjemaeidmikmaaDoor
end
section
set_option linter.unusedVariables false
set_option linter.unusedSimpArgs false
namespace Go.Proofs.YtfjemaeidmikmaaDoorQ
open Go.RowKit Go.Proofs.YtfjemaeidmikmaaDoorW.PrintWords Go.Proofs.YtfjemaeidmikmaaDoorW.PrintLast Go.Proofs.YtfjemaeidmikmaaDoor
def stCells (s : St) : List Value := [.int .i64 s.f0, .int .i64 s.f1, .int .i64 s.f2, .int .u64 s.f3.f0, .int .u64 s.f3.f1, .int .u64 s.f3.f2, .int .u64 s.f3.f3]
def stV (s : St) : Value := .agg #[.int .i64 s.f0, .int .i64 s.f1, .int .i64 s.f2, .int .u64 s.f3.f0, .int .u64 s.f3.f1, .int .u64 s.f3.f2, .int .u64 s.f3.f3]
theorem stCells_length (s : St) : (stCells s).length = 7 := rfl
theorem stCells_one (s : St) : ∀ u ∈ stCells s, u.oneCell' = true := by
  intro u hu;simp only [stCells, List.mem_cons, List.not_mem_nil, or_false] at hu;rcases hu with rfl | rfl | rfl | rfl | rfl | rfl | rfl <;> rfl
theorem info_st : (Tryd.prog.info? 64).map (fun i => (i.zero, i.size, i.bytes)) = some (some (.agg #[.int .i64 0, .int .i64 0, .int .i64 0, .int .u64 0, .int .u64 0, .int .u64 0, .int .u64 0]), 7, 56) := by kernel_rfl
end Go.Proofs.YtfjemaeidmikmaaDoorQ
end
section
set_option linter.unusedVariables false
set_option linter.unusedSimpArgs false
namespace Go.Proofs.YtfjemaeidmikmaaDoor
open Go.RowKit Go.Proofs.Bs
set_option maxHeartbeats 800000 in
theorem first_any (A : Option Addr) (n c : Nat) (l : List Nd) (i : Int) (w : World) (h : Reads w 7 A n (l.flatMap Nd.cells)) (hn : n ≤ 140737488351232) :
    Calls Tryd.prog 66 #[.slice A n c, .int .i64 i] w fun e w' => e = .returned (.int .i64 (firstI l i)) ∧ w = w' := by
  have hl := h.length Nd.cells Nd.cells_length (by omega);by_cases h0 : i < 0
  · have HL := Lib.hid hl;clear hl;go_enter Tryd.func66, Tryd.ntmps66;go_wp2;go_ret;exact ⟨ret_int (by unfold firstI; rw [if_pos (by omega)]), rfl⟩
  by_cases h1 : (n : Int) ≤ i
  · have HL := Lib.hid hl;clear hl;go_enter Tryd.func66, Tryd.ntmps66;go_wp2;go_ret;exact ⟨ret_int (by unfold firstI; rw [if_pos (by rw [HL.out]; omega)]), rfl⟩
  obtain ⟨i0, rfl⟩ := Int.eq_ofNat_of_zero_le (show 0 ≤ i by omega);(have hi : i0 < n := by omega);(have hF : firstI l (i0 : Int) = scanDown l (i0 + 1) 1 := by unfold firstI; rw [if_neg (by rw [hl]; omega), Int.toNat_natCast]);have HF := Lib.hid hF;clear hF hl;go_enter Tryd.func66, Tryd.ntmps66;go_wp2;go_loop [1, 5] (fun i m => ∃ (k : Nat) (q : Int), k ≤ i0 + 1 ∧ ((k = 0 ∧ i = .int .i64 (-1)) ∨ ∃ j : Nat, k = j + 1 ∧ i = .int .i64 j) ∧ m = .int .i64 q ∧ 1 ≤ q ∧ q + k ≤ i0 + 2 ∧ scanDown l k q = scanDown l (i0 + 1) 1) (fun i _ => (intOf i + 1).toNat)
  case atStart => exact ⟨i0 + 1, 1, by omega, .inr ⟨i0, rfl, rfl⟩, rfl, by omega, by omega, rfl⟩
  case round =>
    obtain ⟨k, q, hk, hi', rfl, hq, hqk, hs⟩ := hrel;have HS := Lib.hid hs;clear hs;rcases hi' with ⟨hk0, rfl⟩ | ⟨j, hkj, rfl⟩
    · go_wp2;go_ret;subst hk0;exact ⟨ret_int (by rw [HF.out, ← HS.out]; rfl), rfl⟩
    · (have hjn : j < n := by omega);obtain ⟨ad, x, rfl, hx, c0, c1, c2, c3, c4, c5, c6⟩ := h.nd hjn;have HX := Lib.hid hx;have HK := Lib.hid hkj;clear hx hkj c1 c2 c3 c4 c5 c6;have a1 := arity_lo x.kind;have a2 := arity_hi x.kind;by_cases ha : arity x.kind < 0
      · go_wp2_with (go_at_call 49; refine (args_any _ _).mono ?_; rintro e w1 ⟨rfl, rfl⟩);go_ret;exact ⟨ret_int (by rw [HF.out, ← HS.out, HK.out, scan_step HX.out, if_pos ha]), rfl⟩
      · by_cases hz : q + (arity x.kind - 1) = 0
        · have HZ := Lib.hid hz;(have hz' : (q + (arity x.kind - 1) == 0) = true := by rw [beq_iff_eq]; exact hz);clear hz;go_wp2_with (go_at_call 49; refine (args_any _ _).mono ?_; rintro e w1 ⟨rfl, rfl⟩);go_ret;exact ⟨ret_int (by rw [HF.out, ← HS.out, HK.out, scan_step HX.out, if_neg (by omega), if_pos HZ.out]), rfl⟩
        · go_wp2_with (go_at_call 49; refine (args_any _ _).mono ?_; rintro e w1 ⟨rfl, rfl⟩);go_round
          case rel =>
            have hk' := HK.out;refine ⟨j, q + (arity x.kind - 1), by omega, ?_, rfl, by omega, by omega, ?_⟩
            · cases j with
              | zero => exact .inl ⟨rfl, by go_num⟩
              | succ j => exact .inr ⟨j, rfl, by go_num⟩
            · rw [← HS.out, hk', scan_step HX.out, if_neg (by omega), if_neg hz]
          case measure => simp [intOf] <;> omega
end Go.Proofs.YtfjemaeidmikmaaDoor
end
section
set_option linter.unusedVariables false
set_option linter.unusedSimpArgs false
namespace Go.Proofs.YtfjemaeidmikmaaDoor
open Go.RowKit Go.Proofs.Bs
set_option maxHeartbeats 800000 in
theorem rargs_any (k : Int) (w : World) : Calls Tryd.prog 47 #[.int .i64 k] w fun e w' => e = .returned (.int .i64 (arity k)) ∧ Below w.heap.size w w' := by
  by_cases h : 1 ≤ k ∧ k ≤ 7
  · rcases (show k = 1 ∨ k = 2 ∨ k = 3 ∨ k = 4 ∨ k = 5 ∨ k = 6 ∨ k = 7 by omega) with rfl | rfl | rfl | rfl | rfl | rfl | rfl
    all_goals
      go_enter Tryd.func47, Tryd.ntmps47
      go_wp2
      go_ret
      exact ⟨ret_int (by decide), bel_alloc (Below.refl _ _) _⟩
  · rcases (show k < 1 ∨ 7 < k by omega) with h1 | h1
    all_goals
      clear h
      go_enter Tryd.func47, Tryd.ntmps47
      go_wp2
      go_ret
      exact ⟨ret_int (by unfold arity; grind), bel_alloc (Below.refl _ _) _⟩
set_option maxHeartbeats 1600000 in
theorem rfirsts_any (A : Option Addr) (n c : Nat) (l : List Nd) (w : World) (h : Reads w 7 A n (l.flatMap Nd.cells)) (hn : n ≤ 1000000) :
    Calls Tryd.prog 31 #[.slice A n c] w fun e w' => ∃ A1 c1, e = .returned (.slice A1 n c1) ∧ w'.ownsRow w.heap.size 3 1 (.slice A1 n c1) n (ints (firstsTo l n)) ∧ Below w.heap.size w w' := by
  go_enter Tryd.func31, Tryd.ntmps31;go_wp2;go_loopw [3, 4, 5, 6] (fun o i f k wr => ∃ (A1 : Option Addr) (c1 q : Nat), o = .slice A1 q c1 ∧ wr.ownsRow w.heap.size 3 1 (.slice A1 q c1) q (ints (firstsTo l q)) ∧ i = .int .i64 q ∧ q ≤ n ∧ Below w.heap.size w wr) (fun _ i _ _ _ => n - (intOf i).toNat)
  case atStart => exact ⟨none, 0, 0, rfl, own_new, rfl, by omega, Below.refl _ _⟩
  case round =>
    obtain ⟨A1, c1, q, rfl, HO, rfl, hq, hb⟩ := hrel;by_cases hlt : q < n
    · obtain ⟨ad, x, rfl, hx, c0, c1, c2, c3, c4, c5, c6⟩ := (h.below hb).nd hlt;have HX := Lib.hid hx;clear hx c1 c2 c3 c4 c5 c6;have a1 := arity_lo x.kind;have a2 := arity_hi x.kind;go_wp2_with (go_at_call 47; refine (rargs_any _ _).mono ?_; rintro e w1 ⟨rfl, hb1⟩);have HO1 := own_below HO hb1;have c0' := cell_below hb1 c0;have hbb := bel_then hb hb1;have hr1 := (HO1.1 : (ints (firstsTo l q)).length = q * 1);have HR := Lib.hid hr1;clear hr1 HO hb1 c0 hb;go_loop [5, 6] (fun f k => ∃ fi kv : Int, f = .int .i64 fi ∧ k = .int .i64 kv ∧ -1 ≤ kv ∧ kv ≤ 2 ∧ -1 ≤ fi ∧ fi ≤ q ∧ popN (firstsTo l q) kv.toNat fi = popN (firstsTo l q) (arity x.kind).toNat q) (fun _ k => (intOf k).toNat)
      case atStart => exact ⟨q, arity x.kind, rfl, rfl, a1, a2, by omega, by omega, rfl⟩
      case round =>
        obtain ⟨fi, kv, rfl, rfl, hk0, hk1, hf0, hf1, hp⟩ := hrel;have HP := Lib.hid hp;clear hp
        have fin : (kv ≤ 0 ∨ fi < 0) → firstOf (firstsTo l q) q x = if arity x.kind < 0 then -1 else fi := by
          intro hx;unfold firstOf;rw [← HP.out];rcases hx with hx | hx
          · rw [show kv.toNat = 0 by omega]; rfl
          · rw [popN_neg _ _ _ hx]
        by_cases hk : 0 < kv
        · by_cases hf : 0 ≤ fi
          · rcases (show fi = 0 ∨ 0 < fi by omega) with rfl | hpos
            · go_wp2_with fail;go_round
              case rel =>
                refine ⟨-1, kv - 1, rfl, rfl, by omega, by omega, by omega, by omega, ?_⟩;rw [← HP.out, show kv.toNat = (kv - 1).toNat + 1 by omega, popN_step _ _ _ (by omega), if_pos rfl]
              case measure => simp [intOf] <;> omega
            · obtain ⟨j, rfl⟩ : ∃ j : Nat, fi = (j : Int) + 1 := ⟨(fi - 1).toNat, by omega⟩;obtain ⟨ad1, y, rfl, hy, cy⟩ := (Reads.of_own HO1).int (show j < q by omega);have hyr := firsts_range l q j y hy;have hy0 := hyr.1;have hy1 := hyr.2;have HY := Lib.hid hy;(have hz : ((j : Int) + 1 == 0) = false := by rw [beq_eq_false_iff_ne]; omega);clear hy hyr;go_wp2_with fail;go_round
              case rel =>
                refine ⟨y, kv - 1, rfl, rfl, by omega, by omega, by omega, by omega, ?_⟩;rw [← HP.out, show kv.toNat = (kv - 1).toNat + 1 by omega, popN_step _ _ _ (by omega), if_neg (by omega), show ((j : Int) + 1 - 1).toNat = j by omega, List.getD_eq_getElem?_getD, HY.out];rfl
              case measure => simp [intOf] <;> omega
          · have FI := Lib.hid (fin (.inr (by omega)));clear fin;by_cases ha : arity x.kind < 0
            all_goals
              go_wp2_with (first
                | (go_at_call 47; refine (rargs_any _ _).mono ?_; rintro e w2 ⟨rfl, hb2⟩; have HO2 := own_below HO1 hb2; have hbb2 := bel_then hbb hb2)
                | (at_builtin; refine app_lit rfl (.tmp 42) (.tmp 44) 27 rfl w.heap.size 3 Tryd.underlying27 info_int rfl (by omega) (by omega) _ q (ints (firstsTo l q)) rfl HO2 [.int .i64 _] 1 1 rfl rfl rfl (by omega) hbb2 (Nat.le_refl _) hbb2.size ?_; intro A3 c3 w3 HO3 hg3 hb3))
              go_roundw
              case rel =>
                refine ⟨A3, c3, q + 1, rfl, ?_, by go_num, by omega, hb3⟩;(have hg : l.getD q zNd = x := by rw [List.getD_eq_getElem?_getD, HX.out]; rfl);(have e3 : firstsTo l (q + 1) = firstsTo l q ++ [firstOf (firstsTo l q) q x] := by rw [firstsTo, hg]);rw [e3, FI.out];(first | rw [if_pos ha] | rw [if_neg (by omega)]);simpa [ints] using HO3
              case measure => simp [intOf] <;> omega
        · have FI := Lib.hid (fin (.inl (by omega)));clear fin;by_cases ha : arity x.kind < 0
          all_goals
            go_wp2_with (first
              | (go_at_call 47; refine (rargs_any _ _).mono ?_; rintro e w2 ⟨rfl, hb2⟩; have HO2 := own_below HO1 hb2; have hbb2 := bel_then hbb hb2)
              | (at_builtin; refine app_lit rfl (.tmp 42) (.tmp 44) 27 rfl w.heap.size 3 Tryd.underlying27 info_int rfl (by omega) (by omega) _ q (ints (firstsTo l q)) rfl HO2 [.int .i64 _] 1 1 rfl rfl rfl (by omega) hbb2 (Nat.le_refl _) hbb2.size ?_; intro A3 c3 w3 HO3 hg3 hb3))
            go_roundw
            case rel =>
              refine ⟨A3, c3, q + 1, rfl, ?_, by go_num, by omega, hb3⟩;(have hg : l.getD q zNd = x := by rw [List.getD_eq_getElem?_getD, HX.out]; rfl);(have e3 : firstsTo l (q + 1) = firstsTo l q ++ [firstOf (firstsTo l q) q x] := by rw [firstsTo, hg]);rw [e3, FI.out];(first | rw [if_pos ha] | rw [if_neg (by omega)]);simpa [ints] using HO3
            case measure => simp [intOf] <;> omega
    · go_wp2_with fail;go_ret;(obtain rfl : q = n := by omega);exact ⟨A1, _, rfl, HO, hb⟩
end Go.Proofs.YtfjemaeidmikmaaDoor
end
section
namespace Go.Proofs.YtfjemaeidmikmaaDoor
open Go.Proofs.Bs
theorem kind_cases {k : Int} (h : 0 ≤ arity k) : (k = 1 ∨ k = 2 ∨ k = 3 ∨ k = 4) ∧ arity k = 0 ∨ (k = 5 ∨ k = 6) ∧ arity k = 2 ∨ k = 7 ∧ arity k = 1 := by
  unfold arity at h ⊢;split at h
  · rename_i h1; exact .inl ⟨h1, by rw [if_pos h1]⟩
  · split at h
    · rename_i h7; subst h7; exact .inr (.inr ⟨rfl, rfl⟩)
    · split at h
      · rename_i h1 h2 h3;exact .inr (.inl ⟨h3, by rw [if_neg h1, if_neg h2, if_pos h3]⟩)
      · omega
theorem rep_fields {x : Nd} (hx : fieldsB x = true) (h7 : x.kind = 7) : 0 ≤ x.lo ∧ x.lo ≤ 32 ∧ (x.hi = -1 ∨ x.lo ≤ x.hi ∧ x.hi ≤ 32) := by
  unfold fieldsB at hx;split at hx
  · cases hx
  · rw [if_neg (by omega)] at hx;simpa using hx
theorem kidsP_length (l : List Nd) (i : Nat) (x : Nd) (hx : l[i]? = some x) (hf : 0 ≤ fst1 l i) : (kidsP l i).length = (arity x.kind).toNat := by
  rw [kidsP_eq l i _ hx hf, List.length_reverse, kidsDown_length]
def sumOf : List Int → Int → Int
  | [], m => m
  | d :: ds, m => sumOf ds (m + d)
def fSize (x : Nd) (ks : List Int) : Int :=
  min (if x.kind = 5 then sumOf ks 2 - 2 else if x.kind = 7 ∧ x.hi < 0 then 3 + (x.lo + 1) * ks.getD 0 0 else if x.kind = 7 then 2 + x.hi * ks.getD 0 0 + x.hi - x.lo else sumOf ks 2) 1048576
theorem fSize_leaf (x : Nd) (h : x.kind = 1 ∨ x.kind = 2 ∨ x.kind = 3 ∨ x.kind = 4) : fSize x [] = 2 := by
  unfold fSize sumOf;rw [if_neg (by omega), if_neg (by omega), if_neg (by omega)];rfl
theorem fSize_cat (x : Nd) (h : x.kind = 5) (a b : Int) : fSize x [a, b] = min (a + b) 1048576 := by
  unfold fSize;rw [if_pos h];simp only [sumOf];congr 1; omega
theorem fSize_or (x : Nd) (h : x.kind = 6) (a b : Int) : fSize x [a, b] = min (a + b + 2) 1048576 := by
  unfold fSize;rw [if_neg (by omega), if_neg (by omega), if_neg (by omega)];simp only [sumOf];congr 1; omega
theorem fSize_rep (x : Nd) (h : x.kind = 7) (a : Int) : fSize x [a] = min (if x.hi < 0 then 3 + (x.lo + 1) * a else 2 + x.hi * a + x.hi - x.lo) 1048576 := by
  unfold fSize;rw [if_neg (by omega)];by_cases hh : x.hi < 0
  · rw [if_pos ⟨h, hh⟩, if_pos hh]; rfl
  · rw [if_neg (fun k => hh k.2), if_pos h, if_neg hh]; rfl
theorem fSize_le (x : Nd) (ks : List Int) : fSize x ks ≤ 1048576 := by unfold fSize; omega
theorem attr_fSize_le (l : List Nd) (i : Nat) : attr fSize l i ≤ 1048576 := by rw [attr]; exact fSize_le _ _
theorem fSize_pos (x : Nd) (ks : List Int) (hx : fieldsB x = true) (ha : 0 ≤ arity x.kind) (hk : (ks.length : Int) = arity x.kind) (h : ∀ d ∈ ks, 1 ≤ d ∧ d ≤ 1048576) : 1 ≤ fSize x ks := by
  have hc : x.kind = 1 ∨ x.kind = 2 ∨ x.kind = 3 ∨ x.kind = 4 ∨ x.kind = 5 ∨ x.kind = 6 ∨ x.kind = 7 := by
    unfold arity at ha;split at ha
    · omega
    · split at ha
      · omega
      · split at ha
        · omega
        · omega
  rcases hc with e | e | e | e | e | e | e
  case inr.inr.inr.inr.inr.inr =>
    (have h1 : arity x.kind = 1 := by rw [e]; decide);rw [h1] at hk
    obtain ⟨a, rfl⟩ : ∃ a, ks = [a] := by
      match ks, hk with
      | [a], _ => exact ⟨a, rfl⟩
    rw [fSize_rep x e];have := h a (by simp)
    have hf : 0 ≤ x.lo ∧ x.lo ≤ 32 ∧ (x.hi = -1 ∨ x.lo ≤ x.hi ∧ x.hi ≤ 32) := by
      unfold fieldsB at hx;split at hx
      · cases hx
      · rw [if_neg (by omega)] at hx;simpa using hx
    split
    · have : 0 ≤ (x.lo + 1) * a := Int.mul_nonneg (by omega) (by omega);omega
    · have : 0 ≤ x.hi * a := Int.mul_nonneg (by omega) (by omega);omega
  all_goals
    have h1 := congrArg arity e
    rw [h1] at hk
    first
    | (obtain rfl : ks = [] := List.eq_nil_of_length_eq_zero (by have : ((ks.length : Nat) : Int) = 0 := hk; omega)
       rw [fSize_leaf x (by omega)]; omega)
    | (obtain ⟨a, b, rfl⟩ : ∃ a b, ks = [a, b] := by
         have h2 : ks.length = 2 := by have : ((ks.length : Nat) : Int) = 2 := hk; omega
         match ks, h2 with
         | [a, b], _ => exact ⟨a, b, rfl⟩
       have ha := h a (by simp)
       have hb := h b (by simp)
       first
       | (rw [fSize_cat x e]; omega)
       | (rw [fSize_or x e]; omega))
theorem size_bound (l : List Nd) (hr : rightB l = true) (i : Nat) : i < l.length → 1 ≤ attr fSize l i ∧ attr fSize l i ≤ 1048576 := by
  obtain ⟨_, hall, _⟩ := (rightB_iff l).1 hr
  induction i using Nat.strongRecOn with
  | ind i ih =>
    intro hi;refine ⟨?_, attr_fSize_le l i⟩;have hf := (hall i hi).1;have hx : l[i]? = some l[i] := List.getElem?_eq_getElem hi;(have hg : l.getD i zNd = l[i] := by rw [List.getD_eq_getElem?_getD, hx]; rfl);rw [attr_eq fSize l i hi hf];obtain ⟨ha, _⟩ := stack_room l hr i _ hx;refine fSize_pos _ _ (hall i hi).2 (by rw [hg]; exact ha) ?_ ?_
    · rw [hg, List.length_map, kidsP_eq l i _ hx hf, List.length_reverse, kidsDown_length]; omega
    · intro d hd;obtain ⟨y, hy, rfl⟩ := List.mem_map.1 hd;have := kidsP_ok l i hi hf y hy;exact ih y.toNat (by omega) (by omega)
end Go.Proofs.YtfjemaeidmikmaaDoor
end
section
set_option linter.unusedVariables false
set_option linter.unusedSimpArgs false
namespace Go.Proofs.YtfjemaeidmikmaaDoorQ
open Go.ChangeShapes Go.WideShapes Go.ChangeAt Go.RowKit Go.Deep Go.Proofs.YtfjemaeidmikmaaDoor Go.Proofs.Bs
open Go.Proofs.YtfjemaeidmikmaaDoorW.PrintWords (Kd)
section
variable {H : Type} {enc : TypeId × Value → H} {w : World} {base : Nat} {spare : Nat → Bool} {held : Bool}
theorem kcellsNode : Tryd.prog.cellsOf 71 = 7 := by kernel_rfl
def ndCells (x : NdI) : List Value := [.int .i64 x.f0, .int .u64 x.f1.f0, .int .u64 x.f1.f1, .int .u64 x.f1.f2, .int .u64 x.f1.f3, .int .i64 x.f2, .int .i64 x.f3]
set_option maxRecDepth 100000 in
theorem open_nd {fuel : Nat} {cs : List Value} {x : DataW H × List MemPlace} (h : DataW.trod enc Tryd.prog w base spare held fuel 71 cs = some x) : ∃ n : NdI, cs = ndCells n ∧ ndWf n := by
  obtain ⟨xs, m, _, _, hlen, hxl, hf⟩ := DataW.trod_struct Tryd.underlying71 h;rw [kcellsNode] at hlen;have hxl : xs.length = 4 := hxl
  match cs, hlen, xs, hxl with
  | [c0, c1, c2, c3, c4, c5, c6], _, [x0, x1, x2, x3], _ =>
    have h0 := hf 0 _ rfl;have h1 := hf 1 _ rfl;have h2 := hf 2 _ rfl;have h3 := hf 3 _ rfl;simp [cellsInt] at h0;simp [kcellsSet] at h1;simp [cellsInt] at h2;simp [cellsInt] at h3;obtain ⟨k, hk, k0, k1⟩ := open_i64 h0;obtain ⟨s, hs, hse⟩ := kopen_set h1;obtain ⟨a, ha, l0, l1⟩ := open_i64 h2;obtain ⟨b, hb, q0, q1⟩ := open_i64 h3;(obtain rfl : c0 = .int .i64 k := by simpa using hk);(obtain rfl : c5 = .int .i64 a := by simpa using ha);(obtain rfl : c6 = .int .i64 b := by simpa using hb);(obtain ⟨rfl, rfl, rfl, rfl⟩ : c1 = .int .u64 s.f0 ∧ c2 = .int .u64 s.f1 ∧ c3 = .int .u64 s.f2 ∧ c4 = .int .u64 s.f3 := by simpa using hse);exact ⟨⟨k, s, a, b⟩, rfl, hs⟩
theorem open_knodes {A : Option Addr} {len cap : Nat} {d : DataW H} {ps : List MemPlace} (h : DataW.Trod enc Tryd.prog w base spare held 39 (.slice A len cap) d ps) :
    ∃ l : List NdI, l.length = len ∧ Kd.C k71 w A len l ∧ len ≤ cap ∧ ndsWf l = true := by
  obtain ⟨l, hr, hl, hok, _⟩ := open_list ndCells ndWf (fun _ => rfl) ⟨0, ⟨0, 0, 0, 0⟩, 0, 0⟩ Tryd.underlying39 kcellsNode open_nd h;have hC := kC_of (size := 7) k71 ndCells rfl (fun _ => rfl) (fun x => k71_mk w x) (by omega) hr (kslice_le Tryd.underlying39 h);exact ⟨l, hC.1, hC, hl, List.all_eq_true.2 fun x hx => decide_eq_true (hok x hx)⟩
end
end Go.Proofs.YtfjemaeidmikmaaDoorQ
end
section
namespace Go.Proofs.YtfjemaeidmikmaaDoorQ
open Go.RowKit Go.Proofs.YtfjemaeidmikmaaDoorW.PrintWords Go.Proofs.YtfjemaeidmikmaaDoorW.PrintLast Go.Proofs.YtfjemaeidmikmaaDoorW.PrintMore
attribute [local go_sem] max2_int min2_int max_two min_two max_three min_three max_four min_four
set_option linter.unusedVariables false
set_option linter.unusedSimpArgs false
def tattingref07_Even.l0 : Nat → Int → List (List Bool) → Int → Option ((List (List Bool)))
 | 0, _, _, _ => none
 | k + 1, x0, x3, x4 => if x4 ≤ x0 then (if 0 ≤ x4 then (if x4 < (x3.length : Int) then (if x4 < ((rd_L10 x3 x4).length : Int) then (tattingref07_Even.l0 k x0 (x3.set (x4 : Int).toNat ((rd_L10 x3 x4).set (x4 : Int).toNat true)) (wrap64 (x4 + 1))) else (none)) else (none)) else (none)) else (some x3)
def tattingref07_Even.f (k : Nat) (a0 : Int) : Option ((List (List Bool))) := (tattingref07_grid.f k a0).bind fun t101 => (tattingref07_Even.l0 k a0 t101 0)
theorem tat07Eveen_t0 {P : Prop} (h : P := by first | (with_reducible assumption) | assumption) : P := h
set_option maxHeartbeats 8000000 in
set_option maxRecDepth 100000 in
theorem tattingref07_Even.calls (k : Nat) (a0 : Int) (r : List (List Bool)) (w : World) (h : tattingref07_Even.f k a0 = some r) :
  Calls Tryd.prog 57 #[.int .i64 a0] w fun e w' => ∃ v0_ : Value, e = .returned (v0_) ∧ Kd.S (Kd.slice 4 Kd.bool) 28 w' w.heap.size (fun _ => True) v0_ r ∧ Below w.heap.size w w' := by
 have HB := Aside0.mk (Below.refl w.heap.size w);have H : ((tattingref07_grid.f k a0).bind fun t101 => (tattingref07_Even.l0 k a0 t101 0)) = some r := h;clear h;replace H := Option.bind_eq_some_iff.mp H;obtain ⟨t101, A20, H⟩ := H;replace H : (tattingref07_Even.l0 k a0 t101 0) = some r := H;have A2 := Aside0.mk A20;clear A20;have H' := Aside0.mk H;clear H;go_enter Tryd.func57, Tryd.ntmps57;go_wp2_with (first | ((with_reducible refine gate_callee (f := 56) rfl ?_); refine goesL_ (some 6) rfl rfl Tryd.func56 (by kernel_rfl) rfl #[.int .i64 a0] rfl (by (try simp only [List.map_toArray, List.map_cons, List.map_nil]); first | done | rfl | (simp only [List.length_drop, List.length_take]; rfl)) ?_; (with_reducible refine (tattingref07_grid.calls k a0 t101 _ A2.out).mono ?_); rintro e w3 ⟨v102, rfl, ho0, hb⟩; refine ⟨_, rfl, ?_⟩; have n0_ := Aside0.mk (Kd.S_lower ho0 (below_size (by repeat (first | (with_reducible first | exact HB.out | apply below_alloc | apply pw_below_drewN | apply below_drew1) | exact HB.out)))); have n1_ := Aside0.mk (below_step (by repeat (first | (with_reducible first | exact HB.out | apply below_alloc | apply pw_below_drewN | apply below_drew1) | exact HB.out)) hb); clear HB; have HO103 := n0_; have HB := n1_; clear n0_ n1_; (try clear hb); (try clear hb2); (try clear hk); (try clear hi); (try clear ho0)));go_loopg [4] k (fun kq v4 w' => ∃ (x3_1 : List (List Bool)) (x4_1 : Int), v4 = .int .i64 x4_1 ∧ Aside0 (tattingref07_Even.l0 kq a0 x3_1 x4_1 = some r) ∧ Aside0 (kq ≤ k) ∧ Aside0 (Kd.S (Kd.slice 4 Kd.bool) 28 w' w.heap.size (fun _ => True) v102 x3_1) ∧ Aside0 (Below w.heap.size w w'))
 case atStart => exact ⟨(t101), (0), (by first | rfl | (simp; done) | (simp [*]; done)), H', ⟨Nat.le_refl _⟩, ⟨by (with_reducible repeat (first | apply Kd.S_alloc | apply Kd.S_drewN | apply Kd.S_drew)); exact HO103.out⟩, ⟨by repeat (first | (with_reducible first | exact HB.out | apply below_alloc | apply pw_below_drewN | apply below_drew1) | exact HB.out)⟩⟩
 case round =>
  clear H';(try clear p2);obtain ⟨x3_1, x4_1, rfl, HA, HK1, HO_3, HB⟩ := hrel
  cases gk with
  | zero => exact absurd HA.out (by simp [tattingref07_Even.l0])
  | succ k1 =>
   have H := HA.out;clear HA;simp only [tattingref07_Even.l0] at H;by_cases c4 : x4_1 ≤ a0
   ·rw [if_pos c4] at H;have c4b0 := decide_eq_true c4;clear c4;by_cases c5 : 0 ≤ x4_1
    ·rw [if_pos c5] at H;have c5b0 := decide_eq_true c5;clear c5;by_cases c6 : x4_1 < (x3_1.length : Int)
     ·rw [if_pos c6] at H;have c6b0 := decide_eq_true c6;clear c6;by_cases c7 : x4_1 < ((rd_L10 x3_1 x4_1).length : Int)
      ·rw [if_pos c7] at H;have c7b0 := decide_eq_true c7;clear c7;obtain ⟨y105, hy105⟩ : ∃ y_ : List Bool, y_ = ((rd_L10 x3_1 x4_1).set (x4_1 : Int).toNat true) := ⟨_, rfl⟩;(replace H : (tattingref07_Even.l0 k1 a0 (x3_1.set (x4_1 : Int).toNat y105) (wrap64 (x4_1 + 1))) = some r := by first | (rw [hy105]; with_reducible exact H) | (have H2_ := (Option.bind_some _ _).symm.trans H; rw [hy105]; with_reducible exact H2_) | (have H2_ := (Option.bind_some _ _).symm.trans H; with_reducible exact H2_) | with_reducible exact H | (rw [hy105]; exact H) | exact H);have Ny105 := Aside0.mk hy105;clear hy105;obtain ⟨y107, hy107⟩ : ∃ y_ : List (List Bool), y_ = (x3_1.set (x4_1 : Int).toNat y105) := ⟨_, rfl⟩;(replace H : (tattingref07_Even.l0 k1 a0 y107 (wrap64 (x4_1 + 1))) = some r := by first | (rw [hy107]; with_reducible exact H) | (have H2_ := (Option.bind_some _ _).symm.trans H; rw [hy107]; with_reducible exact H2_) | (have H2_ := (Option.bind_some _ _).symm.trans H; with_reducible exact H2_) | with_reducible exact H | (rw [hy107]; exact H) | exact H);have Ny107 := Aside0.mk hy107;clear hy107;have H' := Aside0.mk H;clear H;obtain ⟨Ao9, co9, eo9⟩ := Kd.S_slice HO_3.out;subst eo9;have p104 : 0 ≤ (x4_1 : Int) := of_decide_eq_true tat07Eveen_t0;have q104 : x4_1 < (x3_1.length : Int) := of_decide_eq_true tat07Eveen_t0;obtain ⟨ad104, A104_0, c104_0, e104, hx104_0, hl104_0, hi104_0⟩ := at_L10 (Kd.S_reads' HO_3.out).2.2 x4_1 p104 q104;cases e104;obtain ⟨ce104, hce104, hMe104, hcc104⟩ := Kd.S_get HO_3.out [] x4_1 p104 (by first | exact q104 | exact of_decide_eq_true tat07Eveen_t0 | (have e_ := (Kd.S_reads' HO_3.out).1; omega));obtain ⟨ve104_0, rfl, ge104_0⟩ := hMe104;have hv104_0 := hcc104 0 _ rfl;rw [Nat.add_zero, show ((Kd.slice 4 Kd.bool)).sz = 1 from rfl, Nat.mul_one] at hv104_0;replace hv104_0 := Option.some.inj (hv104_0.symm.trans hx104_0);rw [hv104_0] at ge104_0;have HL104_0 := Aside0.mk (show Kd.R Kd.bool 4 _ _ _ _ (rd_L10 x3_1 x4_1) from ge104_0);clear hv104_0 ge104_0;have HX104_0 := Aside0.mk hx104_0;clear hcc104 hce104;have HR104_0 := Aside0.mk hi104_0;have HC104_0 := Aside0.mk hl104_0;clear hi104_0 hl104_0;replace p104 := eq_true p104;replace q104 := eq_true q104;have p8 : 0 ≤ (x4_1 : Int) := of_decide_eq_true tat07Eveen_t0;have q8 : (x4_1 : Int) < (((rd_L10 x3_1 x4_1).length : Int) : Int) := of_decide_eq_true tat07Eveen_t0;obtain ⟨go8, co8, eo8, gb8, gl8, cl8, HG8⟩ := Kd.R_form HL104_0.out (by omega);(first | cases eo8 | (injection eo8 with ea_ en_ ec_; (first | subst ea_ | (injection ea_ with ea_; subst ea_)); subst ec_; clear en_));have GB8 := Aside0.mk gb8;have GG8 := Aside0.mk HG8;clear gb8 gl8 HG8;obtain ⟨hx8_0, hf8_0⟩ := Kd.R_celln false HL104_0.out (x4_1 : Int) p8 q8;replace p8 := eq_true p8;replace q8 := eq_true q8;have hq10 : (x4_1 : Int) < (x3_1.length : Int) := (by have h_ : (x4_1 : Int) < ((x3_1.length : Int) : Int) := of_decide_eq_true tat07Eveen_t0; first | exact h_ | (have e_ := (Kd.S_reads' HO_3.out).1; omega) | simpa only [List.length_set, List.length_set] using h_);obtain ⟨oki10, ce10, hcl10, hM10, hcc10, hok10, hbk10⟩ := Kd.S_borrow HO_3.out [] (x4_1 : Int) (of_decide_eq_true tat07Eveen_t0) hq10;obtain ⟨ve10_0, rfl, ge10_0⟩ := hM10;have hv10 := hcc10 0 _ rfl;rw [Nat.add_zero, show ((Kd.slice 4 Kd.bool)).sz = 1 from rfl, Nat.mul_one] at hv10;replace hv10 := Option.some.inj (hv10.symm.trans HX104_0.out);subst hv10;clear hcc10 hcl10;replace ge10_0 := (show Kd.R Kd.bool 4 _ _ _ _ (rd_L10 x3_1 x4_1) from ge10_0);have HP10 := Kd.R_putg ge10_0 (x4_1 : Int) true;go_wp2_with (first | ((with_reducible refine gate_store (t := 4) (p := 17) rfl ?_); refine store_event (t := 4) (p := 17) (v := ?vo_w11) (w1 := (wr.setCell ⟨go8, (x4_1 : Int).toNat, none⟩ (.bool true))) ?hg ?ho ?hn ?hr ?_; (case ho => rfl); (case hg => rfl); (case hn => rfl); (case hr => first | (go_simp; done) | (go_simp; rfl)); intro w11 hw; have hg : wr.grownBy w11 (some go8) := (by rw [hw]; exact HP10.2); have hz_ : Kd.R Kd.bool 4 w11 w.heap.size oki10 (.slice (some ⟨go8, 0, none⟩) (rd_L10 x3_1 x4_1).length c104_0) y105 := (by rw [hw, Ny105.out]; exact HP10.1); have hp_ : Kd.S (Kd.slice 4 Kd.bool) 28 w11 w.heap.size (fun _ => True) (.slice (some ad104) x3_1.length co9) y107 := (by rw [Ny107.out]; exact hbk10 hg (fun k_ e_ => by injection e_ with e_; subst e_; exact ge10_0.1 _ rfl) (Kd.M_row hz_)); have hm_ := Kd.R_mono hz_ hok10; clear HP10 hbk10; have n0_ := Aside0.mk (hp_); have n1_ := Aside0.mk ((by rw [hw]; exact below_set (HB.out) GB8.out : Below w.heap.size w w11)); have n2_ := Aside0.mk (hm_); have n3_ := Aside0.mk ((Kd.R_reads' hm_).2.1); clear HO_3; clear HB; clear HL104_0; have HO_3 := n0_; have HB := n1_; have HL108 := n2_; have HC106 := n3_; clear n0_ n1_ n2_ n3_; clear hg hw hp_ hz_ hm_ hok10));go_roundg k1
       case measure => have := HK1.out; omega
       case rel => exact ⟨(y107), (wrap64 (x4_1 + 1)), (by first | rfl | (simp; done) | (simp [*]; done)), H', ⟨by have := HK1.out; omega⟩, ⟨by (with_reducible repeat (first | apply Kd.S_alloc | apply Kd.S_drewN | apply Kd.S_drew)); exact HO_3.out⟩, ⟨by repeat (first | (with_reducible first | exact HB.out | apply below_alloc | apply pw_below_drewN | apply below_drew1) | exact HB.out)⟩⟩
      ·rw [if_neg c7] at H;exact absurd H (by simp)
     ·rw [if_neg c6] at H;exact absurd H (by simp)
    ·rw [if_neg c5] at H;exact absurd H (by simp)
   ·rw [if_neg c4] at H;have c4b0 := decide_eq_false c4;clear c4;obtain rfl := Option.some.inj H;go_wp2;go_ret;exact ⟨_, by first | rfl | (simp [errW_none, errW_some] <;> rfl) | (simp [*, errW_none, errW_some] <;> rfl), by (with_reducible repeat (first | apply Kd.S_alloc | apply Kd.S_drewN | apply Kd.S_drew)); exact HO_3.out, by repeat (first | (with_reducible first | exact HB.out | apply below_alloc | apply pw_below_drewN | apply below_drew1) | exact HB.out)⟩
end Go.Proofs.YtfjemaeidmikmaaDoorQ
end
section
set_option linter.unusedVariables false
set_option linter.unusedSimpArgs false
namespace Go.Proofs.YtfjemaeidmikmaaDoorQ
open Go.RowKit Go.Proofs.YtfjemaeidmikmaaDoor Go.Proofs.YtfjemaeidmikmaaDoorW.PrintWords
theorem reads_of_C {w : World} {A : Option Addr} {l : List Int} (h : Kd.C (Kd.int .i64) w A l.length l) : Reads w 1 A l.length (ints l) := by
  refine ⟨by simp [ints], fun hp => ?_⟩;obtain ⟨ad, rfl, _⟩ := Kd.at_int h ((0 : Nat) : Int) (by omega) (by omega);refine ⟨ad, rfl, fun j u hu => ?_⟩
  have hj : j < l.length := by
    have := (List.getElem?_eq_some_iff.1 hu).1;simpa [ints] using this
  obtain ⟨ad', e, hx⟩ := Kd.at_int h (j : Int) (by omega) (by omega);injection e with e;subst e;rw [Int.toNat_natCast] at hx;rw [hx]
  have : (ints l)[j]? = some (.int .i64 (rd l j)) := by
    simp [ints, rd, List.getD_eq_getElem?_getD, List.getElem?_eq_getElem hj]
  rw [this] at hu;exact hu
def inI (l : List Int) : Bool := l.all fun x => decide (-9223372036854775808 ≤ x) && decide (x ≤ 9223372036854775807)
theorem inI_at {l : List Int} (h : inI l = true) {x : Int} (hx : x ∈ l) : -9223372036854775808 ≤ x ∧ x ≤ 9223372036854775807 := by
  have := List.all_eq_true.1 h x hx;simpa using this
def joinN (a b : List Int) : List Nat × Nat := ((Al.run (a.zip b)).2, (Al.run (a.zip b)).1.length)
def alpha_Join.f (l0 l1 : List Int) : Option (List Int × Int) := if l0.length ≤ 1000000 ∧ l1.length ≤ 1000000 ∧ inI l0 = true ∧ inI l1 = true then (if l0.length = l1.length then some ((joinN l0 l1).1.map Int.ofNat, ((joinN l0 l1).2 : Int)) else some ([], 0)) else none
theorem alpha_Join.calls (A0 : Option Addr) (c0 : Nat) (l0 : List Int) (A1 : Option Addr) (c1 : Nat) (l1 : List Int) (r1 : List Int) (r2 : Int) (w : World) (hr0 : Kd.C (Kd.int .i64) w A0 l0.length l0) (hc0 : l0.length ≤ c0) (hr1 : Kd.C (Kd.int .i64) w A1 l1.length l1) (hc1 : l1.length ≤ c1) (h : alpha_Join.f l0 l1 = some (r1, r2)) :
    Calls Tryd.prog 38 #[.slice A0 l0.length c0, .slice A1 l1.length c1] w fun e w' => ∃ v0_ : Value, e = .returned (.tuple #[v0_, .int .i64 r2]) ∧ Kd.R (Kd.int .i64) 3 w' w.heap.size (fun _ => True) v0_ r1 ∧ Below w.heap.size w w' := by
  unfold alpha_Join.f at h;split at h
  case isFalse => cases h
  case isTrue c =>
    obtain ⟨n0, n1, i0, i1⟩ := c;split at h
    case isTrue e =>
      injection h with h;injection h with e1 e2;subst e1 e2;have f1 : (l0.zip l1).map Prod.fst = l0 := List.map_fst_zip (by omega);have f2 : (l0.zip l1).map Prod.snd = l1 := List.map_snd_zip (by omega);have g0 := reads_of_C hr0;have g1 := reads_of_C hr1;rw [← e] at g1;have hl : l1.length = l0.length := e.symm;rw [hl];refine (ajoin_any A0 A1 l0.length c0 c1 (l0.zip l1) w (by rw [f1]; exact g0) (by rw [f2]; exact g1) n0 (fun p hp => ?_)).mono ?_
      · have h1 := inI_at i0 (x := p.1) (by rw [← f1]; exact List.mem_map_of_mem hp);have h2 := inI_at i1 (x := p.2) (by rw [← f2]; exact List.mem_map_of_mem hp);exact ⟨WalkArith.wf_i64 h1, WalkArith.wf_i64 h2⟩
      · rintro e w' ⟨A2, c2, rfl, ho, hb⟩;refine ⟨_, rfl, Kd.R_of_own (enc := Value.int .i64) (h1 := fun _ => rfl) ?_ (fun _ _ => trivial), hb⟩
        have hlen : (joinN l0 l1).1.length = l0.length := by
          unfold joinN;rw [Al.run_len, List.length_zip];omega
        rw [List.length_map, hlen];exact ho
    case isFalse e =>
      injection h with h;injection h with e1 e2;subst e1 e2;refine (ajoin_ne A0 A1 l0.length l1.length c0 c1 w n0 n1 e).mono ?_;rintro e w' ⟨rfl, hb⟩;exact ⟨_, rfl, Kd.R_of_own (enc := Value.int .i64) (h1 := fun _ => rfl) ⟨rfl, .inl ⟨rfl, rfl⟩⟩ (fun _ _ => trivial), hb⟩
end Go.Proofs.YtfjemaeidmikmaaDoorQ
end
section
set_option linter.unusedVariables false
set_option linter.unusedSimpArgs false
namespace Go.Proofs.YtfjemaeidmikmaaDoorQ
open Go.RowKit Go.Proofs.Bs Go.Proofs.YtfjemaeidmikmaaDoor
theorem odd_part (x : Nat) (h : x ≠ 0) : ∃ k m, x = 2 ^ k * (2 * m + 1) := by
  induction x using Nat.strongRecOn with
  | _ x ih =>
    by_cases hx : x % 2 = 1
    · exact ⟨0, x / 2, by omega⟩
    · obtain ⟨k, m, e⟩ := ih (x / 2) (by omega) (by omega)
      exact ⟨k + 1, m, by rw [Nat.pow_succ]; have : x = 2 * (x / 2) := by omega
                          rw [this, e, Nat.mul_comm (2 ^ k) 2, Nat.mul_assoc]⟩
theorem odd_lt {x k m : Nat} (h : x = 2 ^ k * (2 * m + 1)) (hx : x < W) : k < 64 := by
  rcases Nat.lt_or_ge k 64 with h1 | h1
  · exact h1
  · have h2 : (2 : Nat) ^ 64 ≤ 2 ^ k := Nat.pow_le_pow_right (by decide) h1;have h3 : 2 ^ k * 1 ≤ 2 ^ k * (2 * m + 1) := Nat.mul_le_mul_left _ (by omega);rw [W_eq] at hx;omega
theorem low_one (x k m : Nat) (h : x = 2 ^ k * (2 * m + 1)) (hx : x < W) : x &&& (18446744073709551616 - x) = 2 ^ k := by
  have hk := odd_lt h hx;have hp : 0 < 2 ^ k := Nat.two_pow_pos k;(have h1 : 1 ≤ x := by rw [h]; exact Nat.mul_pos hp (by omega));(have e : 18446744073709551616 - x = 18446744073709551615 - (x - 1) := by omega);(have hx1 : x - 1 < W := by omega);(have e1 : x - 1 = 2 ^ k * (2 * m) + (2 ^ k - 1) := by rw [h, Nat.mul_add, Nat.mul_one]; omega);(have hlt : 18446744073709551616 - x < 18446744073709551616 := by omega);apply Nat.eq_of_testBit_eq;intro i;rw [Nat.testBit_and, Nat.testBit_two_pow];by_cases hi : i < 64
  · rw [e, testBit_compl hx1 i hi, e1, Nat.testBit_two_pow_mul_add _ (by omega), h, low_bits];by_cases c : i < k
    · simp [show ¬ k ≤ i by omega, show ¬ k = i by omega]
    · rw [if_neg c];by_cases c2 : i = k
      · subst c2;simp
      · obtain ⟨d, rfl⟩ : ∃ d, i = k + 1 + d := ⟨i - (k + 1), by omega⟩;rw [show k + 1 + d - k = d + 1 by omega, Nat.testBit_succ, Nat.testBit_succ, show (2 * m + 1) / 2 = m by omega, show 2 * m / 2 = m by omega];simp [show ¬ k = k + 1 + d by omega]
  · have hp : (2 : Nat) ^ 64 ≤ 2 ^ i := Nat.pow_le_pow_right (by decide) (by omega);rw [Nat.testBit_lt_two_pow (show 18446744073709551616 - x < 2 ^ i by omega), Bool.and_false];simp; omega
theorem tab_all : ∀ k : Fin 64, deTab.getD (2 ^ k.val * 285870213051353865 % 18446744073709551616 / 288230376151711744) 0 = (k.val : Int) := by decide +kernel
set_option maxRecDepth 100000 in
theorem trail_walk (x k m : Nat) (h : x = 2 ^ k * (2 * m + 1)) (hx : x < W) (w : World) (hG : TabG w) : Calls Tryd.prog 60 #[.int .u64 x] w fun e w' => e = .returned (.int .i64 k) ∧ w = w' := by
  have hk := odd_lt h hx;have hx' : x < 18446744073709551616 := hx
  have h0 : ((x : Int) == 0) = false := by
    have hp : 0 < 2 ^ k := Nat.two_pow_pos k;(have h1 : 1 ≤ x := by rw [h]; exact Nat.mul_pos hp (by omega));simp; omega
  have hpk : 2 ^ k < 18446744073709551616 := Nat.lt_of_lt_of_le (Nat.pow_lt_pow_right (by decide) hk) (by decide);obtain ⟨j, hj⟩ : ∃ j, j = 2 ^ k * 285870213051353865 % 18446744073709551616 / 288230376151711744 := ⟨_, rfl⟩;(have hj64 : j < 64 := by omega);have ht := tab_all ⟨k, hk⟩;simp only at ht;rw [← hj] at ht
  have e1 : IntKind.u64.wrap (-(x : Int)) = ((18446744073709551616 - x : Nat) : Int) := by
    rw [IntKind.wrap_u64];simp at h0;omega
  have e2 : bits .and .u64 (x : Int) (IntKind.u64.wrap (-(x : Int))) = ((2 ^ k : Nat) : Int) := by
    simp at h0;rw [e1, u64_and_nat x _ hx' (by omega), low_one x k m h hx]
  have e3 : IntKind.u64.wrap (bits .and .u64 (x : Int) (IntKind.u64.wrap (-(x : Int))) * 285870213051353865) / 288230376151711744 = (j : Int) := by
    rw [e2, IntKind.wrap_u64, hj, show ((2 ^ k : Nat) : Int) * 285870213051353865 = ((2 ^ k * 285870213051353865 : Nat) : Int) by simp];generalize 2 ^ k * 285870213051353865 = q;omega
  have hc := hG.tab j hj64;rw [ht] at hc;(have hw : wrap64 (k : Int) = k := by unfold wrap64; omega);clear e1 e2 hj ht hpk h;go_enter Tryd.func60, Tryd.ntmps60;go_wp2;go_ret;exact ⟨rfl, rfl⟩
end Go.Proofs.YtfjemaeidmikmaaDoorQ
end
section
set_option linter.unusedVariables false
set_option linter.unusedSimpArgs false
namespace Go.Proofs.YtfjemaeidmikmaaDoorQ
open Go.RowKit Go.Proofs.Bs
theorem rhas_walk (s : S) (hs : s.wf) (b : Int) (h0 : 0 ≤ b) (h1 : b < 256) (w : World) : Calls Tryd.prog 45 #[.agg #[.int .u64 s.a, .int .u64 s.b, .int .u64 s.c, .int .u64 s.d], .int .i64 b] w fun e w' => e = .returned (.bool (has s b.toNat)) ∧ Below w.heap.size w w' := by
  rcases (show b / 64 = (0 : Nat) ∨ b / 64 = (1 : Nat) ∨ b / 64 = (2 : Nat) ∨ b / 64 = (3 : Nat) by omega) with hq | hq | hq | hq
  all_goals
    have H := Lib.hid (has_at s hs b h0 _ hq)
    go_enter Tryd.func45, Tryd.ntmps45
    go_wp2
    go_ret
    exact ⟨ret_has H.out, (Below.refl _ _).alloc (Nat.le_refl _) _⟩
def tattingref01_Has.f (a0_0 a0_1 a0_2 a0_3 a1 : Int) : Option Bool := if wfI a0_0 a0_1 a0_2 a0_3 ∧ 0 ≤ a1 ∧ a1 < 256 then some (has (setI a0_0 a0_1 a0_2 a0_3) a1.toNat) else none
theorem tattingref01_Has.calls (a0_0 a0_1 a0_2 a0_3 : Int) (a1 : Int) (r : Bool) (w : World) (h : tattingref01_Has.f a0_0 a0_1 a0_2 a0_3 a1 = some r) :
    Calls Tryd.prog 45 #[.agg #[.int .u64 a0_0, .int .u64 a0_1, .int .u64 a0_2, .int .u64 a0_3], .int .i64 a1] w fun e w' => e = .returned (.bool r) ∧ Below w.heap.size w w' := by
  unfold tattingref01_Has.f at h;split at h
  case isFalse => cases h
  case isTrue c =>
    injection h with h;subst h;obtain ⟨e0, e1, e2, e3⟩ := setI_cast c.1;have hw := rhas_walk (setI a0_0 a0_1 a0_2 a0_3) (setI_wf c.1) a1 c.2.1 c.2.2 w;rw [e0, e1, e2, e3] at hw;exact hw
end Go.Proofs.YtfjemaeidmikmaaDoorQ
end
section
set_option linter.unusedVariables false
set_option linter.unusedSimpArgs false
namespace Go.Proofs.YtfjemaeidmikmaaDoor
open Go.RowKit Go.Proofs.Bs
set_option maxHeartbeats 800000 in
theorem rev_two (g c : Nat) (x y : Int) (w : World) (hx : w.cell? ⟨g, 0, none⟩ = some (.int .i64 x)) (hy : w.cell? ⟨g, 1, none⟩ = some (.int .i64 y)) (fx : w.frozen? ⟨g, 0, none⟩ = false) (fy : w.frozen? ⟨g, 1, none⟩ = false) :
    Calls Tryd.prog 67 #[.slice (some ⟨g, 0, none⟩) 2 c] w fun e w' => e = .returned (.tuple #[]) ∧ SameAs ((w.setCell ⟨g, 0, none⟩ (.int .i64 y)).setCell ⟨g, 1, none⟩ (.int .i64 x)) w' := by
  go_enter Tryd.func67, Tryd.ntmps67;go_wp2;go_loopw [2, 3] (fun i j wr => (i = .int .i64 0 ∧ j = .int .i64 1 ∧ wr = w) ∨ (i = .int .i64 1 ∧ j = .int .i64 0 ∧ SameAs ((w.setCell ⟨g, 0, none⟩ (.int .i64 y)).setCell ⟨g, 1, none⟩ (.int .i64 x)) wr)) (fun i _ _ => (1 - intOf i).toNat)
  case atStart => exact .inl ⟨rfl, rfl, rfl⟩
  case round =>
    rcases hrel with ⟨rfl, rfl, rfl⟩ | ⟨rfl, rfl, ha⟩
    · go_wp2;go_region;go_wp2;go_roundw
      case rel => exact .inr ⟨by go_num, by go_num, rfl, rfl, rfl, rfl⟩
      case measure => simp [intOf]
    · go_wp2;go_end0;exact ⟨rfl, ha⟩
set_option maxHeartbeats 800000 in
theorem rev_few (n c : Nat) (A : Option Addr) (w : World) (hn : n ≤ 1) :
    Calls Tryd.prog 67 #[.slice A n c] w fun e w' => e = .returned (.tuple #[]) ∧ w = w' := by
  go_enter Tryd.func67, Tryd.ntmps67;go_wp2;go_loop [2, 3] (fun i j => i = .int .i64 0 ∧ j = .int .i64 ((n : Int) - 1)) (fun i _ => 0)
  case atStart => exact ⟨rfl, rfl⟩
  case round =>
    obtain ⟨rfl, rfl⟩ := hrel;go_wp2;go_end0;exact ⟨rfl, rfl⟩
theorem rev_own (base : Nat) (xs : List Int) (A : Option Addr) (n c : Nat) (w : World) (hn : n ≤ 2) (HO : w.ownsRow base 3 1 (.slice A n c) n (ints xs)) :
    Calls Tryd.prog 67 #[.slice A n c] w fun e w' => e = .returned (.tuple #[]) ∧ w'.ownsRow base 3 1 (.slice A n c) n (ints xs.reverse) ∧ w.grownBy w' ((Value.slice A n c).ownBlock) := by
  (have hl : xs.length = n := by have := HO.1; rw [ints_length] at this; omega);by_cases h1 : n ≤ 1
  · refine (rev_few n c A w h1).mono ?_;rintro e w' ⟨rfl, rfl⟩
    have : xs.reverse = xs := by
      match xs, hl with
      | [], _ => rfl
      | [x], _ => rfl
      | _ :: _ :: _, hl => simp at hl; omega
    rw [this];exact ⟨rfl, HO, World.grownBy.refl _ _⟩
  · (obtain rfl : n = 2 := by omega);obtain ⟨g, cap, hv, hb, hg⟩ := HO.form (by omega);injection hv with hv1 _ hv2;subst hv1 hv2
    match xs, hl with
    | [x, y], _ =>
      have c0 := HO.cellAt 0 (by omega);have c1 := HO.cellAt 1 (by omega);refine (rev_two g c x y w c0 c1 (HO.frozenAt 0) (HO.frozenAt 1)).mono ?_;rintro e w' ⟨rfl, hs⟩;have s1 := HO.stored 0 (.int .i64 y);have s2 := s1.1.stored 1 (.int .i64 x);exact ⟨rfl, hs.row s2.1, hs.grown (s1.2.trans s2.2)⟩
end Go.Proofs.YtfjemaeidmikmaaDoor
end
section
set_option linter.unusedVariables false
set_option linter.unusedSimpArgs false
namespace Go.Proofs.YtfjemaeidmikmaaDoor
open Go.RowKit Go.Proofs.Bs
set_option maxHeartbeats 1600000 in
theorem rkids_any (A : Option Addr) (n c : Nat) (l : List Nd) (i : Nat) (w : World) (h : Reads w 7 A n (l.flatMap Nd.cells)) (hn : n ≤ 1000000) (hi : i < n) (hf : 0 ≤ fst1 l i) :
    Calls Tryd.prog 32 #[.slice A n c, .int .i64 i] w fun e w' => ∃ A1 c1, e = .returned (.slice A1 (kidsP l i).length c1) ∧ w'.ownsRow w.heap.size 3 1 (.slice A1 (kidsP l i).length c1) (kidsP l i).length (ints (kidsP l i)) ∧ Below w.heap.size w w' := by
  have hl := h.length Nd.cells Nd.cells_length (by omega);have HL := Lib.hid hl;have HF := Lib.hid hf;clear hl hf;go_enter Tryd.func32, Tryd.ntmps32;go_wp2_with fail;refine (rfirsts_any A n c l _ h hn).mono ?_;rintro e w1 ⟨Af, cf, rfl, HOf, hb1⟩;have h1 := h.below hb1;obtain ⟨ad, x, rfl, hx, c0, c1, c2, c3, c4, c5, c6⟩ := h1.nd hi;have hf := HF.out;have HX := Lib.hid hx;obtain ⟨ha0, hok⟩ := kids_ok l i x hx hf;have hkk := kidsP_eq l i x hx hf;have ha2 := arity_hi x.kind;have HK := Lib.hid hkk;have hRf := Reads.of_own HOf;clear hf hx hkk c1 c2 c3 c4 c5 c6;go_wp2_with (go_at_call 47; refine (rargs_any _ _).mono ?_; rintro e w2 ⟨rfl, hb2⟩);have hRf2 := hRf.below hb2;have hb02 := bel_then hb1 hb2;go_loopw [6, 7, 8] (fun o a r wr => ∃ (A1 : Option Addr) (c1 q m : Nat) (at_ : Int) (ys : List Int), o = .slice A1 q c1 ∧ wr.ownsRow w2.heap.size 3 1 (.slice A1 q c1) q (ints ys) ∧ a = .int .i64 at_ ∧ r = .int .i64 m ∧ q + m ≤ 2 ∧ -1 ≤ at_ ∧ at_ < n ∧ kidsOk l m at_ ∧ (kidsDown l m at_).reverse ++ ys = (kidsDown l (arity x.kind).toNat ((i : Int) - 1)).reverse ∧ Below w2.heap.size w2 wr) (fun _ _ r _ => (intOf r).toNat)
  case atStart => exact ⟨none, 0, 0, (arity x.kind).toNat, (i : Int) - 1, [], rfl, own_new, rfl, by rw [Int.toNat_of_nonneg ha0], by omega, by omega, by omega, hok, by simp, Below.refl _ _⟩
  case round =>
    obtain ⟨A1, c1, q, m, at_, ys, rfl, HO, rfl, rfl, hqm, hat0, hat1, hok', hys, hb⟩ := hrel;(have hq : ys.length = q := by have := HO.1; rw [ints_length] at this; omega);have HY := Lib.hid hys;have HQ := Lib.hid hq;have HOK := Lib.hid hok';clear hys hq hok' hok
    cases m with
    | zero =>
      go_wp2_with fail;go_ret;(have e1 : kidsP l i = ys := by rw [HK.out, ← HY.out]; simp [kidsDown]);rw [e1, HQ.out];exact ⟨A1, c1, rfl, own_mono HO hb02.size, bel_then hb02 hb⟩
    | succ m =>
      have hl := HL.out;obtain ⟨k1, k2, k3, k4⟩ := HOK.out;obtain ⟨a0, rfl⟩ := Int.eq_ofNat_of_zero_le k1;rw [Int.toNat_natCast] at k3 k4;(have ha : a0 < n := by omega);obtain ⟨adf, y, hAf, hy, cy⟩ := hRf2.int ha;subst hAf;(have hy' : y = fst1 l a0 := by rw [firstsTo_at l n a0 ha] at hy; injection hy with hy; exact hy.symm);have HY' := Lib.hid hy';(have hr0 : 0 ≤ y := by omega);(have hr1 : y ≤ a0 := by have := fst1_range l a0; omega);have HK4 := Lib.hid k4;clear hy hy' k4 hl k2;go_wp2_with (at_builtin; refine app_any rfl (.tmp 24) (.tmp 25) 27 rfl w2.heap.size 3 Tryd.underlying27 info_int rfl (by omega) (by omega) _ 1 [.int .i64 (a0 : Int)] rfl (own_lit _ _ _ _ hb.size (by omega) rfl) A1 q c1 (ints ys) rfl (Reads.of_own (HO.alloc _)) (ints_one _) (by omega) (bel_alloc hb _) (Nat.le_refl _) (by have := hb.size; simp; omega) ?_; intro A2 c2 w3 HO2 hg2 hb3; have cy2 := cell_below hb3 cy);go_roundw
      case rel =>
        have hl := HL.out;refine ⟨A2, c2, q + 1, m, y - 1, (a0 : Int) :: ys, by rw [Nat.add_comm], by rw [Nat.add_comm]; simpa [ints] using HO2, by go_num, by go_num, by omega, by omega, by omega, by rw [HY'.out]; exact HK4.out, ?_, hb3⟩;rw [← HY.out, HY'.out];simp only [kidsDown, List.reverse_cons, List.append_assoc, List.singleton_append];rw [first_eq l a0 (by omega)]
      case measure => simp [intOf] <;> omega
end Go.Proofs.YtfjemaeidmikmaaDoor
end
section
namespace Go.Proofs.YtfjemaeidmikmaaDoor
open Go.Proofs.Bs
set_option linter.unusedVariables false
structure Fa where
  never : Bool
  least : Int
  most : Int
  first : S
  ends : Bool
def Fa.zero : Fa := ⟨false, 0, 0, S.zero, false⟩
def Fa.none_ : Fa := ⟨true, 0, 0, S.zero, false⟩
abbrev Grid := Nat → Nat → Bool
def evenG (n : Nat) : Grid := fun i j => decide (i = j ∧ j ≤ n)
def behindG (n : Nat) (a b : Grid) : Grid := fun i j => decide (i ≤ j ∧ j ≤ n) && (List.range (n + 1)).any fun m => decide (i ≤ m ∧ m ≤ j) && a i m && b m j
def eitherG (n : Nat) (a b : Grid) : Grid := fun i j => decide (i ≤ j ∧ j ≤ n) && (a i j || b i j)
def powG (n : Nat) (x : Grid) : Nat → Grid
  | 0 => evenG n
  | k + 1 => behindG n (powG n x k) x
def repG (n : Nat) (x : Grid) (lo : Nat) : Nat → Grid
  | 0 => powG n x lo
  | k + 1 => eitherG n (repG n x lo k) (powG n x (lo + k + 1))
def fitG (n : Nat) (text : Nat → Nat) (x : Nd) (ks : List Grid) : Grid :=
  if x.kind = 1 then fun i j => decide (j = i + 1 ∧ j ≤ n) && has x.set (text i)
  else if x.kind = 2 then evenG n
  else if x.kind = 3 then fun i j => decide (i = 0 ∧ j = 0)
  else if x.kind = 4 then fun i j => decide (i = n ∧ j = n)
  else if x.kind = 5 then behindG n (ks.getD 0 (evenG n)) (ks.getD 1 (evenG n))
  else if x.kind = 6 then eitherG n (ks.getD 0 (evenG n)) (ks.getD 1 (evenG n))
  else repG n (ks.getD 0 (evenG n)) x.lo.toNat (if x.hi = -1 then n else (x.hi - x.lo).toNat)
theorem behindG_iff {n : Nat} {a b : Grid} {i j : Nat} : behindG n a b i j = true ↔ i ≤ j ∧ j ≤ n ∧ ∃ m, i ≤ m ∧ m ≤ j ∧ a i m = true ∧ b m j = true := by
  unfold behindG;simp only [Bool.and_eq_true, decide_eq_true_eq, List.any_eq_true, List.mem_range];constructor
  · rintro ⟨⟨h1, h2⟩, m, h3, ⟨⟨h4, h5⟩, h6⟩, h7⟩;exact ⟨h1, h2, m, h4, h5, h6, h7⟩
  · rintro ⟨h1, h2, m, h4, h5, h6, h7⟩;exact ⟨⟨h1, h2⟩, m, by omega, ⟨⟨h4, h5⟩, h6⟩, h7⟩
theorem eitherG_iff {n : Nat} {a b : Grid} {i j : Nat} : eitherG n a b i j = true ↔ i ≤ j ∧ j ≤ n ∧ (a i j = true ∨ b i j = true) := by
  unfold eitherG;simp only [Bool.and_eq_true, decide_eq_true_eq, Bool.or_eq_true, and_assoc]
def Told (f : Fa) (n : Nat) (text : Nat → Nat) (g : Grid) : Prop :=
  0 ≤ f.least ∧ -1 ≤ f.most ∧ ∀ i j, g i j = true → i ≤ j ∧ j ≤ n ∧ f.never = false ∧ f.least ≤ (j : Int) - i ∧ (f.most < 0 ∨ (j : Int) - i ≤ f.most) ∧ (i < j → has f.first (text i) = true)
end Go.Proofs.YtfjemaeidmikmaaDoor
end
section
namespace Go.Proofs.YtfjemaeidmikmaaDoorQ
open Go.RowKit Go.Proofs.YtfjemaeidmikmaaDoorW.PrintWords Go.Proofs.YtfjemaeidmikmaaDoorW.PrintLast Go.Proofs.YtfjemaeidmikmaaDoorW.PrintMore
attribute [local go_sem] max2_int min2_int max_two min_two max_three min_three max_four min_four
set_option linter.unusedVariables false
set_option linter.unusedSimpArgs false
def tattingref11_Build.T3 : Bool × List (List Nat × List Nat) := (true, [([], []), ([], []), ([], []), ([2], [2]), ([3], [3]), ([1, 4], [1, 4]), ([0, 5, 5], [0, 5]), ([6], [6]), ([7, 6, 0, 1, 2, 3, 4, 5, 6, 7], [7])])
def tattingref11_Build.B3 : List Nat := [0, 0, 0, 4, 12, 30, 63, 127, 255]
theorem tattingref11_Build.tab3 : rtab .any (opsOf Tryd.f10 3) = tattingref11_Build.T3 := by kernel_rfl
theorem tattingref11_Build.bits3 : waitsOk tattingref11_Build.T3.2 tattingref11_Build.B3 = true := by kernel_rfl
end Go.Proofs.YtfjemaeidmikmaaDoorQ
end
section
set_option linter.unusedVariables false
set_option linter.unusedSimpArgs false
namespace Go.Proofs.YtfjemaeidmikmaaDoorQ
open Go.RowKit Go.Proofs.Bs Go.Proofs.YtfjemaeidmikmaaDoor
theorem run_set0 (a b c d : Value) (w : World) : (Instr.index 62 (.agg #[a, b, c, d]) (.int .i64 0)).run Tryd.prog w = .ok a w := by
  simp only [Instr.index, run_underlying Tryd.underlying62, asIntOf, go_sem];simp [go_sem]
theorem run_set1 (a b c d : Value) (w : World) : (Instr.index 62 (.agg #[a, b, c, d]) (.int .i64 1)).run Tryd.prog w = .ok b w := by
  simp only [Instr.index, run_underlying Tryd.underlying62, asIntOf, go_sem];simp [go_sem]
theorem run_set2 (a b c d : Value) (w : World) : (Instr.index 62 (.agg #[a, b, c, d]) (.int .i64 2)).run Tryd.prog w = .ok c w := by
  simp only [Instr.index, run_underlying Tryd.underlying62, asIntOf, go_sem];simp [go_sem]
theorem run_set3 (a b c d : Value) (w : World) : (Instr.index 62 (.agg #[a, b, c, d]) (.int .i64 3)).run Tryd.prog w = .ok d w := by
  simp only [Instr.index, run_underlying Tryd.underlying62, asIntOf, go_sem];simp [go_sem]
attribute [local go_sem] run_set0 run_set1 run_set2 run_set3
--%end
end Go.Proofs.YtfjemaeidmikmaaDoorQ
end
section
set_option linter.unusedVariables false
set_option linter.unusedSimpArgs false
namespace Go.Proofs.YtfjemaeidmikmaaDoorQ
open Go.RowKit Go.Proofs.Bs Go.Proofs.YtfjemaeidmikmaaDoor Go.Proofs.YtfjemaeidmikmaaDoorW.PrintWords
def tattingref04_Kids.f (l0 : List NdI) (a1 : Int) : Option (List Int) := if l0.length ≤ 1000000 ∧ ndsWf l0 = true ∧ 0 ≤ a1 ∧ a1 < l0.length ∧ 0 ≤ fst1 (l0.map ndOf) a1.toNat then some (kidsP (l0.map ndOf) (a1.toNat : Nat)) else none
theorem tattingref04_Kids.calls (A0 : Option Addr) (c0 : Nat) (l0 : List NdI) (a1 : Int) (r : List Int) (w : World) (hr0 : Kd.C k71 w A0 l0.length l0) (hc0 : l0.length ≤ c0) (h : tattingref04_Kids.f l0 a1 = some r) :
    Calls Tryd.prog 32 #[.slice A0 l0.length c0, .int .i64 a1] w fun e w' => ∃ v0_ : Value, e = .returned (v0_) ∧ Kd.R (Kd.int .i64) 3 w' w.heap.size (fun _ => True) v0_ r ∧ Below w.heap.size w w' := by
  unfold tattingref04_Kids.f at h;split at h
  case isFalse => cases h
  case isTrue c =>
    obtain ⟨h0, h1, h2, h3, h4⟩ := c;injection h with h;subst h;have hw := rkids_any A0 l0.length c0 (l0.map ndOf) a1.toNat w (reads_nds hr0 h1) h0 (by omega) h4;rw [Int.toNat_of_nonneg h2] at hw;refine hw.mono ?_;rintro e w' ⟨A1, c1, rfl, ho, hb⟩;refine ⟨_, rfl, Kd.R_of_own (enc := Value.int .i64) (h1 := fun _ => rfl) ?_ (fun _ _ => trivial), hb⟩;rw [Int.toNat_of_nonneg h2];exact ho
end Go.Proofs.YtfjemaeidmikmaaDoorQ
end
section
set_option linter.unusedVariables false
set_option linter.unusedSimpArgs false
namespace Go.Proofs.YtfjemaeidmikmaaDoorQ
open Go.RowKit Go.Maps Go.Proofs.YtfjemaeidmikmaaDoorW.PrintWords Go.Proofs.YtfjemaeidmikmaaDoorW.PrintLast Go.Proofs.YtfjemaeidmikmaaDoor
abbrev KS : Kd (List Int) := Kd.slice 3 (Kd.int .i64)
structure SB (w : World) (b0 p m : Nat) (h0 h1 h2 h3 v : Value) (S : List (List Int)) (D : DataW Unit) (n : Nat) (ok : Nat → Prop) : Prop where
  blk : w.heap[p]? = some (.cells #[h0, h1, h2, h3, v, .map (some m)] 57 (0, 0))
  own : w.ownsMap Tryd.prog 9 (plainElem Tryd.prog 3) m n D
  map : KMap D S
  sets : Kd.R KS 27 w b0 ok v S
  okp : ∀ k, ok k → k ≠ p ∧ k ≠ m
  pm : p ≠ m
  le : b0 ≤ p ∧ b0 ≤ m
  nn : n ≤ S.length
theorem SB.lt {w : World} {b0 p m : Nat} {h0 h1 h2 h3 v : Value} {S : List (List Int)} {D : DataW Unit} {n : Nat} {ok : Nat → Prop} (h : SB w b0 p m h0 h1 h2 h3 v S D n ok) : p < w.heap.size := (Array.getElem?_eq_some_iff.1 h.blk).1
theorem SB.step {w w1 : World} {b0 p m : Nat} {h0 h1 h2 h3 v : Value} {S : List (List Int)} {D : DataW Unit} {n : Nat} {ok : Nat → Prop} (h : SB w b0 p m h0 h1 h2 h3 v S D n ok) (hb : Below w.heap.size w w1) : SB w1 b0 p m h0 h1 h2 h3 v S D n ok :=
  ⟨(hb.block p h.lt).trans h.blk, h.own.kept (row := none) ⟨hb.os, hb.tape, hb.output, hb.size, fun k hk _ => hb.block k hk⟩ (by simp), h.map, Kd.R_below h.sets hb, h.okp, h.pm, h.le, h.nn⟩
theorem SB.cells {w : World} {b0 p m : Nat} {h0 h1 h2 h3 v : Value} {S : List (List Int)} {D : DataW Unit} {n : Nat} {ok : Nat → Prop} (h : SB w b0 p m h0 h1 h2 h3 v S D n ok) :
    w.cell? ⟨p, 0, none⟩ = some h0 ∧ w.cell? ⟨p, 1, none⟩ = some h1 ∧ w.cell? ⟨p, 2, none⟩ = some h2 ∧ w.cell? ⟨p, 3, none⟩ = some h3 ∧ w.cell? ⟨p, 4, none⟩ = some v ∧ w.cell? ⟨p, 5, none⟩ = some (.map (some m)) ∧ w.frozen? ⟨p, 4, none⟩ = false := by
  refine ⟨?_, ?_, ?_, ?_, ?_, ?_, frozen_of_row w p 4 _ _ h.blk⟩
  · rw [cell_of_row w p 0 _ _ _ h.blk]; rfl
  · rw [cell_of_row w p 1 _ _ _ h.blk]; rfl
  · rw [cell_of_row w p 2 _ _ _ h.blk]; rfl
  · rw [cell_of_row w p 3 _ _ _ h.blk]; rfl
  · rw [cell_of_row w p 4 _ _ _ h.blk]; rfl
  · rw [cell_of_row w p 5 _ _ _ h.blk]; rfl
structure Sty (p m : Nat) (v v1 : Value) (w w1 : World) : Prop where
  size : w.heap.size ≤ w1.heap.size
  keep : ∀ b, b < w.heap.size → b ≠ p → b ≠ m → some b ≠ v.ownBlock → w1.heap[b]? = w.heap[b]?
  row : v1.ownBlock = v.ownBlock ∨ ∃ b, v1.ownBlock = some b ∧ w.heap.size ≤ b
theorem Sty.of_below {p m : Nat} {v : Value} {w w1 : World} (h : Below w.heap.size w w1) : Sty p m v v w w1 := ⟨h.size, fun b hb _ _ _ => h.block b hb, .inl rfl⟩
theorem R_sty {α : Type} {d : Kd α} {e base : Nat} {u : Value} {xs : List α} {ok : Nat → Prop} {p m : Nat} {v v1 : Value} {w w1 : World} (h : d.R e w base (fun k => (ok k ∧ k ≠ p ∧ k ≠ m) ∧ some k ≠ v.ownBlock) u xs) (hs : Sty p m v v1 w w1) : d.R e w1 base (fun k => (ok k ∧ k ≠ p ∧ k ≠ m) ∧ some k ≠ v1.ownBlock) u xs := by
  refine Kd.R_mono (Kd.R_step (Kd.R_bound h) (fun k hk hlt => hs.keep k hlt hk.1.1.2.1 hk.1.1.2.2 hk.1.2)) (fun k hk => ⟨hk.1.1, ?_⟩);rcases hs.row with e1 | ⟨b, e1, hb⟩
  · rw [e1]; exact hk.1.2
  · rw [e1];intro q;injection q with q;have := hk.2.2.1;omega
theorem info_ints : (Tryd.prog.info? 27).map (fun i => (i.zero, i.size, i.bytes)) = some (some (.slice none 0 0), 1, 24) := by kernel_rfl
set_option maxRecDepth 100000 in
set_option maxHeartbeats 3200000 in
theorem state_sb {w : World} {b0 p m : Nat} {h0 h1 h2 h3 v : Value} {S : List (List Int)} {D : DataW Unit} {n : Nat} {ok : Nat → Prop} (hB : SB w b0 p m h0 h1 h2 h3 v S D n ok) (hS : S.length ≤ 100000) (hfresh : ∀ k, w.heap.size ≤ k → ok k) (hbase : b0 ≤ w.heap.size)
    (A : Option Addr) (c : Nat) (t : List Int) (ht : Kd.R (Kd.int .i64) 3 w b0 (fun k => ok k ∧ some k ≠ v.ownBlock) (.slice A t.length c) t) (hok : okT t) :
    Calls Tryd.prog 40 #[.pointer (some ⟨p, 0, none⟩), .slice A t.length c] w fun e w' => ∃ v' D' n', e = .returned (.int .i64 ((knS S t).2 : Nat)) ∧ SB w' b0 p m h0 h1 h2 h3 v' (knS S t).1 D' n' ok ∧ Sty p m v v' w w' ∧ Below b0 w w' := by
  have hC := (Kd.R_reads' ht).2.2;have hkey := key_any A t.length c t w (reads_of_C hC) hok.1 hok.2;have HKEY := Lib.hid hkey;have HB := Lib.hid hB;have HT := Lib.hid ht;have HF := Lib.hid hfresh;have HOK := Lib.hid hok;have HSL := Lib.hid hS;clear hC hkey hB ht hfresh hok hS;go_enter Tryd.func40, Tryd.ntmps40;go_wp2_with fail;refine HKEY.out.mono ?_;rintro e w1 ⟨rfl, hb1⟩;have hB1 := HB.out.step hb1;have HB1 := Lib.hid hB1;obtain ⟨k0, k1, k2, k3, k4, k5, f4⟩ := hB1.cells;have hown := hB1.own;have hmp := hB1.map;clear hB1;have hpk := t_key HOK.out;have HPK := Lib.hid hpk;clear hpk;by_cases hin : t ∈ S
  · have hhas := (hmp.has t HOK.out).trans (decide_eq_true hin);have hat0 := hmp.atKey t HOK.out hin;have HAT := Lib.hid hat0;have HIN := Lib.hid hin;have HBB := Lib.hid hb1;clear hat0 hin hmp hb1;go_wp2_with (at_lookup; refine wpList_lookup_own_ok_int _ rfl _ _ 54 rfl 9 3 .i64 str_keyed Tryd.underlying54 Tryd.underlying3 (zero_int3 _) m n D rfl hown _ _ rfl HPK.out ?_; intro c0 hat hwc);go_ret
    have hc0 : c0 = ((S.idxOf t : Nat) : Int) := by
      rw [HAT.out] at hat;injection hat with hat;injection hat with _ hat;exact hat.symm
    subst hc0;(have hkn : knS S t = (S, S.idxOf t) := by unfold knS; rw [if_pos HIN.out]);rw [hkn];exact ⟨v, D, n, rfl, HB1.out, Sty.of_below HBB.out, HBB.out.mono hbase⟩
  · have hhas := (hmp.has t HOK.out).trans (decide_eq_false hin);have HIN := Lib.hid hin;have HBB := Lib.hid hb1;obtain ⟨As, cs, rfl⟩ := Kd.R_slice HB1.out.sets;have HTD := Lib.hid (hown.tidy str_keyed);have HMP := Lib.hid hmp;have hSl := HSL.out;have hnn := HB1.out.nn;clear hin hmp hb1;obtain ⟨w2, hrun, hown2, hg2⟩ := hown.drew.update (t := 54) (e := 3) str_keyed Tryd.underlying54 (n := n) (show n < maxLen by unfold maxLen; omega) HPK.out (val := .int .i64 (S.length : Int)) (d := .lit (.int .i64 (S.length : Int))) (ps := []) (plainElem_int Tryd.underlying3 (WalkArith.wf_i64 (by omega)))
    go_wp2_with (first
      | (at_lookup; refine wpList_lookup_own_ok_int _ rfl _ _ 54 rfl 9 3 .i64 str_keyed Tryd.underlying54 Tryd.underlying3 (zero_int3 _) m n D rfl hown _ _ rfl HPK.out ?_; intro c0 hat hwc))
    go_region;have hpm := HB1.out.pm;have hp1 : p < w1.heap.size := HB1.out.lt;have hblk2 : w2.heap[p]? = some (.cells #[h0, h1, h2, h3, .slice As S.length cs, .map (some m)] 57 (0, 0)) := (hg2.block p hp1 (fun e => hpm (Option.some.inj e))).trans HB1.out.blk;have hs2 : Kd.R KS 27 w2 b0 ok (.slice As S.length cs) S := Kd.R_grown (Kd.R_drew HB1.out.sets) hg2 (fun k hk e => (HB1.out.okp k hk).2 (Option.some.inj e));have ht2 : Kd.R (Kd.int .i64) 3 w2 b0 (fun k => ok k ∧ some k ≠ (Value.slice As S.length cs).ownBlock) (.slice A t.length c) t := Kd.R_grown (Kd.R_drew (Kd.R_below HT.out HBB.out)) hg2 (fun k hk e => (HB1.out.okp k hk.1).2 (Option.some.inj e));have hz2 : w1.heap.size ≤ w2.heap.size := hg2.size;have hz1 : w.heap.size ≤ w1.heap.size := HBB.out.size;have hb2 : Below b0 w w2 := (below_drew (HBB.out.mono hbase)).grown hg2 (Nat.le_trans hbase hz1) (fun j hj => by cases hj; exact HB.out.le.2);(have g4 : w2.cell? ⟨p, 4, none⟩ = some (.slice As S.length cs) := by rw [cell_of_row w2 p 4 _ _ _ hblk2]; rfl);(have hnp : ∀ k, (Value.slice As S.length cs).ownBlock = some k → k ≠ p ∧ k ≠ m := fun k hk => HB1.out.okp k (hs2.1 k hk));have HS2 := Lib.hid hs2;have HT2 := Lib.hid ht2;have HB2 := Lib.hid hb2;have HBK := Lib.hid hblk2;have HG2 := Lib.hid hg2;have HOW := Lib.hid hown2;have HNP := Lib.hid hnp;clear hs2 ht2 hb2 hblk2 hg2 hown2 hnp hown hrun hat k0 k1 k2 k3 k4 k5 f4;go_wp2_with (at_builtin; refine Kd.R_append KS (w0 := w) b0 rfl (.tmp 35) (.tmp 37) 55 27 (.slice none 0 0) 24 rfl Tryd.underlying55 info_ints rfl (by decide) (by omega) (.slice As S.length cs) S t [.slice A t.length c] ok (fun k => ok k ∧ some k ≠ (Value.slice As S.length cs).ownBlock) rfl rfl ⟨_, rfl, HT2.out⟩ (fun _ hk => hk) (fun k hk => HF.out k (by omega)) HS2.out HB2.out (by omega) (by omega) ?_; intro v3 w3 hs3 hb3 hg3 hat3; obtain ⟨A3, c3, rfl⟩ := Kd.R_slice hs3; have hblk3 := (hg3.block p (by omega) (fun e => (HNP.out p e.symm).1 rfl)).trans HBK.out; have g43 : w3.cell? ⟨p, 4, none⟩ = some (.slice As S.length cs) := (cell_of_row w3 p 4 _ _ _ hblk3).trans rfl; have f43 : w3.frozen? ⟨p, 4, none⟩ = false := frozen_of_row w3 p 4 _ _ hblk3; have HS3 := Lib.hid hs3; have HBX := Lib.hid hb3; have HGX := Lib.hid hg3; have HAT3 := Lib.hid hat3; have HB3 := Lib.hid hblk3; clear hs3 hb3 hg3 hat3 hblk3);go_ret;(have hkn : knS S t = (S ++ [t], S.length) := by unfold knS; rw [if_neg HIN.out]);rw [hkn];have hw3 := HGX.out;have hblk4 := heap_setCell_same w3 p 4 _ _ (.slice A3 (S ++ [t]).length c3) HB3.out;refine ⟨.slice A3 (S ++ [t]).length c3, D.put (tk t) (.lit (.int .i64 (S.length : Int))), n + 1, Go.Proofs.YtfjemaeidmikmaaDoor.ret_int (by simp), ⟨?_, ?_, ?_, ?_, HB.out.okp, hpm, HB.out.le, by simp; omega⟩, ?_, ?_⟩
    · simpa using hblk4
    · exact (HOW.out.kept hw3 (fun e => (HNP.out m e.symm).2 rfl)).setCell (fun e => hpm e.symm) _
    · exact KMap.new HTD.out HMP.out HOK.out HIN.out rfl
    · exact Kd.R_far HS3.out (fun k hk => (HB.out.okp k hk).1) _
    · have hz3 : w2.heap.size ≤ w3.heap.size := hw3.size;refine ⟨by simp; omega, fun b hb hbp hbm hbv => ?_, ?_⟩
      · rw [heap_setCell_other _ _ b _ (by simpa using hbp), hw3.block b (by omega) hbv, HG2.out.block b (show b < w1.heap.size by omega) (fun e => hbm (Option.some.inj e)), ← HBB.out.block b hb];rfl
      · rcases HAT3.out with e | ⟨q, e, hq⟩
        · exact .inl e
        · exact .inr ⟨q, e, by omega⟩
    · exact HBX.out.setCell (show b0 ≤ p from HB.out.le.1) _
end Go.Proofs.YtfjemaeidmikmaaDoorQ
end
section
set_option linter.unusedVariables false
set_option linter.unusedSimpArgs false
namespace Go.Proofs.YtfjemaeidmikmaaDoor
open Go.RowKit Go.Proofs.Bs
set_option maxHeartbeats 1600000 in
theorem kids_any (A : Option Addr) (n c : Nat) (l : List Nd) (i : Int) (w : World) (h : Reads w 7 A n (l.flatMap Nd.cells)) (hn : n ≤ 140737488351232) :
    Calls Tryd.prog 50 #[.slice A n c, .int .i64 i] w fun e w' => ∃ A1 c1, e = .returned (.slice A1 (kidsP l i).length c1) ∧ w'.ownsRow w.heap.size 3 1 (.slice A1 (kidsP l i).length c1) (kidsP l i).length (ints (kidsP l i)) ∧ Below w.heap.size w w' := by
  have hl := h.length Nd.cells Nd.cells_length (by omega);by_cases hf : firstI l i < 0
  · (have hk : kidsP l i = [] := by unfold kidsP; rw [if_pos hf]);rw [hk];go_enter Tryd.func50, Tryd.ntmps50;go_wp2_with (go_at_call 66; refine (first_any A n c l i _ h hn).mono ?_; rintro e w1 ⟨rfl, rfl⟩);go_ret;exact ⟨none, 0, rfl, own_new, Below.refl _ _⟩
  · have hr := first_range l i;(have hi0 : 0 ≤ i := by unfold firstI at hf; split at hf <;> omega);(have hi1 : i < n := by unfold firstI at hf; split at hf <;> omega);obtain ⟨i0, rfl⟩ := Int.eq_ofNat_of_zero_le hi0;obtain ⟨ad, x, hA, hx, c0, c1, c2, c3, c4, c5, c6⟩ := h.nd (show i0 < n by omega);subst hA
    have ha0 : 0 ≤ arity x.kind := by
      unfold firstI at hf;rw [if_neg (by omega), Int.toNat_natCast, scan_step hx] at hf;split at hf <;> omega
    have ha2 := arity_hi x.kind
    have hkk : kidsP l (i0 : Int) = (kidsDown l (arity x.kind).toNat ((i0 : Int) - 1)).reverse := by
      unfold kidsP;rw [if_neg hf, Int.toNat_natCast, hx]
    have HK := Lib.hid hkk;have HX := Lib.hid hx;have HL := Lib.hid hl;clear hkk hx hl c1 c2 c3 c4 c5 c6;go_enter Tryd.func50, Tryd.ntmps50
    go_wp2_with (first
      | (go_at_call 66; refine (first_any (some ad) n c l _ _ h hn).mono ?_; rintro e w1 ⟨rfl, rfl⟩)
      | (go_at_call 49; refine (args_any _ _).mono ?_; rintro e w1 ⟨rfl, rfl⟩))
    go_loopw [5, 6, 7] (fun o a r wr => ∃ (A1 : Option Addr) (c1 q m : Nat) (at_ : Int) (ys : List Int), o = .slice A1 q c1 ∧ wr.ownsRow w.heap.size 3 1 (.slice A1 q c1) q (ints ys) ∧ a = .int .i64 at_ ∧ r = .int .i64 m ∧ q + m ≤ 2 ∧ -2 ≤ at_ ∧ at_ ≤ n ∧ ys ++ kidsDown l m at_ = kidsDown l (arity x.kind).toNat ((i0 : Int) - 1) ∧ Below w.heap.size w wr) (fun _ _ r _ => (intOf r).toNat)
    case atStart => exact ⟨none, 0, 0, (arity x.kind).toNat, (i0 : Int) - 1, [], rfl, own_new, rfl, by rw [Int.toNat_of_nonneg ha0], by omega, by omega, by omega, rfl, Below.refl _ _⟩
    case round =>
      obtain ⟨A1, c1, q, m, at_, ys, rfl, HO, rfl, rfl, hqm, hat0, hat1, hys, hb⟩ := hrel;(have hq : ys.length = q := by have := HO.1; rw [ints_length] at this; omega);have HY := Lib.hid hys;have HQ := Lib.hid hq;clear hys hq;have hfr0 := (first_range l at_).1;(have hfr1 : firstI l at_ ≤ n := by have := (first_range l at_).2; have hl := HL.out; omega)
      cases m with
      | zero =>
        (have hk2 : kidsP l (i0 : Int) = ys.reverse := by rw [HK.out, ← HY.out]; simp [kidsDown]);have HK2 := Lib.hid hk2;clear hk2;go_wp2_with (go_at_call 67; refine (rev_own w.heap.size ys A1 q c1 _ (by omega) HO).mono ?_; rintro e w1 ⟨rfl, HO1, hg1⟩);go_ret;rw [HK2.out, List.length_reverse, HQ.out];exact ⟨A1, c1, rfl, HO1, bel_grown hb HO (Nat.le_refl _) hg1⟩
      | succ m =>
        go_wp2_with (first
          | (at_builtin; refine app_lit rfl (.tmp 24) (.tmp 26) 27 rfl w.heap.size 3 Tryd.underlying27 info_int rfl (by omega) (by omega) _ q (ints ys) rfl HO [.int .i64 at_] 1 1 rfl rfl rfl (by omega) hb (Nat.le_refl _) hb.size ?_; intro A2 c2 w2 HO2 hg2 hb2)
          | (go_at_call 66; refine (first_any (some ad) n c l _ _ (h.below hb2) hn).mono ?_; rintro e w3 ⟨rfl, rfl⟩))
        go_roundw
        case rel =>
          have hl := HL.out;refine ⟨A2, c2, q + 1, m, firstI l at_ - 1, ys ++ [at_], rfl, by simpa [ints] using HO2, rfl, by go_num, by omega, by omega, by omega, ?_, hb2⟩;have := HY.out;rw [List.append_assoc];exact this
        case measure => simp [intOf] <;> omega
end Go.Proofs.YtfjemaeidmikmaaDoor
end
section
set_option linter.unusedVariables false
set_option linter.unusedSimpArgs false
namespace Go.Proofs.YtfjemaeidmikmaaDoor
open Go.RowKit Go.Proofs.Bs
attribute [local go_sem] eqSet
set_option maxHeartbeats 3200000 in
set_option maxRecDepth 100000 in
theorem rright_any (A : Option Addr) (n c : Nat) (l : List Nd) (w : World) (h : Reads w 7 A n (l.flatMap Nd.cells)) (hn : n ≤ 1000000) :
    Calls Tryd.prog 13 #[.slice A n c] w fun e w' => e = .returned (.bool (rightB l)) ∧ Below w.heap.size w w' := by
  have hl := h.length Nd.cells Nd.cells_length (by omega);have HL := Lib.hid hl;clear hl;by_cases h0 : n = 0
  · subst h0;go_enter Tryd.func13, Tryd.ntmps13;go_wp2;go_ret;exact ⟨ret_bool (right_size l (.inl HL.out)).symm, Below.refl _ _⟩
  by_cases h5 : 512 < n
  · (have hz : ((n : Int) == 0) = false := by rw [beq_eq_false_iff_ne]; omega);go_enter Tryd.func13, Tryd.ntmps13;go_wp2;go_ret;exact ⟨ret_bool (right_size l (.inr (by rw [HL.out]; exact h5))).symm, Below.refl _ _⟩
  (have hz : ((n : Int) == 0) = false := by rw [beq_eq_false_iff_ne]; omega);go_enter Tryd.func13, Tryd.ntmps13;go_wp2_with fail;refine (rfirsts_any A n c l _ h hn).mono ?_;rintro e w1 ⟨Af, cf, rfl, HOf, hb1⟩;have h1 := h.below hb1;have hRf := Reads.of_own HOf;go_wp2_with fail;go_loopw [2, 4] (fun r i wr => ∃ k : Nat, r = .bool false ∧ i = .int .i64 k ∧ k ≤ n ∧ (∀ j, j < k → 0 ≤ fst1 l j ∧ fieldsB (l.getD j zNd) = true) ∧ Below w1.heap.size w1 wr) (fun _ i _ => n - (intOf i).toNat)
  case atStart => exact ⟨0, rfl, rfl, by omega, fun j hj => by omega, Below.refl _ _⟩
  case round =>
    obtain ⟨k, rfl, rfl, hk, hall, hb⟩ := hrel;have HA := Lib.hid hall;clear hall;by_cases hlt : k < n
    · obtain ⟨ad, x, hA, hx, c0, c1, c2, c3, c4, c5, c6⟩ := (h1.below hb).nd hlt;subst hA;obtain ⟨adf, y, hAf, hy, cy⟩ := (hRf.below hb).int hlt;subst hAf;(have hy' : y = fst1 l k := by rw [firstsTo_at l n k hlt] at hy; injection hy with hy; exact hy.symm);have HX := Lib.hid hx;have HY := Lib.hid hy';(have cy' := fun o => cell_alloc cy o);clear hx hy hy' cy;go_wp2_with fail
      all_goals first
        | (go_ret
           have key : y < 0 ∨ fieldsB x = false := by go_light; unfold fieldsB; grind
           refine ⟨ret_bool ?_, bel_then hb1 (bel_alloc hb _)⟩
           rw [right_no l k x HX.out (by rw [← HY.out]; exact key)])
        | (go_roundw
           case rel =>
             (have key : 0 ≤ y ∧ fieldsB x = true := by go_light; unfold fieldsB; grind);refine ⟨k + 1, rfl, by go_num, by omega, fun j hj => ?_, bel_alloc hb _⟩;rcases Nat.lt_or_ge j k with h9 | h9
             · exact HA.out j h9
             · (obtain rfl : j = k := by omega);rw [← HY.out, List.getD_eq_getElem?_getD, HX.out];exact key
           case measure => simp [intOf] <;> omega)
    · (have hkn : k = n := by omega);obtain ⟨adf, y, hAf, hy, cy⟩ := (hRf.below hb).int (show n - 1 < n by omega);subst hAf;(have hy' : y = fst1 l (n - 1) := by rw [firstsTo_at l n _ (by omega)] at hy; injection hy with hy; exact hy.symm);have HY := Lib.hid hy';have HK := Lib.hid hkn;clear hy hy' hkn;(have h1n : 1 ≤ n := by omega);go_wp2_with fail;go_ret;refine ⟨ret_bool ?_, bel_then hb1 hb⟩;have hl := HL.out;rw [right_yes l (by omega) (by omega) (fun j hj => HA.out j (by rw [HK.out]; omega)), hl, ← HY.out];rfl
end Go.Proofs.YtfjemaeidmikmaaDoor
end
section
set_option linter.unusedVariables false
set_option linter.unusedSimpArgs false
namespace Go.Proofs.YtfjemaeidmikmaaDoorQ
open Go.RowKit Go.Proofs.Bs Go.Proofs.YtfjemaeidmikmaaDoor Go.Proofs.YtfjemaeidmikmaaDoorW.PrintWords
def tattingref04_Right.f (l0 : List NdI) : Option Bool := if l0.length ≤ 1000000 ∧ ndsWf l0 = true then some (rightB (l0.map ndOf)) else none
theorem tattingref04_Right.calls (A0 : Option Addr) (c0 : Nat) (l0 : List NdI) (r : Bool) (w : World) (hr0 : Kd.C k71 w A0 l0.length l0) (hc0 : l0.length ≤ c0) (h : tattingref04_Right.f l0 = some r) :
    Calls Tryd.prog 13 #[.slice A0 l0.length c0] w fun e w' => e = .returned (.bool r) ∧ Below w.heap.size w w' := by
  unfold tattingref04_Right.f at h;split at h
  case isFalse => cases h
  case isTrue c =>
    injection h with h;subst h;exact rright_any A0 l0.length c0 (l0.map ndOf) w (reads_nds hr0 c.2) c.1
end Go.Proofs.YtfjemaeidmikmaaDoorQ
end
