/- Several short texts of this proof, one behind the other. -/
import Derived.Test.YtibabfgfahlekaaHTreePure
import Derived.Test.YtibabfgfahlekaaHQ0
import Derived.Test.YtibabfgfahlekaaHM1
import Derived.Test.YtibabfgfahlekaaHTree5
import Derived.Test.YtibabfgfahlekaaHOpenCore
import Derived.Lib.SmallJoins
import Derived.Test.YtibabfgfahlekaaHM2
import Derived.Laws.BitsAllLaws
import Derived.Lib.Hide
section
/- Pruned from its seat's text: what the theorem hangs on. -/
/- Plain: how deep a tree is, by a stack and by going down. -/
namespace Go.Proofs.Ytibabfgfahlekaa
open Go.Proofs.Bs

def maxOf : List Int → Int → Int
  | [], m => m
  | d :: ds, m => maxOf ds (max m d)
/-- The stack of depths behind so many nodes: the first part lowest. -/
def stackStep (s : List Int) (x : Nd) : List Int := s.take (s.length - (arity x.kind).toNat) ++ [maxOf (s.drop (s.length - (arity x.kind).toNat)) 0 + 1]
def stackP (l : List Nd) : Nat → List Int
  | 0 => []
  | k + 1 => stackStep (stackP l k) (l.getD k zNd)
theorem stack_tiles (l : List Nd) (hr : rightB l = true) (k : Nat) (hk : k ≤ l.length) : ∃ m, tiles l k m ∧ (stackP l k).length = m := by
  obtain ⟨_, hall, _⟩ := (rightB_iff l).1 hr
  induction k with
  | zero => exact ⟨0, rfl, rfl⟩
  | succ k ih =>
    obtain ⟨m, ht, hm⟩ := ih (by omega)
    have hx : l[k]? = some l[k] := List.getElem?_eq_getElem (by omega)
    have hg : l.getD k zNd = l[k] := by rw [List.getD_eq_getElem?_getD, hx]; rfl
    have h0 := (hall k (by omega)).1
    have hp := fst1_pop l k _ hx
    generalize l[k] = x at hx hg hp
    have h1 := pop_tiles l (arity x.kind).toNat k m ht
    have ha : ¬ arity x.kind < 0 := by intro h; rw [if_pos h] at hp; omega
    rw [if_neg ha] at hp
    have ham : (arity x.kind).toNat ≤ m := by
      rcases Nat.lt_or_ge m (arity x.kind).toNat with h | h
      · have := h1.2 h; rw [hp] at h0; exact absurd h0 (by omega)
      · exact h
    obtain ⟨s, hs, hts⟩ := h1.1 ham
    refine ⟨m - (arity x.kind).toNat + 1, ⟨by omega, ?_, ?_⟩, ?_⟩
    · rw [Nat.add_sub_cancel]; exact h0
    · rw [Nat.add_sub_cancel, hp, hs, Int.toNat_natCast]; exact hts
    · rw [stackP, hg, stackStep, List.length_append, List.length_take, hm]
      simp
theorem stack_room (l : List Nd) (hr : rightB l = true) (k : Nat) (x : Nd) (hx : l[k]? = some x) : 0 ≤ arity x.kind ∧ (arity x.kind).toNat ≤ (stackP l k).length := by
  obtain ⟨_, hall, _⟩ := (rightB_iff l).1 hr
  have hk := (List.getElem?_eq_some_iff.1 hx).1
  obtain ⟨m, ht, hm⟩ := stack_tiles l hr k (by omega)
  have h0 := (hall k hk).1
  have hp := fst1_pop l k _ hx
  have h1 := pop_tiles l (arity x.kind).toNat k m ht
  have ha : ¬ arity x.kind < 0 := by intro h; rw [if_pos h] at hp; omega
  rw [if_neg ha] at hp
  refine ⟨by omega, ?_⟩
  rw [hm]
  rcases Nat.lt_or_ge m (arity x.kind).toNat with h | h
  · have := h1.2 h; rw [hp] at h0; exact absurd h0 (by omega)
  · exact h
theorem stack_end (l : List Nd) (hr : rightB l = true) : 1 ≤ (stackP l l.length).length := by
  obtain ⟨m, ht, hm⟩ := stack_tiles l hr l.length (by omega)
  obtain ⟨_, _, h0, _⟩ := (rightB_iff l).1 hr
  rw [hm]
  cases m with
  | zero => exact absurd ht (by show ¬ l.length = 0; omega)
  | succ m => omega
end Go.Proofs.Ytibabfgfahlekaa
end
section
/- Pruned from its seat's text: what the theorem hangs on. -/
-- Written by aprint.py (a program of this session, over the kit's print): Lean checks it.
namespace Go.Proofs.YtibabfgfahlekaaQ
open Go.RowKit Go.Proofs.YtibabfgfahlekaaW.PrintWords Go.Proofs.YtibabfgfahlekaaW.PrintLast Go.Proofs.YtibabfgfahlekaaW.PrintMore
attribute [local go_sem] max2_int min2_int max_two min_two max_three min_three max_four min_four   -- for this text's walks alone
set_option linter.unusedVariables false
set_option linter.unusedSimpArgs false

theorem isAggE29 (w : World) : (isAgg 27).run Try.prog w = .ok false w := by kernel_rfl
theorem rangeE29 : List.range' 0 4 = [0, 1, 2, 3] := rfl
theorem eqA29 (d : Nat) (w : World) (x0 y0 : Int) (x1 y1 : Int) (x2 y2 : Int) (x3 y3 : Int) :
    (Op.equalIn (d + 2) 29 (.agg #[.int .u64 x0, .int .u64 x1, .int .u64 x2, .int .u64 x3]) (.agg #[.int .u64 y0, .int .u64 y1, .int .u64 y2, .int .u64 y3])).run Try.prog w = .ok (x0 == y0 && (x1 == y1 && (x2 == y2 && (x3 == y3)))) w := by
  unfold Op.equalIn
  simp only [Sem.run_bind, run_underlying Try.underlying29, Result.andThen_ok]
  simp [go_sem, rangeE29, isAggE29]
  by_cases h0 : x0 = y0 <;> by_cases h1 : x1 = y1 <;> by_cases h2 : x2 = y2 <;> by_cases h3 : x3 = y3 <;> simp [go_sem, isAggE29, h0, h1, h2, h3]
end Go.Proofs.YtibabfgfahlekaaQ
end
section
/- Pruned from its seat's text: what the theorem hangs on. -/
/- Sets as four words: what the printed texts (Int words) and the plain laws (Bs.S) have to do with each other. -/
namespace Go.Proofs.YtibabfgfahlekaaQ
open Go.RowKit Go.Proofs.Bs

def wfI (a b c d : Int) : Prop := (0 ≤ a ∧ a < 18446744073709551616) ∧ (0 ≤ b ∧ b < 18446744073709551616) ∧ (0 ≤ c ∧ c < 18446744073709551616) ∧ 0 ≤ d ∧ d < 18446744073709551616
instance (a b c d : Int) : Decidable (wfI a b c d) := by unfold wfI; infer_instance
def setI (a b c d : Int) : S := ⟨a.toNat, b.toNat, c.toNat, d.toNat⟩
theorem setI_wf {a b c d : Int} (h : wfI a b c d) : (setI a b c d).wf := by
  obtain ⟨⟨a0, a1⟩, ⟨b0, b1⟩, ⟨c0, c1⟩, d0, d1⟩ := h
  refine ⟨?_, ?_, ?_, ?_⟩ <;> (simp only [setI, W]; omega)
theorem setI_cast {a b c d : Int} (h : wfI a b c d) : ((setI a b c d).a : Int) = a ∧ ((setI a b c d).b : Int) = b ∧ ((setI a b c d).c : Int) = c ∧ ((setI a b c d).d : Int) = d := by
  obtain ⟨⟨a0, a1⟩, ⟨b0, b1⟩, ⟨c0, c1⟩, d0, d1⟩ := h
  refine ⟨?_, ?_, ?_, ?_⟩ <;> (simp only [setI]; omega)
theorem wfI_of (s : S) (h : s.wf) : wfI s.a s.b s.c s.d := by
  have ha := h.a; have hb := h.b; have hc := h.c; have hd := h.d
  unfold W at *
  unfold wfI
  omega
theorem setI_of (s : S) : setI s.a s.b s.c s.d = s := by simp [setI]
end Go.Proofs.YtibabfgfahlekaaQ
end
section
/- Pruned from its seat's text: what the theorem hangs on. -/
/- The walks of the document's answer for trees: Kids. -/
set_option linter.unusedVariables false
set_option linter.unusedSimpArgs false
namespace Go.Proofs.Ytibabfgfahlekaa
open Go.RowKit Go.Proofs.Bs

set_option maxHeartbeats 1600000 in
theorem rkids_any (A : Option Addr) (n c : Nat) (l : List Nd) (i : Nat) (w : World) (h : Reads w 7 A n (l.flatMap Nd.cells)) (hn : n ≤ 1000000) (hi : i < n) (hf : 0 ≤ fst1 l i) :
    Calls Try.prog 33 #[.slice A n c, .int .i64 i] w fun e w' => ∃ A1 c1, e = .returned (.slice A1 (kidsP l i).length c1) ∧ w'.ownsRow w.heap.size 3 1 (.slice A1 (kidsP l i).length c1) (kidsP l i).length (ints (kidsP l i)) ∧ Below w.heap.size w w' := by
  have hl := h.length Nd.cells Nd.cells_length (by omega)
  have HL := Lib.hid hl
  have HF := Lib.hid hf
  clear hl hf
  go_enter Try.func33, Try.ntmps33
  go_wp2_with fail
  refine (rfirsts_any A n c l _ h hn).mono ?_
  rintro e w1 ⟨Af, cf, rfl, HOf, hb1⟩
  have h1 := h.below hb1
  obtain ⟨ad, x, rfl, hx, c0, c1, c2, c3, c4, c5, c6⟩ := h1.nd hi
  have hf := HF.out
  have HX := Lib.hid hx
  obtain ⟨ha0, hok⟩ := kids_ok l i x hx hf
  have hkk := kidsP_eq l i x hx hf
  have ha2 := arity_hi x.kind
  have HK := Lib.hid hkk
  have hRf := Reads.of_own HOf
  clear hf hx hkk c1 c2 c3 c4 c5 c6
  go_wp2_with (go_at_call 45; refine (rargs_any _ _).mono ?_; rintro e w2 ⟨rfl, hb2⟩)
  have hRf2 := hRf.below hb2
  have hb02 := bel_then hb1 hb2
  go_loopw [6, 7, 8] (fun o a r wr => ∃ (A1 : Option Addr) (c1 q m : Nat) (at_ : Int) (ys : List Int), o = .slice A1 q c1 ∧ wr.ownsRow w2.heap.size 3 1 (.slice A1 q c1) q (ints ys) ∧ a = .int .i64 at_ ∧ r = .int .i64 m ∧ q + m ≤ 2 ∧ -1 ≤ at_ ∧ at_ < n ∧ kidsOk l m at_ ∧ (kidsDown l m at_).reverse ++ ys = (kidsDown l (arity x.kind).toNat ((i : Int) - 1)).reverse ∧ Below w2.heap.size w2 wr) (fun _ _ r _ => (intOf r).toNat)
  case atStart => exact ⟨none, 0, 0, (arity x.kind).toNat, (i : Int) - 1, [], rfl, own_new, rfl, by rw [Int.toNat_of_nonneg ha0], by omega, by omega, by omega, hok, by simp, Below.refl _ _⟩
  case round =>
    obtain ⟨A1, c1, q, m, at_, ys, rfl, HO, rfl, rfl, hqm, hat0, hat1, hok', hys, hb⟩ := hrel
    have hq : ys.length = q := by have := HO.1; rw [ints_length] at this; omega
    have HY := Lib.hid hys
    have HQ := Lib.hid hq
    have HOK := Lib.hid hok'
    clear hys hq hok' hok
    cases m with
    | zero =>
      go_wp2_with fail
      go_ret
      have e1 : kidsP l i = ys := by rw [HK.out, ← HY.out]; simp [kidsDown]
      rw [e1, HQ.out]
      exact ⟨A1, c1, rfl, own_mono HO hb02.size, bel_then hb02 hb⟩
    | succ m =>
      have hl := HL.out
      obtain ⟨k1, k2, k3, k4⟩ := HOK.out
      obtain ⟨a0, rfl⟩ := Int.eq_ofNat_of_zero_le k1
      rw [Int.toNat_natCast] at k3 k4
      have ha : a0 < n := by omega
      obtain ⟨adf, y, hAf, hy, cy⟩ := hRf2.int ha
      subst hAf
      have hy' : y = fst1 l a0 := by rw [firstsTo_at l n a0 ha] at hy; injection hy with hy; exact hy.symm
      have HY' := Lib.hid hy'
      have hr0 : 0 ≤ y := by omega
      have hr1 : y ≤ a0 := by have := fst1_range l a0; omega
      have HK4 := Lib.hid k4
      clear hy hy' k4 hl k2
      go_wp2_with (at_builtin; refine app_any rfl (.tmp 24) (.tmp 25) 52 rfl w2.heap.size 3 Try.underlying52 info_int rfl (by omega) (by omega) _ 1 [.int .i64 (a0 : Int)] rfl (own_lit _ _ _ _ hb.size (by omega) rfl) A1 q c1 (ints ys) rfl (Reads.of_own (HO.alloc _)) (ints_one _) (by omega) (bel_alloc hb _) (Nat.le_refl _) (by have := hb.size; simp; omega) ?_; intro A2 c2 w3 HO2 hg2 hb3; have cy2 := cell_below hb3 cy)
      go_roundw
      case rel =>
        have hl := HL.out
        refine ⟨A2, c2, q + 1, m, y - 1, (a0 : Int) :: ys, by rw [Nat.add_comm], by rw [Nat.add_comm]; simpa [ints] using HO2, by go_num, by go_num, by omega, by omega, by omega, by rw [HY'.out]; exact HK4.out, ?_, hb3⟩
        rw [← HY.out, HY'.out]
        simp only [kidsDown, List.reverse_cons, List.append_assoc, List.singleton_append]
        rw [first_eq l a0 (by omega)]
      case measure => simp [intOf] <;> omega

end Go.Proofs.Ytibabfgfahlekaa
end
section
/- Pruned from its seat's text: what the theorem hangs on. -/
/- Plain: how deep a tree is, by going down. -/
namespace Go.Proofs.Ytibabfgfahlekaa
open Go.Proofs.Bs

set_option linter.unusedVariables false

/-- The last nodes of so many parts, the first one first, that end ahead of a place. -/
def roots (l : List Nd) (m k : Nat) : List Int := (kidsDown l m ((k : Int) - 1)).reverse
theorem kidsDown_add (l : List Nd) (a b : Nat) : ∀ k : Nat, k ≤ l.length → ∀ s : Nat, popG l a k = s → kidsDown l (a + b) ((k : Int) - 1) = kidsDown l a ((k : Int) - 1) ++ kidsDown l b ((s : Int) - 1) := by
  induction a with
  | zero =>
    intro k _ s hs
    have : (k : Int) = s := hs
    rw [Nat.zero_add, this]
    rfl
  | succ a ih =>
    intro k hk s hs
    unfold popG at hs
    rw [if_neg (show ¬ (k : Int) < 0 by omega)] at hs
    by_cases h0 : (k : Int) = 0
    · rw [if_pos h0, popG_neg _ _ _ (by omega)] at hs; omega
    · rw [if_neg h0, show ((k : Int) - 1).toNat = k - 1 by omega] at hs
      have hr := fst1_range l (k - 1)
      have h1 : 0 ≤ fst1 l (k - 1) := by
        by_cases h2 : fst1 l (k - 1) < 0
        · rw [popG_neg _ _ _ h2] at hs; omega
        · omega
      obtain ⟨f, hf⟩ := Int.eq_ofNat_of_zero_le h1
      rw [hf] at hs
      have := ih f (by omega) s hs
      have e : firstI l ((k : Int) - 1) = f := by
        rw [show (k : Int) - 1 = ((k - 1 : Nat) : Int) by omega, first_eq l _ (by omega), hf]
      rw [show a + 1 + b = (a + b) + 1 by omega]
      show _ :: kidsDown l (a + b) (firstI l ((k : Int) - 1) - 1) = (_ :: kidsDown l a (firstI l ((k : Int) - 1) - 1)) ++ _
      rw [e, this]
      rfl

end Go.Proofs.Ytibabfgfahlekaa
end
section
/- Pruned from its seat's text: what the theorem hangs on. -/
/- Lists as the printed texts read them; sets and runs among a law's arguments. -/
set_option linter.unusedVariables false
set_option linter.unusedSimpArgs false
namespace Go.Proofs.YtibabfgfahlekaaQ
open Go.ChangeShapes Go.WideShapes Go.ChangeAt Go.RowKit Go.Deep Go.Proofs.Ytibabfgfahlekaa Go.Proofs.Bs
open Go.Proofs.YtibabfgfahlekaaW.PrintWords (Kd)
section
variable {H : Type} {enc : TypeId × Value → H} {w : World} {base : Nat} {spare : Nat → Bool} {held : Bool}
theorem kslice_le {t e : TypeId} (ht : Try.prog.underlying t = some (.slice e)) {A : Option Addr} {len cap : Nat} {d : DataW H} {ps : List MemPlace} (h : DataW.Trod enc Try.prog w base spare held t (.slice A len cap) d ps) : len ≤ 9223372036854775807 := by
  obtain ⟨fuel, h⟩ := h
  rcases open_slice ht h with ⟨hcs, hx⟩ | ⟨a, len', cap', m, n, D, Pl, hcs, _, hl, hm, _⟩
  · have hcs : Value.slice A len cap = .slice none 0 0 := by simpa [Value.cells] using hcs
    injection hcs with h1 h2 h3
    omega
  · have hcs : Value.slice A len cap = .slice (some a) len' cap' := by simpa [Value.cells] using hcs
    injection hcs with h1 h2 h3
    have : maxLen ≤ 9223372036854775807 := by simp only [maxLen]; omega
    omega
theorem kC_of {α : Type} (d : Kd α) (f : α → List Value) {size : Nat} (hs : d.sz = size) (hf : ∀ x, (f x).length = size) (hk : ∀ x, d.K w x (f x)) {A : Option Addr} {n : Nat} {l : List α} (hp : 0 < size) (h : Reads w size A n (l.flatMap f)) (hn : n ≤ 9223372036854775807) : Kd.C d w A n l := by
  subst hs
  refine ⟨Reads.length f hf hp h, by omega, fun h0 => ?_⟩
  obtain ⟨ad, e, hc⟩ := h.2 h0
  refine ⟨ad, e, fun j p hj => ⟨f p, hf p, hk p, fun i u hu => hc _ u ?_⟩⟩
  have hi := (List.getElem?_eq_some_iff.1 hu).1
  rw [hf] at hi
  rw [flat_at f d.sz hf l j p hj i hi]
  exact hu
theorem kcellsU64 : Try.prog.cellsOf 27 = 1 := by kernel_rfl
theorem kcellsSet : Try.prog.cellsOf 29 = 4 := by kernel_rfl
theorem kopen_u64 {fuel : Nat} {cs : List Value} {x : DataW H × List MemPlace} (h : DataW.trod enc Try.prog w base spare held fuel 27 cs = some x) : ∃ a : Int, cs = [.int .u64 a] ∧ 0 ≤ a ∧ a < 18446744073709551616 := by
  obtain ⟨n, rfl, _, hw⟩ := DataW.trod_int Try.underlying27 h
  have hb := bounds_u64 hw
  exact ⟨n, rfl, by omega, by omega⟩
theorem kopen_set {fuel : Nat} {cs : List Value} {x : DataW H × List MemPlace} (h : DataW.trod enc Try.prog w base spare held fuel 29 cs = some x) :
    ∃ s : S29, wfI s.f0 s.f1 s.f2 s.f3 ∧ cs = [.int .u64 s.f0, .int .u64 s.f1, .int .u64 s.f2, .int .u64 s.f3] := by
  obtain ⟨xs, m, _, _, hlen, hxl, hf⟩ := DataW.trod_array Try.underlying29 h
  rw [kcellsSet] at hlen
  simp only [kcellsU64, Nat.mul_one] at hf
  match cs, hlen, xs, hxl with
  | [c0, c1, c2, c3], _, [x0, x1, x2, x3], _ =>
    obtain ⟨a, ha, wa⟩ := kopen_u64 (by simpa using hf 0 (by omega))
    obtain ⟨b, hb, wb⟩ := kopen_u64 (by simpa using hf 1 (by omega))
    obtain ⟨c, hc, wc⟩ := kopen_u64 (by simpa using hf 2 (by omega))
    obtain ⟨d, hd, wd⟩ := kopen_u64 (by simpa using hf 3 (by omega))
    injection ha with ha
    injection hb with hb
    injection hc with hc
    injection hd with hd
    subst ha hb hc hd
    exact ⟨⟨a, b, c, d⟩, ⟨wa, wb, wc, wd⟩, rfl⟩
end
end Go.Proofs.YtibabfgfahlekaaQ
end
section
/- Pruned from its seat's text: what the theorem hangs on. -/
/- Nodes as the printed texts read them, and as the walks by hand do. -/
set_option linter.unusedVariables false
set_option linter.unusedSimpArgs false
namespace Go.Proofs.YtibabfgfahlekaaQ
open Go.RowKit Go.Proofs.Bs Go.Proofs.Ytibabfgfahlekaa Go.Proofs.YtibabfgfahlekaaW.PrintWords
abbrev NdI := S63
def ndOf (x : NdI) : Nd := ⟨x.f0, setI x.f1.f0 x.f1.f1 x.f1.f2 x.f1.f3, x.f2, x.f3⟩
def ndWf (x : NdI) : Prop := wfI x.f1.f0 x.f1.f1 x.f1.f2 x.f1.f3
instance (x : NdI) : Decidable (ndWf x) := by unfold ndWf; infer_instance
def ndsWf (l : List NdI) : Bool := l.all fun x => decide (ndWf x)
theorem ndsWf_at {l : List NdI} (h : ndsWf l = true) {x : NdI} (hx : x ∈ l) : ndWf x := of_decide_eq_true (List.all_eq_true.1 h x hx)
theorem nd_cells {x : NdI} (h : ndWf x) : (ndOf x).cells = [.int .i64 x.f0, .int .u64 x.f1.f0, .int .u64 x.f1.f1, .int .u64 x.f1.f2, .int .u64 x.f1.f3, .int .i64 x.f2, .int .i64 x.f3] := by
  obtain ⟨e0, e1, e2, e3⟩ := setI_cast h
  unfold Nd.cells ndOf
  simp only [e0, e1, e2, e3]
theorem reads_nds {w : World} {A : Option Addr} {l : List NdI} (h : Kd.C k63 w A l.length l) (hw : ndsWf l = true) : Reads w 7 A l.length ((l.map ndOf).flatMap Nd.cells) := by
  have hlen : ((l.map ndOf).flatMap Nd.cells).length = l.length * 7 := by rw [flat_length Nd.cells 7 Nd.cells_length, List.length_map]
  refine ⟨hlen, fun hp => ?_⟩
  obtain ⟨ad, e, hc⟩ := h.2.2 hp
  refine ⟨ad, e, fun j u hu => ?_⟩
  have hj := (List.getElem?_eq_some_iff.1 hu).1
  rw [hlen] at hj
  have hq : j / 7 < l.length := by omega
  have hr : j % 7 < 7 := by omega
  have hdm : j = j / 7 * 7 + j % 7 := by omega
  obtain ⟨cs, hl, hK, hcell⟩ := hc (j / 7) _ (List.getElem?_eq_getElem hq)
  have hcs := k63_open hK
  have hel : (l.map ndOf)[j / 7]? = some (ndOf l[j / 7]) := by rw [List.getElem?_map, List.getElem?_eq_getElem hq]; rfl
  rw [hdm, flat_at Nd.cells 7 Nd.cells_length _ _ _ hel _ hr, nd_cells (ndsWf_at hw (List.getElem_mem hq)), ← hcs] at hu
  rw [hdm]
  exact hcell _ u hu
end Go.Proofs.YtibabfgfahlekaaQ
end
section
/- Pruned from its seat's text: what the theorem hangs on. -/
/- byteset.Has, tattingref01.Has: walked; told as the printed texts are. -/
set_option linter.unusedVariables false
set_option linter.unusedSimpArgs false
namespace Go.Proofs.YtibabfgfahlekaaQ
open Go.RowKit Go.Proofs.Bs

theorem bit_at (x n : Nat) (hx : x < W) : (bits .and .u64 ((x : Int) / 2 ^ n) 1 == 1) = x.testBit n := by
  have e : ((x : Int) / 2 ^ n) = ((x / 2 ^ n : Nat) : Int) := by simp
  have h := u64_and_nat (x / 2 ^ n) 1 (Nat.lt_of_le_of_lt (Nat.div_le_self _ _) hx) (by omega)
  rw [e, show (1 : Int) = ((1 : Nat) : Int) from rfl, h, Nat.testBit_eq_decide_div_mod_eq, Nat.and_one_is_mod]
  by_cases c : x / 2 ^ n % 2 = 1
  · simp [c]
  · rw [decide_eq_false c]
    simp
    omega
theorem ret_has {a b : Bool} (h : a = b) : Ending.returned (Value.bool a) = Ending.returned (Value.bool b) := by rw [h]
theorem has_at (s : S) (hs : s.wf) (b : Int) (h0 : 0 ≤ b) (q : Nat) (hq : b / 64 = q) : (bits .and .u64 ((s.word q : Int) / 2 ^ (b % 64).toNat) 1 == 1) = has s b.toNat := by
  rw [bit_at _ _ (hs.wf_word q)]
  unfold has
  rw [show b.toNat / 64 = q by omega, show b.toNat % 64 = (b % 64).toNat by omega]
theorem has_walk (s : S) (hs : s.wf) (b : Int) (h0 : 0 ≤ b) (h1 : b < 256) (w : World) : Calls Try.prog 44 #[.agg #[.int .u64 s.a, .int .u64 s.b, .int .u64 s.c, .int .u64 s.d], .int .u8 b] w fun e w' => e = .returned (.bool (has s b.toNat)) ∧ Below w.heap.size w w' := by
  rcases (show b / 64 = (0 : Nat) ∨ b / 64 = (1 : Nat) ∨ b / 64 = (2 : Nat) ∨ b / 64 = (3 : Nat) by omega) with hq | hq | hq | hq
  all_goals
    have H := Lib.hid (has_at s hs b h0 _ hq)
    go_enter Try.func44, Try.ntmps44
    go_wp2
    go_ret
    exact ⟨ret_has H.out, (Below.refl _ _).alloc (Nat.le_refl _) _⟩

def byteset_Has.f (a0_0 a0_1 a0_2 a0_3 a1 : Int) : Option Bool := if wfI a0_0 a0_1 a0_2 a0_3 ∧ 0 ≤ a1 ∧ a1 < 256 then some (has (setI a0_0 a0_1 a0_2 a0_3) a1.toNat) else none
theorem byteset_Has.calls (a0_0 a0_1 a0_2 a0_3 : Int) (a1 : Int) (r : Bool) (w : World) (h : byteset_Has.f a0_0 a0_1 a0_2 a0_3 a1 = some r) :
    Calls Try.prog 44 #[.agg #[.int .u64 a0_0, .int .u64 a0_1, .int .u64 a0_2, .int .u64 a0_3], .int .u8 a1] w fun e w' => e = .returned (.bool r) ∧ Below w.heap.size w w' := by
  unfold byteset_Has.f at h
  split at h
  case isFalse => cases h
  case isTrue c =>
    injection h with h
    subst h
    obtain ⟨e0, e1, e2, e3⟩ := setI_cast c.1
    have hw := has_walk (setI a0_0 a0_1 a0_2 a0_3) (setI_wf c.1) a1 c.2.1 c.2.2 w
    rw [e0, e1, e2, e3] at hw
    exact hw
end Go.Proofs.YtibabfgfahlekaaQ
end
section
/- Pruned from its seat's text: what the theorem hangs on. -/
/- Lists of nodes among a law's arguments, as the printed texts read them. -/
set_option linter.unusedVariables false
set_option linter.unusedSimpArgs false
namespace Go.Proofs.YtibabfgfahlekaaQ
open Go.ChangeShapes Go.WideShapes Go.ChangeAt Go.RowKit Go.Deep Go.Proofs.Ytibabfgfahlekaa Go.Proofs.Bs
open Go.Proofs.YtibabfgfahlekaaW.PrintWords (Kd)
section
variable {H : Type} {enc : TypeId × Value → H} {w : World} {base : Nat} {spare : Nat → Bool} {held : Bool}
theorem kcellsNode : Try.prog.cellsOf 63 = 7 := by kernel_rfl
def ndCells (x : NdI) : List Value := [.int .i64 x.f0, .int .u64 x.f1.f0, .int .u64 x.f1.f1, .int .u64 x.f1.f2, .int .u64 x.f1.f3, .int .i64 x.f2, .int .i64 x.f3]
set_option maxRecDepth 100000 in
theorem open_nd {fuel : Nat} {cs : List Value} {x : DataW H × List MemPlace} (h : DataW.trod enc Try.prog w base spare held fuel 63 cs = some x) : ∃ n : NdI, cs = ndCells n ∧ ndWf n := by
  obtain ⟨xs, m, _, _, hlen, hxl, hf⟩ := DataW.trod_struct Try.underlying63 h
  rw [kcellsNode] at hlen
  have hxl : xs.length = 4 := hxl
  match cs, hlen, xs, hxl with
  | [c0, c1, c2, c3, c4, c5, c6], _, [x0, x1, x2, x3], _ =>
    have h0 := hf 0 _ rfl
    have h1 := hf 1 _ rfl
    have h2 := hf 2 _ rfl
    have h3 := hf 3 _ rfl
    simp [cellsInt] at h0
    simp [kcellsSet] at h1
    simp [cellsInt] at h2
    simp [cellsInt] at h3
    obtain ⟨k, hk, k0, k1⟩ := open_i64 h0
    obtain ⟨s, hs, hse⟩ := kopen_set h1
    obtain ⟨a, ha, l0, l1⟩ := open_i64 h2
    obtain ⟨b, hb, q0, q1⟩ := open_i64 h3
    obtain rfl : c0 = .int .i64 k := by simpa using hk
    obtain rfl : c5 = .int .i64 a := by simpa using ha
    obtain rfl : c6 = .int .i64 b := by simpa using hb
    obtain ⟨rfl, rfl, rfl, rfl⟩ : c1 = .int .u64 s.f0 ∧ c2 = .int .u64 s.f1 ∧ c3 = .int .u64 s.f2 ∧ c4 = .int .u64 s.f3 := by simpa using hse
    exact ⟨⟨k, s, a, b⟩, rfl, hs⟩
theorem open_knodes {A : Option Addr} {len cap : Nat} {d : DataW H} {ps : List MemPlace} (h : DataW.Trod enc Try.prog w base spare held 22 (.slice A len cap) d ps) :
    ∃ l : List NdI, l.length = len ∧ Kd.C k63 w A len l ∧ len ≤ cap ∧ ndsWf l = true := by
  obtain ⟨l, hr, hl, hok, _⟩ := open_list ndCells ndWf (fun _ => rfl) ⟨0, ⟨0, 0, 0, 0⟩, 0, 0⟩ Try.underlying22 kcellsNode open_nd h
  have hC := kC_of (size := 7) k63 ndCells rfl (fun _ => rfl) (fun x => k63_mk w x) (by omega) hr (kslice_le Try.underlying22 h)
  exact ⟨l, hC.1, hC, hl, List.all_eq_true.2 fun x hx => decide_eq_true (hok x hx)⟩
end
end Go.Proofs.YtibabfgfahlekaaQ
end
section
/- Pruned from its seat's text: what the theorem hangs on. -/
/- tattingref01.Has: walked; told as the printed texts are. -/
set_option linter.unusedVariables false
set_option linter.unusedSimpArgs false
namespace Go.Proofs.YtibabfgfahlekaaQ
open Go.RowKit Go.Proofs.Bs

theorem rhas_walk (s : S) (hs : s.wf) (b : Int) (h0 : 0 ≤ b) (h1 : b < 256) (w : World) : Calls Try.prog 16 #[.agg #[.int .u64 s.a, .int .u64 s.b, .int .u64 s.c, .int .u64 s.d], .int .i64 b] w fun e w' => e = .returned (.bool (has s b.toNat)) ∧ Below w.heap.size w w' := by
  rcases (show b / 64 = (0 : Nat) ∨ b / 64 = (1 : Nat) ∨ b / 64 = (2 : Nat) ∨ b / 64 = (3 : Nat) by omega) with hq | hq | hq | hq
  all_goals
    have H := Lib.hid (has_at s hs b h0 _ hq)
    go_enter Try.func16, Try.ntmps16
    go_wp2
    go_ret
    exact ⟨ret_has H.out, (Below.refl _ _).alloc (Nat.le_refl _) _⟩

def tattingref01_Has.f (a0_0 a0_1 a0_2 a0_3 a1 : Int) : Option Bool := if wfI a0_0 a0_1 a0_2 a0_3 ∧ 0 ≤ a1 ∧ a1 < 256 then some (has (setI a0_0 a0_1 a0_2 a0_3) a1.toNat) else none
theorem tattingref01_Has.calls (a0_0 a0_1 a0_2 a0_3 : Int) (a1 : Int) (r : Bool) (w : World) (h : tattingref01_Has.f a0_0 a0_1 a0_2 a0_3 a1 = some r) :
    Calls Try.prog 16 #[.agg #[.int .u64 a0_0, .int .u64 a0_1, .int .u64 a0_2, .int .u64 a0_3], .int .i64 a1] w fun e w' => e = .returned (.bool r) ∧ Below w.heap.size w w' := by
  unfold tattingref01_Has.f at h
  split at h
  case isFalse => cases h
  case isTrue c =>
    injection h with h
    subst h
    obtain ⟨e0, e1, e2, e3⟩ := setI_cast c.1
    have hw := rhas_walk (setI a0_0 a0_1 a0_2 a0_3) (setI_wf c.1) a1 c.2.1 c.2.2 w
    rw [e0, e1, e2, e3] at hw
    exact hw
end Go.Proofs.YtibabfgfahlekaaQ
end
section
/- Pruned from its seat's text: what the theorem hangs on. -/
/- tattingref04.Kids: told as the printed texts are. -/
set_option linter.unusedVariables false
set_option linter.unusedSimpArgs false
namespace Go.Proofs.YtibabfgfahlekaaQ
open Go.RowKit Go.Proofs.Bs Go.Proofs.Ytibabfgfahlekaa Go.Proofs.YtibabfgfahlekaaW.PrintWords
def tattingref04_Kids.f (l0 : List NdI) (a1 : Int) : Option (List Int) := if l0.length ≤ 1000000 ∧ ndsWf l0 = true ∧ 0 ≤ a1 ∧ a1 < l0.length ∧ 0 ≤ fst1 (l0.map ndOf) a1.toNat then some (kidsP (l0.map ndOf) (a1.toNat : Nat)) else none
theorem tattingref04_Kids.calls (A0 : Option Addr) (c0 : Nat) (l0 : List NdI) (a1 : Int) (r : List Int) (w : World) (hr0 : Kd.C k63 w A0 l0.length l0) (hc0 : l0.length ≤ c0) (h : tattingref04_Kids.f l0 a1 = some r) :
    Calls Try.prog 33 #[.slice A0 l0.length c0, .int .i64 a1] w fun e w' => ∃ v0_ : Value, e = .returned (v0_) ∧ Kd.R (Kd.int .i64) 3 w' w.heap.size (fun _ => True) v0_ r ∧ Below w.heap.size w w' := by
  unfold tattingref04_Kids.f at h
  split at h
  case isFalse => cases h
  case isTrue c =>
    obtain ⟨h0, h1, h2, h3, h4⟩ := c
    injection h with h
    subst h
    have hw := rkids_any A0 l0.length c0 (l0.map ndOf) a1.toNat w (reads_nds hr0 h1) h0 (by omega) h4
    rw [Int.toNat_of_nonneg h2] at hw
    refine hw.mono ?_
    rintro e w' ⟨A1, c1, rfl, ho, hb⟩
    refine ⟨_, rfl, Kd.R_of_own (enc := Value.int .i64) (h1 := fun _ => rfl) ?_ (fun _ _ => trivial), hb⟩
    rw [Int.toNat_of_nonneg h2]
    exact ho
end Go.Proofs.YtibabfgfahlekaaQ
end
section
/- Pruned from its seat's text: what the theorem hangs on. -/
-- Written by aprint.py (a program of this session, over the kit's print): Lean checks it.
namespace Go.Proofs.YtibabfgfahlekaaQ
open Go.RowKit Go.Proofs.YtibabfgfahlekaaW.PrintWords Go.Proofs.YtibabfgfahlekaaW.PrintLast Go.Proofs.YtibabfgfahlekaaW.PrintMore
attribute [local go_sem] max2_int min2_int max_two min_two max_three min_three max_four min_four   -- for this text's walks alone
set_option linter.unusedVariables false
set_option linter.unusedSimpArgs false


def tattingref09_Fits.T3 : Bool × List (List Nat × List Nat) := (true, [([], []), ([], []), ([0, 1], [0, 1]), ([], []), ([3], [3]), ([2, 4], [2, 4]), ([5], [5]), ([6, 2, 0, 1, 2, 3, 4, 5, 6], [6])])
def tattingref09_Fits.B3 : List Nat := [0, 0, 3, 0, 8, 31, 63, 127]
theorem tattingref09_Fits.tab3 : rtab .any (opsOf Try.f30 3) = tattingref09_Fits.T3 := by kernel_rfl
theorem tattingref09_Fits.bits3 : waitsOk tattingref09_Fits.T3.2 tattingref09_Fits.B3 = true := by kernel_rfl
def tattingref09_Fits.T9 : Bool × List (List Nat × List Nat) := (true, [([], []), ([], []), ([], []), ([], []), ([2, 3], [2, 3]), ([4], [4]), ([0, 1, 5], [0, 1, 5]), ([6, 6, 0, 1, 2, 3, 4, 5, 6], [1, 6])])
def tattingref09_Fits.B9 : List Nat := [0, 0, 0, 0, 12, 28, 63, 127]
theorem tattingref09_Fits.tab9 : rtab .any (opsOf Try.f30 9) = tattingref09_Fits.T9 := by kernel_rfl
theorem tattingref09_Fits.bits9 : waitsOk tattingref09_Fits.T9.2 tattingref09_Fits.B9 = true := by kernel_rfl

end Go.Proofs.YtibabfgfahlekaaQ
end
