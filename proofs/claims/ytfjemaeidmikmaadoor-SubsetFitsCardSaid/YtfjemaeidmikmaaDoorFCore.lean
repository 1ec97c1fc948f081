import Derived.Test.YtfjemaeidmikmaaDoorProg
import Derived.WalkKit
import Derived.KernelRfl
import Derived.Outline
import Derived.Below
import Derived.Lib.Hide
import Derived.Deep.QuietTactic
import Derived.Deep.LoopGhost
import Derived.BigQuiet
import Derived.WalkLawsBesides
import Derived.WalkSpells
import Derived.Laws.StructEq
import Derived.Laws.OwnMore
import Derived.Laws.MakeOwn
import Derived.Laws.Rows
import Derived.Deep.AppendLies
import Derived.Deep.Draws
import Derived.Deep.DeepCutAuto
import Derived.Deep.CutBlock
import Derived.OwnWalk
import Derived.Handy
import Derived.Deep.Light
set_option linter.unusedVariables false
set_option linter.unusedSimpArgs false
namespace Go.Proofs.YtfjemaeidmikmaaDoor
open Go.RowKit
theorem ret_bool {a b : Bool} (h : a = b) : Ending.returned (.bool a) = .returned (.bool b) := by rw [h]
theorem ret_int {k : IntKind} {a b : Int} (h : a = b) : Ending.returned (.int k a) = .returned (.int k b) := by rw [h]
theorem bel_alloc {w W : World} (h : Below w.heap.size w W) (o : Obj) : Below w.heap.size w (W.alloc o) := h.alloc h.size o
theorem bel_then {w W W' : World} (h : Below w.heap.size w W) (k : Below W.heap.size W W') : Below w.heap.size w W' :=
  h.trans ⟨k.os, k.tape, k.output, k.size, fun i hi => k.block i (Nat.lt_of_lt_of_le hi h.size)⟩
theorem bel_set {w W : World} (h : Below w.heap.size w W) {p : Addr} (hp : w.heap.size ≤ p.block) (u : Value) : Below w.heap.size w (W.setCell p u) := h.setCell hp u
theorem bel_drewN {w W : World} (h : Below w.heap.size w W) (n : Nat) : Below w.heap.size w (W.drewN n) := ⟨h.os, h.tape, h.output, h.size, h.block⟩
theorem bel_drew {w W : World} (h : Below w.heap.size w W) : Below w.heap.size w W.drew := h.drew
structure SameAs (W w' : World) : Prop where
  heap : w'.heap = W.heap
  os : w'.os = W.os
  output : w'.output = W.output
  tape : w'.tape = W.tape
theorem SameAs.refl (W : World) : SameAs W W := ⟨rfl, rfl, rfl, rfl⟩
theorem SameAs.row {w' W : World} (h : SameAs W w') {base e size n : Nat} {v : Value} {xs : List Value} (HO : W.ownsRow base e size v n xs) : w'.ownsRow base e size v n xs := by
  unfold World.ownsRow at *;rw [h.heap];exact HO
theorem SameAs.grown {w w' W : World} (h : SameAs W w') {row : Option Nat} (k : w.grownBy W row) : w.grownBy w' row :=
  ⟨h.os.trans k.os, h.tape.trans k.tape, h.output.trans k.output, by rw [h.heap]; exact k.size, fun i hi hne => by rw [h.heap]; exact k.block i hi hne⟩
theorem SameAs.below {w w' W : World} (h : SameAs W w') {B : Nat} (k : Below B w W) : Below B w w' :=
  ⟨h.os.trans k.os, h.tape.trans k.tape, h.output.trans k.output, by rw [h.heap]; exact k.size, fun i hi => by rw [h.heap]; exact k.block i hi⟩
theorem add_of_add (a : Addr) (i j : Nat) : (a.add i).add j = a.add (i + j) := by
  unfold Addr.add;by_cases hi : i = 0 <;> by_cases hj : j = 0 <;> simp [hi, hj, Nat.add_assoc]
theorem cell_below {w w1 : World} (h : Below w.heap.size w w1) {a : Addr} {v : Value} (hc : w.cell? a = some v) : w1.cell? a = some v := (h.cell (World.block_lt_of_cell? w a hc)).trans hc
def Reads (w : World) (size : Nat) (A : Option Addr) (n : Nat) (xs : List Value) : Prop :=
  xs.length = n * size ∧ (0 < n → ∃ ad, A = some ad ∧ ∀ j u, xs[j]? = some u → w.cell? (ad.add j) = some u)
theorem Reads.none_ {w : World} {size : Nat} : Reads w size none 0 [] := ⟨by simp, fun h => absurd h (by omega)⟩
theorem Reads.below {w w1 : World} {size : Nat} {A : Option Addr} {n : Nat} {xs : List Value} (h : Reads w size A n xs) (hb : Below w.heap.size w w1) : Reads w1 size A n xs :=
  ⟨h.1, fun hn => by
    obtain ⟨ad, e, hc⟩ := h.2 hn
    exact ⟨ad, e, fun j u hu => cell_below hb (hc j u hu)⟩⟩
theorem Reads.keep {w w1 : World} {size : Nat} {A : Option Addr} {n : Nat} {xs : List Value} (h : Reads w size A n xs) (hb : ∀ p v, w.cell? p = some v → w1.cell? p = some v) : Reads w1 size A n xs :=
  ⟨h.1, fun hn => by
    obtain ⟨ad, e, hc⟩ := h.2 hn
    exact ⟨ad, e, fun j u hu => hb _ _ (hc j u hu)⟩⟩
theorem Reads.of_own {w : World} {base : Nat} {e : TypeId} {size n : Nat} {A : Option Addr} {c : Nat} {xs : List Value} (h : w.ownsRow base e size (.slice A n c) n xs) : Reads w size A n xs := by
  refine ⟨h.1, fun hn => ?_⟩;obtain ⟨g, cap, hv, _, hlt⟩ := h.form hn;(have hA : A = some ⟨g, 0, none⟩ := by injection hv);subst hA;exact ⟨_, rfl, h.cells (g := g) rfl⟩
theorem flat_at {α : Type} (f : α → List Value) (size : Nat) (hf : ∀ x, (f x).length = size) (l : List α) (k : Nat) (x : α) (hk : l[k]? = some x) (j : Nat) (hj : j < size) : (l.flatMap f)[k * size + j]? = (f x)[j]? := by
  induction l generalizing k with
  | nil => simp at hk
  | cons y l ih =>
    rw [List.flatMap_cons]
    cases k with
    | zero =>
      simp at hk;subst hk;rw [Nat.zero_mul, Nat.zero_add, List.getElem?_append_left (by rw [hf]; exact hj)]
    | succ k =>
      rw [List.getElem?_append_right (by rw [hf, Nat.succ_mul]; omega), hf, show (k + 1) * size + j - size = k * size + j by rw [Nat.succ_mul]; omega];exact ih k (by simpa using hk)
theorem flat_length {α : Type} (f : α → List Value) (size : Nat) (hf : ∀ x, (f x).length = size) (l : List α) : (l.flatMap f).length = l.length * size := by
  induction l with
  | nil => simp
  | cons y l ih => rw [List.flatMap_cons, List.length_append, hf, ih, List.length_cons, Nat.succ_mul, Nat.add_comm]
theorem Reads.elem {α : Type} {w : World} {size : Nat} {A : Option Addr} {n : Nat} (f : α → List Value) (hf : ∀ x, (f x).length = size) {l : List α} (hs : 0 < size) (h : Reads w size A n (l.flatMap f)) {k : Nat} (hk : k < n) :
    ∃ ad x, A = some ad ∧ l[k]? = some x ∧ ∀ j u, (f x)[j]? = some u → w.cell? (ad.add (k * size + j)) = some u := by
  obtain ⟨ad, e, hc⟩ := h.2 (by omega)
  have hl : l.length = n := by
    have := h.1;rw [flat_length f size hf] at this;exact Nat.eq_of_mul_eq_mul_right hs this
  (have hlk : k < l.length := by omega);refine ⟨ad, l[k], e, List.getElem?_eq_getElem hlk, fun j u hu => hc _ u ?_⟩
  have hj : j < size := by
    have := (List.getElem?_eq_some_iff.1 hu).1;rwa [hf] at this
  rw [flat_at f size hf l k _ (List.getElem?_eq_getElem hlk) j hj];exact hu
theorem Reads.length {α : Type} {w : World} {size : Nat} {A : Option Addr} {n : Nat} (f : α → List Value) (hf : ∀ x, (f x).length = size) {l : List α} (hs : 0 < size) (h : Reads w size A n (l.flatMap f)) : l.length = n := by
  have := h.1;rw [flat_length f size hf] at this;exact Nat.eq_of_mul_eq_mul_right hs this
theorem own_slice {w : World} {base n : Nat} {e : TypeId} {size : Nat} {v : Value} {xs : List Value} (h : w.ownsRow base e size v n xs) : ∃ A c, v = .slice A n c := by
  rcases h.2 with ⟨rfl, rfl⟩ | ⟨g, cap, cur, rfl, _⟩
  · exact ⟨none, 0, rfl⟩
  · exact ⟨_, cap, rfl⟩
theorem own_le {w : World} {base n : Nat} {e : TypeId} {size : Nat} {A : Option Addr} {m c : Nat} {xs : List Value} (h : w.ownsRow base e size (.slice A m c) n xs) : m = n ∧ n ≤ c := by
  rcases h.2 with ⟨h1, rfl⟩ | ⟨g, cap, cur, h1, _, _, h2, _⟩
  · injection h1 with _ h3 h4; omega
  · injection h1 with _ h3 h4; omega
theorem own_base {w : World} {base : Nat} {e : TypeId} {size n : Nat} {v : Value} {xs : List Value} (h : w.ownsRow base e size v n xs) (k : Nat) (hk : v.ownBlock = some k) : base ≤ k := (h.lt k hk).1
theorem grown_of_below {w w1 : World} (h : Below w.heap.size w w1) (row : Option Nat) : w.grownBy w1 row := ⟨h.os, h.tape, h.output, h.size, fun i hi _ => h.block i hi⟩
theorem own_below {w w1 : World} {base : Nat} {e : TypeId} {size n : Nat} {v : Value} {xs : List Value} (h : w.ownsRow base e size v n xs) (hb : Below w.heap.size w w1) : w1.ownsRow base e size v n xs :=
  h.kept (grown_of_below hb none) (by cases v.ownBlock <;> simp)
theorem own_new {w : World} {base e size : Nat} : w.ownsRow base e size (.slice none 0 0) 0 [] := World.ownsRow_nil _ _ _ _
theorem bel_grown {w W W' : World} {base : Nat} {e : TypeId} {size n : Nat} {v : Value} {xs : List Value} (h : Below w.heap.size w W) (HO : W.ownsRow base e size v n xs) (hbase : w.heap.size ≤ base) (hg : W.grownBy W' v.ownBlock) : Below w.heap.size w W' :=
  h.grown hg h.size fun k hk => Nat.le_trans hbase (own_base HO k hk)
theorem own_mono {w : World} {base base' : Nat} {e : TypeId} {size n : Nat} {v : Value} {xs : List Value} (h : w.ownsRow base e size v n xs) (hb : base' ≤ base) : w.ownsRow base' e size v n xs := by
  refine ⟨h.1, ?_⟩;rcases h.2 with h2 | ⟨g, cap, cur, hv, hg, r⟩
  · exact .inl h2
  · exact .inr ⟨g, cap, cur, hv, Nat.le_trans hb hg, r⟩
theorem own_type_ne {w : World} {b b' : Nat} {e e' : TypeId} {s s' n n' : Nat} {v v' : Value} {xs xs' : List Value} (h : w.ownsRow b e s v n xs) (h' : w.ownsRow b' e' s' v' n' xs') (hne : e ≠ e') : v.ownBlock = none ∨ v.ownBlock ≠ v'.ownBlock := by
  rcases h.2 with ⟨rfl, _⟩ | ⟨g, cap, cur, rfl, _, hh, _⟩
  · exact .inl rfl
  · (refine .inr fun hk => ?_);rcases h'.2 with ⟨rfl, _⟩ | ⟨g', cap', cur', rfl, _, hh', _⟩
    · simp [Value.ownBlock] at hk
    · (have : g = g' := by simpa [Value.ownBlock] using hk);subst this;rw [hh] at hh';injection hh' with hh';injection hh' with _ ht;exact hne ht
theorem app_lit {P : Program} {ops : Array Oper} {rest : List Oper} {o : Oper} {a : Act} {Q : Exit → Act → World → Prop} {w0 W : World} (hgd : o.guard = none) (s x : Operand) (t : TypeId)
    (ho : o.op = .call { callee := .builtin .append, args := #[s, x], argTypes := #[t, t] })
    (base : Nat) (e : TypeId) {z : Value} {size bytes : Nat} (ht : P.underlying t = some (.slice e)) (hinfo : (P.info? e).map (fun i => (i.zero, i.size, i.bytes)) = some (some z, size, bytes)) (hzs : z.cells.size = size) (hsz : 0 < size) (hby : 0 < bytes)
    (v : Value) (n : Nat) (xs : List Value) (hs : a.eval s = v) (HO : W.ownsRow base e size v n xs) (ys : List Value) (m c : Nat) (hx : a.eval x = .slice (some ⟨W.heap.size, 0, none⟩) m c)
    (hl : ys.length = m * size) (h1 : ys.all Value.oneCell' = true) (hlim : (n + m) * bytes ≤ 140737488355328) (HB : Below w0.heap.size w0 W) (hb0 : w0.heap.size ≤ base) (hbase : base ≤ W.heap.size)
    (h : ∀ A1 c1 w1, w1.ownsRow base e size (.slice A1 (n + m) c1) (n + m) (xs ++ ys) → W.grownBy w1 v.ownBlock → Below w0.heap.size w0 w1 → wpList P ops Q rest (a.put o.dst (.slice A1 (n + m) c1)) w1) :
    wpList P ops Q (o :: rest) a (W.alloc (.cells ys.toArray e)) := by
  obtain ⟨i0, hi, hz0, hz1, hz2⟩ := info_parts hinfo;have hlen : n + m ≤ 140737488355328 := Nat.le_trans (Nat.le_mul_of_pos_right _ hby) hlim
  refine wpList_append_own (W.alloc (.cells ys.toArray e)) hgd s x t ho base e i0 z size bytes ht hi hz0 hz1 hz2 hzs hsz v n xs hs (HO.alloc _) ⟨W.heap.size, 0, none⟩ m c ys hx hl
    (fun j u hu => ?_) (fun u hu => List.all_eq_true.1 h1 u hu) (by simp only [maxLen]; omega) hlim (by simp; omega) ?_
  · (have hadd : (⟨W.heap.size, 0, none⟩ : Addr).add j = ⟨W.heap.size, j, none⟩ := by unfold Addr.add; split <;> simp_all);rw [hadd, cell_of_row _ W.heap.size j ys.toArray e (0, 0) (heap_alloc_new W _)];simpa using hu
  · intro v1 w1 hown hg _;obtain ⟨A1, c1, rfl⟩ := own_slice hown;have hg' : W.grownBy w1 v.ownBlock := World.grownBy.trans (World.grownBy_alloc W _ _) hg;exact h A1 c1 w1 hown hg' (bel_grown HB HO hb0 hg')
theorem run_append_nil {P : Program} (w : World) (base : Nat) (t ty e : TypeId) (i : TypeInfo) (size : Nat) (ht : P.underlying t = some (.slice e)) (hi : P.info? e = some i)
    (v : Value) (n : Nat) (xs : List Value) (hown : w.ownsRow base e size v n xs) (c : Nat) : (Builtin.append_ #[t, t] ty #[v, .slice none 0 c]).run P w = .ok v w := by
  rcases hown.2 with ⟨rfl, rfl⟩ | ⟨g, cap, cur, rfl, _, _, hnc, _⟩
  · simp [Builtin.append_, run_underlying ht, sizeOf, typeInfo, hi, Builtin.lenOf, Builtin.firstCells]
  · simp [Builtin.append_, run_underlying ht, sizeOf, typeInfo, hi, Builtin.lenOf, Builtin.firstCells, hnc, storeCells]
theorem app_any {P : Program} {ops : Array Oper} {rest : List Oper} {o : Oper} {a : Act} {Q : Exit → Act → World → Prop} {w0 W : World} (hgd : o.guard = none) (s x : Operand) (t : TypeId)
    (ho : o.op = .call { callee := .builtin .append, args := #[s, x], argTypes := #[t, t] })
    (base : Nat) (e : TypeId) {z : Value} {size bytes : Nat} (ht : P.underlying t = some (.slice e)) (hinfo : (P.info? e).map (fun i => (i.zero, i.size, i.bytes)) = some (some z, size, bytes)) (hzs : z.cells.size = size) (hsz : 0 < size) (hby : 0 < bytes)
    (v : Value) (n : Nat) (xs : List Value) (hs : a.eval s = v) (HO : W.ownsRow base e size v n xs) (Am : Option Addr) (m c : Nat) (ys : List Value) (hx : a.eval x = .slice Am m c)
    (hr : Reads W size Am m ys) (h1 : ys.all Value.oneCell' = true) (hlim : (n + m) * bytes ≤ 140737488355328) (HB : Below w0.heap.size w0 W) (hb0 : w0.heap.size ≤ base) (hbase : base ≤ W.heap.size)
    (h : ∀ A1 c1 w1, w1.ownsRow base e size (.slice A1 (n + m) c1) (n + m) (xs ++ ys) → W.grownBy w1 v.ownBlock → Below w0.heap.size w0 w1 → wpList P ops Q rest (a.put o.dst (.slice A1 (n + m) c1)) w1) :
    wpList P ops Q (o :: rest) a W := by
  obtain ⟨i0, hi, hz0, hz1, hz2⟩ := info_parts hinfo;have hlen : n + m ≤ 140737488355328 := Nat.le_trans (Nat.le_mul_of_pos_right _ hby) hlim;by_cases hm : m = 0
  · subst hm;have hys : ys = [] := List.eq_nil_of_length_eq_zero (by simpa using hr.1);subst hys
    cases Am with
    | none =>
      obtain ⟨A1, c1, rfl⟩ := own_slice HO;(refine wpList_plain hgd fun K hK => ?_);unfold Oper.wp execOp;simp only [ho, resolve, invoke, builtin, Sem.run_bind, Sem.run_pure, Result.andThen_ok, List.map_toArray, List.map_cons, List.map_nil, hs, hx, run_append_nil W base t o.type e i0 size ht hi _ n xs HO c];exact hK _ _ (h A1 c1 W (by simpa using HO) (World.grownBy.refl W _) HB)
    | some ad =>
      refine wpList_append_own W hgd s x t ho base e i0 z size bytes ht hi hz0 hz1 hz2 hzs hsz v n xs hs HO ad 0 c [] hx (by simp) (fun j u hu => by simp at hu) (fun u hu => by simp at hu) (by simp only [maxLen]; omega) hlim hbase ?_;intro v1 w1 hown hg _;obtain ⟨A1, c1, rfl⟩ := own_slice hown;exact h A1 c1 w1 hown hg (bel_grown HB HO hb0 hg)
  · obtain ⟨ad, rfl, hcell⟩ := hr.2 (by omega);refine wpList_append_own W hgd s x t ho base e i0 z size bytes ht hi hz0 hz1 hz2 hzs hsz v n xs hs HO ad m c ys hx hr.1 hcell (fun u hu => List.all_eq_true.1 h1 u hu) (by simp only [maxLen]; omega) hlim hbase ?_;intro v1 w1 hown hg _;obtain ⟨A1, c1, rfl⟩ := own_slice hown;exact h A1 c1 w1 hown hg (bel_grown HB HO hb0 hg)
theorem own_lit {W : World} {base : Nat} (e : TypeId) (size : Nat) (cs : List Value) (n : Nat) (hb : base ≤ W.heap.size) (hm : n ≤ 140737488355328) (hs : cs.length = n * size) :
    (W.alloc (.cells cs.toArray e)).ownsRow base e size (.slice (some ⟨W.heap.size, 0, none⟩) n n) n cs := by
  have h := World.ownsRow_lit (base := base) (e := e) (size := size) W cs.toArray n hb (by simp only [maxLen]; omega) (by simpa using hs);simpa using h
theorem ints_one (l : List Int) : (l.map (Value.int .i64)).all Value.oneCell' = true := by
  rw [List.all_eq_true];intro u hu;obtain ⟨x, _, rfl⟩ := List.mem_map.1 hu;rfl
def ints (l : List Int) : List Value := l.map (Value.int .i64)
theorem ints_length (l : List Int) : (ints l).length = l.length := by simp [ints]
theorem ints_at (l : List Int) (k : Nat) : (ints l)[k]? = (l[k]?).map (Value.int .i64) := by simp [ints]
theorem info_int : (Tryd.prog.info? 3).map (fun i => (i.zero, i.size, i.bytes)) = some (some (.int .i64 0), 1, 8) := by kernel_rfl
theorem Reads.int {w : World} {A : Option Addr} {n : Nat} {l : List Int} (h : Reads w 1 A n (ints l)) {k : Nat} (hk : k < n) : ∃ ad x, A = some ad ∧ l[k]? = some x ∧ w.cell? (ad.add k) = some (.int .i64 x) := by
  obtain ⟨ad, e, hc⟩ := h.2 (by omega);(have hl : l.length = n := by have := h.1; rw [ints_length] at this; omega);(have hlk : k < l.length := by omega);exact ⟨ad, l[k], e, List.getElem?_eq_getElem hlk, hc k _ (by rw [ints_at, List.getElem?_eq_getElem hlk]; rfl)⟩
theorem cell_alloc {w : World} {a : Addr} {v : Value} (h : w.cell? a = some v) (o : Obj) : (w.alloc o).cell? a = some v :=
  (World.cell?_alloc_lt w o a (World.block_lt_of_cell? w a h)).trans h
theorem cut_from {P : Program} (t e : TypeId) (kl : IntKind) {z : Value} {size bytes : Nat} (ht : P.underlying t = some (.slice e)) (hinfo : (P.info? e).map (fun i => (i.zero, i.size, i.bytes)) = some (some z, size, bytes)) (A : Option Addr) (n c : Nat) (mi : Int) (m : Nat) (hmi : mi = m) (hm : m ≤ n) (hc : n ≤ c) :
    ∃ A' : Option Addr, (∀ W : World, (Instr.slice t (.slice A n c) (some (.int kl mi)) none none).run P W = .ok (.slice A' (n - m) (c - m)) W) ∧
      ∀ (w : World) (xs : List Value), Reads w size A n xs → Reads w size A' (n - m) (xs.drop (m * size)) := by
  obtain ⟨i0, hi, hz0, hz1, hz2⟩ := info_parts hinfo;subst hmi;refine ⟨if c = m then A else A.map (·.add (m * size)), fun W => ?_, fun w xs h => ?_⟩
  · (have hel : P.elem t = e := by simp [Program.elem, ht]);(have hu : P.underlying t = some (.slice (P.elem t)) := by rw [hel]; exact ht);rw [run_slice_l W t A n c hu kl (m : Int) (Int.natCast_nonneg _) (by omega), hel];simp [sizeOf, typeInfo, hi, hz1, sliced, Result.andThen]
  · refine ⟨by rw [List.length_drop, h.1, Nat.sub_mul], fun hp => ?_⟩;obtain ⟨ad, rfl, hcell⟩ := h.2 (by omega);rw [if_neg (by omega)];refine ⟨ad.add (m * size), rfl, fun j u hu => ?_⟩;rw [add_of_add];exact hcell _ u (by rw [← hu, List.getElem?_drop])
theorem own_take {w : World} {base n : Nat} {e : TypeId} {size : Nat} {A : Option Addr} {c : Nat} {xs : List Value} (h : w.ownsRow base e size (.slice A n c) n xs) (m : Nat) (hm : m ≤ n) : w.ownsRow base e size (.slice A m c) m (xs.take (m * size)) := by
  refine ⟨by rw [List.length_take, h.1]; exact Nat.min_eq_left (Nat.mul_le_mul_right _ hm), ?_⟩;rcases h.2 with ⟨hv, hn⟩ | ⟨g, cap, cur, hv, hb, hh, hnc, hm', hs, ht⟩
  · left;injection hv with h1 h2 h3;subst h1 h3;(have : m = 0 := by omega);subst this;exact ⟨rfl, rfl⟩
  · right;injection hv with h1 h2 h3;subst h1 h3;refine ⟨g, c, cur, rfl, hb, hh, by omega, hm', hs, ?_⟩;rw [← ht, List.take_take, Nat.min_eq_left (Nat.mul_le_mul_right _ hm)]
end Go.Proofs.YtfjemaeidmikmaaDoor
