/- Pruned from its seat's text: what the theorem hangs on. -/
import Derived.Test.YtibabfgfahlekaaHM3
/- Plain: what is told of each part of a tree out of its arguments' own, by a stack and by going down. -/
namespace Go.Proofs.Ytibabfgfahlekaa
open Go.Proofs.Bs
set_option linter.unusedVariables false
section
variable {β : Type} (f : Nd → List β → β)

def aStep (s : List β) (x : Nd) : List β := s.take (s.length - (arity x.kind).toNat) ++ [f x (s.drop (s.length - (arity x.kind).toNat))]
def aStack (l : List Nd) : Nat → List β
  | 0 => []
  | k + 1 => aStep f (aStack l k) (l.getD k zNd)
theorem aStack_length (l : List Nd) (k : Nat) : (aStack f l k).length = (stackP l k).length := by
  induction k with
  | zero => rfl
  | succ k ih =>
    rw [aStack, stackP, aStep, stackStep, List.length_append, List.length_append, List.length_take, List.length_take, ih]
    rfl
end
section
variable {β : Type} [Inhabited β] (f : Nd → List β → β)
def attr (l : List Nd) (i : Nat) : β :=
  f (l.getD i zNd) ((kidsP l i).map fun y => if h : y.toNat < i then attr l y.toNat else default)
termination_by i
theorem attr_eq (l : List Nd) (i : Nat) (hi : i < l.length) (hf : 0 ≤ fst1 l i) : attr f l i = f (l.getD i zNd) ((kidsP l i).map fun y => attr f l y.toNat) := by
  rw [attr]
  congr 1
  apply List.map_congr_left
  intro y hy
  have := kidsP_ok l i hi hf y hy
  rw [dif_pos (by omega)]
theorem aStack_roots (l : List Nd) (hr : rightB l = true) (k : Nat) (hk : k ≤ l.length) : tiles l k (aStack f l k).length ∧ aStack f l k = (roots l (aStack f l k).length k).map fun y => attr f l y.toNat := by
  obtain ⟨_, hall, _⟩ := (rightB_iff l).1 hr
  induction k with
  | zero => exact ⟨rfl, rfl⟩
  | succ k ih =>
    obtain ⟨ht, hs⟩ := ih (by omega)
    have hx : l[k]? = some l[k] := List.getElem?_eq_getElem (by omega)
    have hg : l.getD k zNd = l[k] := by rw [List.getD_eq_getElem?_getD, hx]; rfl
    have h0 := (hall k (by omega)).1
    have hp := fst1_pop l k _ hx
    have hkp := kidsP_eq l k _ hx h0
    have hroom := stack_room l hr k _ hx
    have hae := attr_eq f l k (by omega) h0
    rw [hg] at hae
    rw [← aStack_length f] at hroom
    generalize l[k] = x at hx hg hp hkp hroom hae
    have h1 := pop_tiles l (arity x.kind).toNat k _ ht
    rw [if_neg (by omega)] at hp
    obtain ⟨s, hps, hts⟩ := h1.1 hroom.2
    generalize hm : (aStack f l k).length = m at *
    obtain ⟨b, hb⟩ : ∃ b, m = (arity x.kind).toNat + b := ⟨m - (arity x.kind).toNat, by omega⟩
    have hlen : (aStack f l (k + 1)).length = b + 1 := by
      rw [aStack, hg, aStep, List.length_append, List.length_take, hm]
      simp; omega
    have hroots : roots l m k = (kidsDown l b ((s : Int) - 1)).reverse ++ kidsP l k := by
      unfold roots
      rw [hb, kidsDown_add l _ b k (by omega) s hps, List.reverse_append, hkp]
    have hcl : ((kidsDown l b ((s : Int) - 1)).reverse).length = b := by rw [List.length_reverse, kidsDown_length]
    have hfs : fst1 l k = s := by rw [hp, hps]
    rw [hlen]
    refine ⟨⟨by omega, ?_, ?_⟩, ?_⟩
    · rw [Nat.add_sub_cancel]; omega
    · rw [Nat.add_sub_cancel, hfs, Int.toNat_natCast, show b = m - (arity x.kind).toNat by omega]; exact hts
    · rw [aStack, hg, aStep, hm, show m - (arity x.kind).toNat = b by omega, hs, hroots, List.map_append]
      have e1 : roots l (b + 1) (k + 1) = (kidsDown l b ((s : Int) - 1)).reverse ++ [(k : Int)] := by
        unfold roots
        rw [show ((k + 1 : Nat) : Int) - 1 = (k : Int) by omega]
        show ((k : Int) :: kidsDown l b (firstI l (k : Int) - 1)).reverse = _
        rw [first_eq l k (by omega), hfs, List.reverse_cons]
      rw [e1, List.map_append, List.take_left' (by rw [List.length_map, hcl]), List.drop_left' (by rw [List.length_map, hcl])]
      congr 1
      simp only [List.map_cons, List.map_nil, Int.toNat_natCast]
      rw [hae]
theorem aStack_end (l : List Nd) (hr : rightB l = true) : aStack f l l.length = [attr f l (l.length - 1)] := by
  obtain ⟨_, hall, h0, hf⟩ := (rightB_iff l).1 hr
  obtain ⟨ht, hs⟩ := aStack_roots f l hr l.length (by omega)
  have he := stack_end l hr
  rw [← aStack_length f] at he
  generalize hm : (aStack f l l.length).length = m at *
  have hm1 : m = 1 := by
    cases m with
    | zero => omega
    | succ m =>
      have := ht.2.2
      rw [hf] at this
      have := tiles_zero this
      omega
  subst hm1
  rw [hs]
  simp only [roots, kidsDown, List.reverse_cons, List.reverse_nil, List.nil_append, List.map_cons, List.map_nil]
  congr 2
  omega
end
end Go.Proofs.Ytibabfgfahlekaa
