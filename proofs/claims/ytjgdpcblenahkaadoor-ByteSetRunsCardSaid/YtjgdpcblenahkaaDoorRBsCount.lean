
/- Plain mathematics: how many bits a word has, by the sums of its parts. -/
namespace Go.Proofs.Bs

def asm : List Nat → Nat
  | [] => 0
  | a :: l => 256 * asm l + a
def rep (b : Nat) : Nat → Nat
  | 0 => 0
  | n + 1 => 256 * rep b n + b
def digs : Nat → Nat → List Nat
  | 0, _ => []
  | n + 1, x => x % 256 :: digs n (x / 256)
theorem asm_digs (n x : Nat) (h : x < 256 ^ n) : asm (digs n x) = x := by
  induction n generalizing x with
  | zero => simp at h; subst h; rfl
  | succ n ih =>
    have : x / 256 < 256 ^ n := by rw [Nat.pow_succ] at h; omega
    show 256 * asm (digs n (x / 256)) + x % 256 = x
    rw [ih _ this]; omega
theorem digs_lt (n x : Nat) : ∀ a ∈ digs n x, a < 256 := by
  induction n generalizing x with
  | zero => intro a h; cases h
  | succ n ih =>
    intro a h
    rcases List.mem_cons.1 h with rfl | h
    · omega
    · exact ih _ a h
theorem digs_length (n x : Nat) : (digs n x).length = n := by
  induction n generalizing x with
  | zero => rfl
  | succ n ih => simp [digs, ih]

theorem cons_bit (x a j : Nat) (ha : a < 256) : (256 * x + a).testBit j = if j < 8 then a.testBit j else x.testBit (j - 8) :=
  Nat.testBit_two_pow_mul_add (i := 8) x ha j

theorem and_cons (x a y b : Nat) (ha : a < 256) (hb : b < 256) : (256 * x + a) &&& (256 * y + b) = 256 * (x &&& y) + (a &&& b) := by
  have hab : a &&& b < 256 := Nat.lt_of_le_of_lt Nat.and_le_left ha
  apply Nat.eq_of_testBit_eq
  intro j
  rw [Nat.testBit_and, cons_bit _ _ _ ha, cons_bit _ _ _ hb, cons_bit _ _ _ hab]
  split <;> rw [Nat.testBit_and]

theorem shr_cons (x a y b s : Nat) (hs : s ≤ 8) (ha : a < 256) (hb : b < 2 ^ (8 - s)) : (256 * x + a) >>> s &&& (256 * y + b) = 256 * (x >>> s &&& y) + (a >>> s &&& b) := by
  have hb' : b < 256 := Nat.lt_of_lt_of_le hb (Nat.pow_le_pow_right (n := 2) (by omega) (show 8 - s ≤ 8 by omega))
  have hab : a >>> s &&& b < 256 := Nat.lt_of_le_of_lt Nat.and_le_right hb'
  apply Nat.eq_of_testBit_eq
  intro j
  rw [Nat.testBit_and, Nat.testBit_shiftRight, cons_bit _ _ _ ha, cons_bit _ _ _ hb', cons_bit _ _ _ hab]
  by_cases h : j < 8
  · rw [if_pos h, if_pos h, Nat.testBit_and, Nat.testBit_shiftRight]
    by_cases h2 : s + j < 8
    · rw [if_pos h2]
    · have : b.testBit j = false := Nat.testBit_lt_two_pow (Nat.lt_of_lt_of_le hb (Nat.pow_le_pow_right (by omega) (by omega)))
      simp [this]
  · rw [if_neg h, if_neg h, if_neg (by omega), Nat.testBit_and, Nat.testBit_shiftRight, show s + j - 8 = s + (j - 8) by omega]

def g1b (a : Nat) : Nat := (a >>> 1 &&& 85) + (a &&& 85)
def g2b (a : Nat) : Nat := (a >>> 2 &&& 51) + (a &&& 51)
def g3b (a : Nat) : Nat := (a >>> 4 + a) &&& 15
def pc8 (a : Nat) : Nat := ((List.range 8).filter fun i => a.testBit i).length

theorem g1 (l : List Nat) (h : ∀ a ∈ l, a < 256) : (asm l >>> 1 &&& rep 85 l.length) + (asm l &&& rep 85 l.length) = asm (l.map g1b) := by
  induction l with
  | nil => simp [asm, rep]
  | cons a l ih =>
    have ha := h a List.mem_cons_self
    have ih := ih fun x hx => h x (List.mem_cons_of_mem _ hx)
    show ((256 * asm l + a) >>> 1 &&& (256 * rep 85 l.length + 85)) + ((256 * asm l + a) &&& (256 * rep 85 l.length + 85)) = 256 * asm (l.map g1b) + g1b a
    rw [shr_cons _ _ _ _ 1 (by omega) ha (by decide), and_cons _ _ _ _ ha (by decide), ← ih]
    unfold g1b
    omega
theorem g2 (l : List Nat) (h : ∀ a ∈ l, a < 256) : (asm l >>> 2 &&& rep 51 l.length) + (asm l &&& rep 51 l.length) = asm (l.map g2b) := by
  induction l with
  | nil => simp [asm, rep]
  | cons a l ih =>
    have ha := h a List.mem_cons_self
    have ih := ih fun x hx => h x (List.mem_cons_of_mem _ hx)
    show ((256 * asm l + a) >>> 2 &&& (256 * rep 51 l.length + 51)) + ((256 * asm l + a) &&& (256 * rep 51 l.length + 51)) = 256 * asm (l.map g2b) + g2b a
    rw [shr_cons _ _ _ _ 2 (by omega) ha (by decide), and_cons _ _ _ _ ha (by decide), ← ih]
    unfold g2b
    omega
theorem asm_low (l : List Nat) (h : ∀ a ∈ l, a % 16 ≤ 4 ∧ a ≤ 68) : asm l % 16 ≤ 4 := by
  cases l with
  | nil => simp [asm]
  | cons a l =>
    have := (h a List.mem_cons_self).1
    show (256 * asm l + a) % 16 ≤ 4
    omega
theorem g3 (l : List Nat) (h : ∀ a ∈ l, a % 16 ≤ 4 ∧ a ≤ 68) : (asm l >>> 4 + asm l) &&& rep 15 l.length = asm (l.map g3b) := by
  induction l with
  | nil => simp [asm, rep]
  | cons a l ih =>
    have ha := (h a List.mem_cons_self).2
    have hl := asm_low l fun x hx => h x (List.mem_cons_of_mem _ hx)
    have ih := ih fun x hx => h x (List.mem_cons_of_mem _ hx)
    show ((256 * asm l + a) >>> 4 + (256 * asm l + a)) &&& (256 * rep 15 l.length + 15) = 256 * asm (l.map g3b) + g3b a
    have e : (256 * asm l + a) >>> 4 + (256 * asm l + a) = 256 * (asm l >>> 4 + asm l) + (16 * (asm l % 16) + a >>> 4 + a) := by
      simp only [Nat.shiftRight_eq_div_pow, Nat.reducePow]; omega
    have hlow : 16 * (asm l % 16) + a >>> 4 + a < 256 := by simp only [Nat.shiftRight_eq_div_pow, Nat.reducePow]; omega
    rw [e, and_cons _ _ _ _ hlow (by decide), ih]
    congr 1
    unfold g3b
    rw [Nat.and_two_pow_sub_one_eq_mod _ 4, Nat.and_two_pow_sub_one_eq_mod _ 4]
    omega

theorem byte_all : ∀ a : Fin 256, g1b a.val < 256 ∧ g2b (g1b a.val) % 16 ≤ 4 ∧ g2b (g1b a.val) ≤ 68 ∧ g3b (g2b (g1b a.val)) = pc8 a.val ∧ pc8 a.val ≤ 8 := by decide +kernel

def cnt (n x : Nat) : Nat := ((List.range n).filter fun i => x.testBit i).length
theorem cnt_cons (n x a : Nat) (ha : a < 256) : cnt (8 + n) (256 * x + a) = pc8 a + cnt n x := by
  unfold cnt pc8
  rw [List.range_add, List.filter_append, List.length_append, List.filter_map, List.length_map]
  congr 1
  · congr 1
    apply List.filter_congr
    intro i hi
    rw [cons_bit _ _ _ ha, if_pos (List.mem_range.1 hi)]
  · congr 1
    apply List.filter_congr
    intro i _
    show (256 * x + a).testBit (8 + i) = _
    rw [cons_bit _ _ _ ha, if_neg (by omega), show 8 + i - 8 = i by omega]
theorem cnt_asm (l : List Nat) (h : ∀ a ∈ l, a < 256) : cnt (8 * l.length) (asm l) = (l.map pc8).sum := by
  induction l with
  | nil => simp [cnt]
  | cons a l ih =>
    rw [show 8 * (a :: l).length = 8 + 8 * l.length by simp; omega]
    show cnt (8 + 8 * l.length) (256 * asm l + a) = _
    rw [cnt_cons _ _ _ (h a List.mem_cons_self), ih fun x hx => h x (List.mem_cons_of_mem _ hx)]
    simp

theorem div_at (x k p q : Nat) (e : x = k * q + p) (hp : p < k) : x / k = q := by
  subst e
  rw [Nat.mul_add_div (by omega), Nat.div_eq_of_lt hp, Nat.add_zero]
theorem sums (a b c d e f g h : Nat) (ha : a ≤ 8) (hb : b ≤ 8) (hc : c ≤ 8) (hd : d ≤ 8) (he : e ≤ 8) (hf : f ≤ 8) (hg : g ≤ 8) (hh : h ≤ 8) (x4 x5 : Nat)
    (h4 : x4 = asm [a, b, c, d, e, f, g, h] + asm [a, b, c, d, e, f, g, h] / 256) (h5 : x5 = x4 + x4 / 65536) : (x5 + x5 / 4294967296) % 128 = a + b + c + d + e + f + g + h := by
  rw [div_at (asm [a, b, c, d, e, f, g, h]) 256 a (asm [b, c, d, e, f, g, h]) rfl (by omega)] at h4
  simp only [asm] at h4
  have e4 : x4 = 65536 * ((c + d) + 256 * (d + e) + 65536 * (e + f) + 16777216 * (f + g) + 4294967296 * (g + h) + 1099511627776 * h) + ((a + b) + 256 * (b + c)) := by rw [h4]; omega
  rw [div_at _ 65536 _ _ e4 (by omega)] at h5
  have e5 : x5 = 4294967296 * ((e + f + g + h) + 256 * (f + g + h) + 65536 * (g + h) + 16777216 * h) + ((a + b + c + d) + 256 * (b + c + d + e) + 65536 * (c + d + e + f) + 16777216 * (d + e + f + g)) := by rw [h5, e4]; omega
  rw [div_at _ 4294967296 _ _ e5 (by omega), e5]
  clear e5 h5 e4 h4
  have e6 : 4294967296 * (e + f + g + h + 256 * (f + g + h) + 65536 * (g + h) + 16777216 * h) + (a + b + c + d + 256 * (b + c + d + e) + 65536 * (c + d + e + f) + 16777216 * (d + e + f + g)) + (e + f + g + h + 256 * (f + g + h) + 65536 * (g + h) + 16777216 * h) =
      128 * (33554432 * (e + f + g + h + 256 * (f + g + h) + 65536 * (g + h) + 16777216 * h) + (2 * (b + c + d + e) + 512 * (c + d + e + f) + 131072 * (d + e + f + g)) + (2 * (f + g + h) + 512 * (g + h) + 131072 * h)) + (a + b + c + d + e + f + g + h) := by omega
  rw [e6, Nat.mul_add_mod, Nat.mod_eq_of_lt (by omega)]

/-- The count, as Go's library reckons it. -/
theorem count64 (x : Nat) (hx : x < 18446744073709551616) (x1 x2 x3 x4 x5 : Nat)
    (h1 : x1 = (x >>> 1 &&& 6148914691236517205) + (x &&& 6148914691236517205)) (h2 : x2 = (x1 >>> 2 &&& 3689348814741910323) + (x1 &&& 3689348814741910323))
    (h3 : x3 = (x2 >>> 4 + x2) &&& 1085102592571150095) (h4 : x4 = x3 + x3 >>> 8) (h5 : x5 = x4 + x4 >>> 16) :
    (x5 + x5 >>> 32) &&& 127 = cnt 64 x ∧ x1 < 18446744073709551616 ∧ x2 < 18446744073709551616 ∧ x2 >>> 4 + x2 < 18446744073709551616 ∧ x4 < 18446744073709551616 ∧ x5 < 18446744073709551616 ∧ x5 + x5 >>> 32 < 18446744073709551616 := by
  have hd := digs_lt 8 x
  have hl := digs_length 8 x
  have ex := asm_digs 8 x hx
  generalize digs 8 x = l at hd hl ex
  have g1' := g1 l hd
  rw [hl, ex] at g1'
  have e1 : x1 = asm (l.map g1b) := by rw [h1, ← g1']; rfl
  have hd1 : ∀ a ∈ l.map g1b, a < 256 := by
    intro a ha
    obtain ⟨b, hb, rfl⟩ := List.mem_map.1 ha
    exact (byte_all ⟨b, hd b hb⟩).1
  have g2' := g2 (l.map g1b) hd1
  rw [List.length_map, hl, ← e1] at g2'
  have e2 : x2 = asm ((l.map g1b).map g2b) := by rw [h2, ← g2']; rfl
  have hd2 : ∀ a ∈ (l.map g1b).map g2b, a % 16 ≤ 4 ∧ a ≤ 68 := by
    intro a ha
    obtain ⟨c, hc, rfl⟩ := List.mem_map.1 ha
    obtain ⟨b, hb, rfl⟩ := List.mem_map.1 hc
    exact ⟨(byte_all ⟨b, hd b hb⟩).2.1, (byte_all ⟨b, hd b hb⟩).2.2.1⟩
  have g3' := g3 _ hd2
  rw [List.length_map, List.length_map, hl, ← e2] at g3'
  have e3 : x3 = asm (l.map pc8) := by
    have : ((l.map g1b).map g2b).map g3b = l.map pc8 := by
      rw [List.map_map, List.map_map]
      apply List.map_congr_left
      intro b hb
      exact (byte_all ⟨b, hd b hb⟩).2.2.2.1
    rw [h3, ← this, ← g3']; rfl
  have hp : ∀ b ∈ l, pc8 b ≤ 8 := fun b hb => (byte_all ⟨b, hd b hb⟩).2.2.2.2
  have hc := cnt_asm l hd
  rw [hl, ex] at hc
  match l, hl with
  | [a, b, c, d, e, f, g, h], _ =>
    have pa := hp a (by simp)
    have pb := hp b (by simp)
    have pcc := hp c (by simp)
    have pd := hp d (by simp)
    have pe := hp e (by simp)
    have pf := hp f (by simp)
    have pg := hp g (by simp)
    have ph := hp h (by simp)
    have q1 := hd1 (g1b a) (by simp)
    have q2 := hd1 (g1b b) (by simp)
    have q3 := hd1 (g1b c) (by simp)
    have q4 := hd1 (g1b d) (by simp)
    have q5 := hd1 (g1b e) (by simp)
    have q6 := hd1 (g1b f) (by simp)
    have q7 := hd1 (g1b g) (by simp)
    have q8 := hd1 (g1b h) (by simp)
    have r1 := (hd2 (g2b (g1b a)) (by simp)).2
    have r2 := (hd2 (g2b (g1b b)) (by simp)).2
    have r3 := (hd2 (g2b (g1b c)) (by simp)).2
    have r4 := (hd2 (g2b (g1b d)) (by simp)).2
    have r5 := (hd2 (g2b (g1b e)) (by simp)).2
    have r6 := (hd2 (g2b (g1b f)) (by simp)).2
    have r7 := (hd2 (g2b (g1b g)) (by simp)).2
    have r8 := (hd2 (g2b (g1b h)) (by simp)).2
    simp only [Nat.shiftRight_eq_div_pow, Nat.reducePow] at h4 h5 ⊢
    simp only [List.map_cons, List.map_nil] at e1 e2 e3 hc
    rw [e3] at h4
    have s := sums _ _ _ _ _ _ _ _ pa pb pcc pd pe pf pg ph x4 x5 h4 h5
    rw [Nat.and_two_pow_sub_one_eq_mod _ 7, show 2 ^ 7 = 128 from rfl, s]
    have hs : cnt 64 x = pc8 a + pc8 b + pc8 c + pc8 d + pc8 e + pc8 f + pc8 g + pc8 h := by
      rw [show (64 : Nat) = 8 * 8 from rfl, hc]; simp; omega
    refine ⟨hs.symm, ?_⟩
    simp only [asm] at e1 e2 h4
    refine ⟨by omega, by omega, by omega, by omega, by omega, by omega⟩

end Go.Proofs.Bs
