/- Pruned from its seat's text: what the theorem hangs on. -/
import Derived.Test.YtibabfgfahlekaaBFitEv
import Derived.Test.YtibabfgfahlekaaBFzLaw
import Derived.Test.YtibabfgfahlekaaBQXFactsOf
import Derived.Test.YtibabfgfahlekaaBQTattinglaw07FactsBound
/- FactsBound comes to true: plain. -/
set_option linter.unusedVariables false
set_option linter.unusedSimpArgs false
namespace Go.Proofs.YtibabfgfahlekaaQ
open Go.RowKit Go.Proofs.YtibabfgfahlekaaW.PrintWords Go.Proofs.YtibabfgfahlekaaW.PrintLast Go.Proofs.Bs Go.Proofs.Ytibabfgfahlekaa

theorem attr_ok (l : List Nd) (hr : rightB l = true) (hw : ∀ x ∈ l, x.set.wf) (i : Nat) : i < l.length → (attr fFact l i).ok := by
  obtain ⟨_, hall, _⟩ := (rightB_iff l).1 hr
  induction i using Nat.strongRecOn with
  | ind i ih =>
    intro hi
    have hf := (hall i hi).1
    have hx : l[i]? = some l[i] := List.getElem?_eq_getElem hi
    have hg : l.getD i zNd = l[i] := by rw [List.getD_eq_getElem?_getD, hx]; rfl
    obtain ⟨ha, _⟩ := stack_room l hr i _ hx
    have hfl := (hall i hi).2
    rw [hg] at hfl
    rw [attr_eq fFact l i hi hf, hg]
    refine ok_fact hfl ha (hw _ (List.getElem_mem hi)) (by rw [List.length_map, kidsP_length l i _ hx hf]) fun f hf' => ?_
    obtain ⟨y, hy, rfl⟩ := List.mem_map.1 hf'
    have := kidsP_ok l i hi hf y hy
    exact ih y.toNat (by omega) (by omega)

section
variable (t : ByteArray) (G : Grid) (f : Fa)
theorem fbcan_at (hn : t.size ≤ 100) (hT : Go.Proofs.Ytibabfgfahlekaa.Told f t.size (txN t) G) {i j : Nat} (hj : j ≤ t.size) (hij : i ≤ j) (hg : G i j = true) : facts_Can.f f.never f.least f.most f.first.a f.first.b f.first.c f.first.d f.ends (wrap64 ((j : Int) - i)) = some true := by
  obtain ⟨h1, h2, h3, h4, h5, h6⟩ := hT.2.2 i j hg
  have e : wrap64 ((j : Int) - i) = (j : Int) - i := by unfold wrap64; omega
  unfold facts_Can.f
  rw [e, h3, if_neg Bool.false_ne_true, if_pos h4]
  by_cases hm : f.most < 0
  · rw [if_pos hm]
  · rw [if_neg hm, decide_eq_true (by omega)]
theorem fbhas_at (hwf : f.first.wf) (hT : Go.Proofs.Ytibabfgfahlekaa.Told f t.size (txN t) G) {i j : Nat} (hj : j ≤ t.size) (hij : i < j) (hg : G i j = true) : tattingref01_Has.f f.first.a f.first.b f.first.c f.first.d (wrap64 (bt t (i : Int))) = some true := by
  obtain ⟨h1, h2, h3, h4, h5, h6⟩ := hT.2.2 i j hg
  have e : wrap64 (bt t (i : Int)) = (txN t i : Int) := by rw [bt_tx]; have := txN_lt t i; unfold wrap64; omega
  unfold tattingref01_Has.f
  have := txN_lt t i
  rw [e, if_pos ⟨wfI_of _ hwf, by omega, by omega⟩, setI_of, Int.toNat_natCast, h6 hij]
theorem fb_l1 (hwf : f.first.wf) (hn : t.size ≤ 100) (hT : Go.Proofs.Ytibabfgfahlekaa.Told f t.size (txN t) G) (i : Nat) (hi : i ≤ t.size) (h : EV (fun k => tattinglaw07_FactsBound.l0 k t (gridL t.size G) ((i + 1 : Nat) : Int) f.never f.least f.most f.first.a f.first.b f.first.c f.first.d f.ends) true) : ∀ d j : Nat, t.size + 1 - j = d → j ≤ t.size + 1 → i ≤ j →
    EV (fun k => tattinglaw07_FactsBound.l1 k t (gridL t.size G) (i : Int) (j : Int) f.never f.least f.most f.first.a f.first.b f.first.c f.first.d f.ends) true := by
  intro d
  induction d with
  | zero =>
    intro j hd hj hij
    refine EV.step h fun k => ?_
    simp only [tattinglaw07_FactsBound.l1]
    rw [if_neg (by omega), up1 i (by omega)]
  | succ d ih =>
    intro j hd hj hij
    have p1 : (j : Int) ≤ (t.size : Int) := by omega
    have p2 : (0 : Int) ≤ (i : Int) := by omega
    have p3 : (i : Int) < ((gridL t.size G).length : Int) := by rw [gridL_len]; omega
    have p4 : (0 : Int) ≤ (j : Int) := by omega
    have p5 : (j : Int) < ((rd_L10 (gridL t.size G) (i : Int)).length : Int) := by rw [gridL_rlen hi]; omega
    have p6 : rdOf false (rd_L10 (gridL t.size G) (i : Int)) (j : Int) = G i j := gridL_rd hi (by omega)
    refine EV.step (ih (j + 1) (by omega) (by omega) (by omega)) fun k => ?_
    simp only [tattinglaw07_FactsBound.l1]
    rw [if_pos p1, if_pos p2, if_pos p3, if_pos p4, if_pos p5, p6, up1 j (by omega)]
    cases hg : G i j with
    | false => rw [if_neg Bool.false_ne_true]
    | true =>
      rw [if_pos rfl, fbcan_at t G f hn hT (by omega) hij hg, Option.bind_some, if_pos rfl]
      by_cases hlt : i < j
      · rw [if_pos (by omega), if_pos (by omega), fbhas_at t G f hwf hT (by omega) hlt hg, Option.bind_some, if_pos rfl]
      · rw [if_neg (by omega)]
theorem fb_l0 (hwf : f.first.wf) (hn : t.size ≤ 100) (hT : Go.Proofs.Ytibabfgfahlekaa.Told f t.size (txN t) G) : ∀ d i : Nat, t.size + 1 - i = d → i ≤ t.size + 1 →
    EV (fun k => tattinglaw07_FactsBound.l0 k t (gridL t.size G) (i : Int) f.never f.least f.most f.first.a f.first.b f.first.c f.first.d f.ends) true := by
  intro d
  induction d with
  | zero =>
    intro i hd hi
    refine EV.stop fun k => ?_
    simp only [tattinglaw07_FactsBound.l0]
    rw [if_neg (by omega)]
  | succ d ih =>
    intro i hd hi
    have p1 : (i : Int) ≤ (t.size : Int) := by omega
    refine EV.step (fb_l1 t G f hwf hn hT i (by omega) (ih (i + 1) (by omega) (by omega)) _ i rfl (by omega) (by omega)) fun k => ?_
    simp only [tattinglaw07_FactsBound.l0]
    rw [if_pos p1]
end
theorem told_ends {f : Fa} {n : Nat} {text : Nat → Nat} {g : Grid} (h : Go.Proofs.Ytibabfgfahlekaa.Told f n text g) (b : Bool) : Go.Proofs.Ytibabfgfahlekaa.Told { f with ends := b } n text g := h
theorem factsBound_ev (l : List NdI) (hw : ndsWf l = true) (t : ByteArray) : EV (fun k => tattinglaw07_FactsBound.f k l t) true := by
  unfold tattinglaw07_FactsBound.f
  have m1 : 0 ≤ mn (l.length : Int) 30 := by unfold mn; omega
  have m2 : mn (l.length : Int) 30 ≤ (l.length : Int) := by unfold mn; omega
  have m5 : mn (l.length : Int) 30 ≤ 30 := by unfold mn; omega
  have n1 : 0 ≤ mn (t.size : Int) 10 := by unfold mn; omega
  have n2 : mn (t.size : Int) 10 ≤ (t.size : Int) := by unfold mn; omega
  have n5 : mn (t.size : Int) 10 ≤ 10 := by unfold mn; omega
  simp only [awake7_eq, if_true, m1, m2, n1, n2, Option.bind_some]
  generalize mn (l.length : Int) 30 = M at *
  generalize mn (t.size : Int) 10 = Q at *
  have hTl : (l.take M.toNat).length ≤ 30 := by rw [List.length_take]; omega
  have hTw := take_nds hw M.toNat
  generalize l.take M.toNat = T at *
  have hts : (t.extract 0 Q.toNat).size ≤ 10 := by rw [ByteArray.size_extract]; omega
  generalize t.extract 0 Q.toNat = u at *
  have h1 : facts_Of.f T = some (ofN (T.map ndOf)) := by
    unfold facts_Of.f
    rw [if_pos ⟨by omega, hTw⟩]
  simp only [h1, Option.bind_some]
  cases hR : rightB (T.map ndOf) with
  | true =>
    have hlen : 0 < T.length := by
      have := ((rightB_iff _).1 hR).2.2.1
      rwa [List.length_map] at this
    rw [ofN_yes hR]
    simp only [fa9, if_true]
    refine EV.bind (all_ev T hTw (by omega) u (by omega) hR) ?_
    have ht := told_ends (told_at (T.map ndOf) hR u.size (by omega) (txN u) (txN_lt u) (T.length - 1) (by rw [List.length_map]; omega)) (endsB (T.map ndOf))
    have hwf := (attr_ok (T.map ndOf) hR (fun x hx => by
      obtain ⟨y, hy, rfl⟩ := List.mem_map.1 hx
      exact setI_wf (ndsWf_at hTw hy)) (T.length - 1) (by rw [List.length_map]; omega)).2.2.2.2
    have e : ofFa (T.map ndOf) = { attr fFact (T.map ndOf) (T.length - 1) with ends := endsB (T.map ndOf) } := by
      unfold ofFa
      rw [List.length_map]
    exact fb_l0 u _ (ofFa (T.map ndOf)) (by rw [e]; exact hwf) (by omega) (by rw [e]; exact ht) _ 0 rfl (by omega)
  | false =>
    rw [ofN_no hR]
    exact EV.const
end Go.Proofs.YtibabfgfahlekaaQ
namespace Go.Proofs.Ytibabfgfahlekaa
open Go.RowKit Go.Proofs.YtibabfgfahlekaaQ Go.Proofs.YtibabfgfahlekaaW.PrintWords
theorem factsBound_any (A0 : Option Addr) (c0 : Nat) (l0 : List NdI) (a1 : ByteArray) (w : World) (h0 : Kd.C k63 w A0 l0.length l0) (hc0 : l0.length ≤ c0) (hw : ndsWf l0 = true) (hs : a1.size ≤ 140737488351232) :
    Calls Try.prog 4 #[.slice A0 l0.length c0, .string a1] w fun e w' => e = .returned (.bool true) ∧ Below w.heap.size w w' := by
  obtain ⟨k, hk⟩ := (factsBound_ev l0 hw a1).ex
  exact tattinglaw07_FactsBound.calls k A0 c0 l0 a1 true w h0 hc0 hk
end Go.Proofs.Ytibabfgfahlekaa
