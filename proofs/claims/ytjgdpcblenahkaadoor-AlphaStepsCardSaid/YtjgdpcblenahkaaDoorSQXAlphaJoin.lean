/- Pruned from its seat's text: what the theorem hangs on. -/
import Derived.Test.YtjgdpcblenahkaaDoorSAl4
import Derived.Test.YtjgdpcblenahkaaDoorSQ0
/- alpha.Join: told as the printed texts are. -/
set_option linter.unusedVariables false
set_option linter.unusedSimpArgs false
namespace Go.Proofs.YtjgdpcblenahkaaDoorQ
open Go.RowKit Go.Proofs.YtjgdpcblenahkaaDoor Go.Proofs.YtjgdpcblenahkaaDoorW.PrintWords

theorem reads_of_C {w : World} {A : Option Addr} {l : List Int} (h : Kd.C (Kd.int .i64) w A l.length l) : Reads w 1 A l.length (ints l) := by
  refine ⟨by simp [ints], fun hp => ?_⟩
  obtain ⟨ad, rfl, _⟩ := Kd.at_int h ((0 : Nat) : Int) (by omega) (by omega)
  refine ⟨ad, rfl, fun j u hu => ?_⟩
  have hj : j < l.length := by
    have := (List.getElem?_eq_some_iff.1 hu).1
    simpa [ints] using this
  obtain ⟨ad', e, hx⟩ := Kd.at_int h (j : Int) (by omega) (by omega)
  injection e with e
  subst e
  rw [Int.toNat_natCast] at hx
  rw [hx]
  have : (ints l)[j]? = some (.int .i64 (rd l j)) := by
    simp [ints, rd, List.getD_eq_getElem?_getD, List.getElem?_eq_getElem hj]
  rw [this] at hu
  exact hu
def inI (l : List Int) : Bool := l.all fun x => decide (-9223372036854775808 ≤ x) && decide (x ≤ 9223372036854775807)
theorem inI_at {l : List Int} (h : inI l = true) {x : Int} (hx : x ∈ l) : -9223372036854775808 ≤ x ∧ x ≤ 9223372036854775807 := by
  have := List.all_eq_true.1 h x hx
  simpa using this
def joinN (a b : List Int) : List Nat × Nat := ((Al.run (a.zip b)).2, (Al.run (a.zip b)).1.length)
def alpha_Join.f (l0 l1 : List Int) : Option (List Int × Int) := if l0.length ≤ 1000000 ∧ l1.length ≤ 1000000 ∧ inI l0 = true ∧ inI l1 = true then (if l0.length = l1.length then some ((joinN l0 l1).1.map Int.ofNat, ((joinN l0 l1).2 : Int)) else some ([], 0)) else none
theorem alpha_Join.calls (A0 : Option Addr) (c0 : Nat) (l0 : List Int) (A1 : Option Addr) (c1 : Nat) (l1 : List Int) (r1 : List Int) (r2 : Int) (w : World) (hr0 : Kd.C (Kd.int .i64) w A0 l0.length l0) (hc0 : l0.length ≤ c0) (hr1 : Kd.C (Kd.int .i64) w A1 l1.length l1) (hc1 : l1.length ≤ c1) (h : alpha_Join.f l0 l1 = some (r1, r2)) :
    Calls Tryd.prog 59 #[.slice A0 l0.length c0, .slice A1 l1.length c1] w fun e w' => ∃ v0_ : Value, e = .returned (.tuple #[v0_, .int .i64 r2]) ∧ Kd.R (Kd.int .i64) 3 w' w.heap.size (fun _ => True) v0_ r1 ∧ Below w.heap.size w w' := by
  unfold alpha_Join.f at h
  split at h
  case isFalse => cases h
  case isTrue c =>
    obtain ⟨n0, n1, i0, i1⟩ := c
    split at h
    case isTrue e =>
      injection h with h
      injection h with e1 e2
      subst e1 e2
      have f1 : (l0.zip l1).map Prod.fst = l0 := List.map_fst_zip (by omega)
      have f2 : (l0.zip l1).map Prod.snd = l1 := List.map_snd_zip (by omega)
      have g0 := reads_of_C hr0
      have g1 := reads_of_C hr1
      rw [← e] at g1
      have hl : l1.length = l0.length := e.symm
      rw [hl]
      refine (ajoin_any A0 A1 l0.length c0 c1 (l0.zip l1) w (by rw [f1]; exact g0) (by rw [f2]; exact g1) n0 (fun p hp => ?_)).mono ?_
      · have h1 := inI_at i0 (x := p.1) (by rw [← f1]; exact List.mem_map_of_mem hp)
        have h2 := inI_at i1 (x := p.2) (by rw [← f2]; exact List.mem_map_of_mem hp)
        exact ⟨WalkArith.wf_i64 h1, WalkArith.wf_i64 h2⟩
      · rintro e w' ⟨A2, c2, rfl, ho, hb⟩
        refine ⟨_, rfl, Kd.R_of_own (enc := Value.int .i64) (h1 := fun _ => rfl) ?_ (fun _ _ => trivial), hb⟩
        have hlen : (joinN l0 l1).1.length = l0.length := by
          unfold joinN
          rw [Al.run_len, List.length_zip]
          omega
        rw [List.length_map, hlen]
        exact ho
    case isFalse e =>
      injection h with h
      injection h with e1 e2
      subst e1 e2
      refine (ajoin_ne A0 A1 l0.length l1.length c0 c1 w n0 n1 e).mono ?_
      rintro e w' ⟨rfl, hb⟩
      exact ⟨_, rfl, Kd.R_of_own (enc := Value.int .i64) (h1 := fun _ => rfl) ⟨rfl, .inl ⟨rfl, rfl⟩⟩ (fun _ _ => trivial), hb⟩
end Go.Proofs.YtjgdpcblenahkaaDoorQ
