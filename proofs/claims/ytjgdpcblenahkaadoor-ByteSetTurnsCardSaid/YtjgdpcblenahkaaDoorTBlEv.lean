/- Pruned from its seat's text: what the theorem hangs on. -/
import Derived.Test.YtjgdpcblenahkaaDoorTEvPure
import Derived.Test.YtjgdpcblenahkaaDoorTBsPure
import Derived.Test.YtjgdpcblenahkaaDoorTQXBytesetOr
import Derived.Test.YtjgdpcblenahkaaDoorTQXBytesetAnd
import Derived.Test.YtjgdpcblenahkaaDoorTQXBytesetLess
import Derived.Test.YtjgdpcblenahkaaDoorTQXBytesetNot
import Derived.Test.YtjgdpcblenahkaaDoorTQXBytesetOf
import Derived.Test.YtjgdpcblenahkaaDoorTQXBytesetBytes
import Derived.Test.YtjgdpcblenahkaaDoorTQXBytesetCount
import Derived.Test.YtjgdpcblenahkaaDoorTQSets
import Derived.Laws.BitsAllLaws
import Derived.Lib.Hide
import Derived.Test.YtjgdpcblenahkaaDoorTQBytesetRuns
import Derived.Test.YtjgdpcblenahkaaDoorTQ0
import Derived.Test.YtjgdpcblenahkaaDoorTQG
import Derived.Test.YtjgdpcblenahkaaDoorTQEq1
/- Plain: what the printed functions of byteset and its reference compute. -/
set_option linter.unusedVariables false
set_option linter.unusedSimpArgs false
namespace Go.Proofs.YtjgdpcblenahkaaDoorQ
open Go.RowKit Go.Proofs.YtjgdpcblenahkaaDoorW.PrintWords Go.Proofs.YtjgdpcblenahkaaDoorW.PrintLast Go.Proofs.Bs

theorem setI_n (s : S) : setI (s.a : Int) (s.b : Int) (s.c : Int) (s.d : Int) = s := setI_of s
theorem or_f (s t : S) (hs : s.wf) (ht : t.wf) : byteset_Or.f s.a s.b s.c s.d t.a t.b t.c t.d = some (four (Bs.or s t)) := by
  unfold byteset_Or.f
  rw [if_pos ⟨wfI_of s hs, wfI_of t ht⟩, setI_n, setI_n]
theorem and_f (s t : S) (hs : s.wf) (ht : t.wf) : byteset_And.f s.a s.b s.c s.d t.a t.b t.c t.d = some (four (Bs.and s t)) := by
  unfold byteset_And.f
  rw [if_pos ⟨wfI_of s hs, wfI_of t ht⟩, setI_n, setI_n]
theorem less_f (s t : S) (hs : s.wf) (ht : t.wf) : byteset_Less.f s.a s.b s.c s.d t.a t.b t.c t.d = some (four (Bs.less s t)) := by
  unfold byteset_Less.f
  rw [if_pos ⟨wfI_of s hs, wfI_of t ht⟩, setI_n, setI_n]
theorem not_f (s : S) (hs : s.wf) : byteset_Not.f s.a s.b s.c s.d = some (four (Bs.not s)) := by
  unfold byteset_Not.f
  rw [if_pos (wfI_of s hs), setI_n]
theorem count_f (s : S) (hs : s.wf) : byteset_Count.f s.a s.b s.c s.d = some ((cntTo s 4 : Nat) : Int) := by
  unfold byteset_Count.f
  rw [if_pos (wfI_of s hs), setI_n]
theorem bytes_f (s : S) (hs : s.wf) : byteset_Bytes.f s.a s.b s.c s.d = some ((Bs.bytes s).map Int.ofNat) := by
  unfold byteset_Bytes.f
  rw [if_pos (wfI_of s hs), setI_n]
theorem of_f (l : List Nat) (hl : ∀ x ∈ l, x < 256) (hn : l.length ≤ 1000000) : byteset_Of.f (l.map Int.ofNat) = some (four (puts S.zero l)) := by
  unfold byteset_Of.f
  have h1 : bytesOk (l.map Int.ofNat) = true := by
    unfold bytesOk
    rw [List.all_eq_true]
    intro x hx
    obtain ⟨n, hn, rfl⟩ := List.mem_map.1 hx
    have := hl n hn
    simp only [Bool.and_eq_true, decide_eq_true_eq]
    exact ⟨Int.natCast_nonneg n, by show (n : Int) < 256; omega⟩
  rw [if_pos ⟨h1, by rw [List.length_map]; omega⟩]
  unfold ofK
  rw [List.take_length, List.map_map]
  have : (Int.toNat ∘ Int.ofNat) = id := by funext n; rfl
  rw [this, List.map_id]

end Go.Proofs.YtjgdpcblenahkaaDoorQ
