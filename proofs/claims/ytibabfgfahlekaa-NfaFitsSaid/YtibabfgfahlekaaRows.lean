/-
  No cell of these rows narrows 'for every input' (looked for: loops, veiled, ifaces, maps, wideKeys, modest, calm, conditions, laid).
  DERIVED. THE GIVEN ROWS OF THIS SEAT. 6 by the template 'for every input the law returns true; each argument reads behind the call as it read before'; 0 by the template 'total and deterministic' (their statements: YtibabfgfahlekaaTotals.lean).
  GIVEN WITH THE SEED: the statements are not yours to turn. If you find one false, say at which input.
  Laid BY PROGRAM, IN A SANDBOX (cutbox-rows.mjs): the forced cells as the released guide's own fill.sh prints them over the translation 395e1d152174af0d… (all of the seat's roots in one cut). By AI agents, Wed Nov 11 2026. No macro, syntax, notation, axiom, sorry.
-/
import Derived.Test.YtibabfgfahlekaaChecked
import GoSem.Claim
import GoSem.ClaimJoined
import GoSem.ClaimMapViews
import Derived.JoinedTies
import Derived.KernelRfl
namespace Go.Proofs.Ytibabfgfahlekaa
/- THE CELL 'sum', in the pinned program and in every row, IS THE sha256 OF THE DUMP (.gsa) THAT YtibabfgfahlekaaProg.lean LOADS. Nothing in Lean hashes anything: it is a label: what it is worth is what the hold of that sum in a sandbox is worth. -/
noncomputable def Try.pinned : Pinned := { name := "ytibabfgfahlekaa", sum := "395e1d152174af0dc358832a3a72ba4ad45facb3f31acb6e6382ec0615c382c8", checked := Try.checked }
namespace Rows
def none {H : Type} : Left H := { results := [], args := [] }

/-- 'tattinglaw07.FactsSizes': WHATEVER THE INPUT: true; the input reads as it did. -/
def factsSizesSpec : ChangeSpec := { name := "factsSizes", fn := fun _ => fun
  | [d] => { results := [.lit (.bool true)], args := [d] }
  | _ => none }
def factsSizesRow : OpenClaim := { program := "ytibabfgfahlekaa", sum := "395e1d152174af0dc358832a3a72ba4ad45facb3f31acb6e6382ec0615c382c8", func := "tatting/tattinglaw07.FactsSizes", spec := "factsSizes", unfollowed := true, recurses := true, apart := false }
def FactsSizesSaid : Prop := factsSizesRow.holds Try.pinned (OpenSpec.ofChange factsSizesSpec)

/-- ITS FALSE NEIGHBOUR: 'it returns false'. Refute it at one input. -/
def factsSizesWrong : ChangeSpec := { name := "factsSizes", fn := fun _ => fun
  | [d] => { results := [.lit (.bool false)], args := [d] }
  | _ => none }
def FactsSizesWrongFalsely : Prop := factsSizesRow.holds Try.pinned (OpenSpec.ofChange factsSizesWrong)

/-- 'tattinglaw07.FactsBound': WHATEVER THE INPUT: true; the input reads as it did. -/
def factsBoundSpec : ChangeSpec := { name := "factsBound", fn := fun _ => fun
  | [d1, d2] => { results := [.lit (.bool true)], args := [d1, d2] }
  | _ => none }
def factsBoundRow : OpenClaim := { program := "ytibabfgfahlekaa", sum := "395e1d152174af0dc358832a3a72ba4ad45facb3f31acb6e6382ec0615c382c8", func := "tatting/tattinglaw07.FactsBound", spec := "factsBound", unfollowed := true, recurses := true, apart := false }
def FactsBoundSaid : Prop := factsBoundRow.holds Try.pinned (OpenSpec.ofChange factsBoundSpec)

/-- ITS FALSE NEIGHBOUR: 'it returns false'. Refute it at one input. -/
def factsBoundWrong : ChangeSpec := { name := "factsBound", fn := fun _ => fun
  | [d1, d2] => { results := [.lit (.bool false)], args := [d1, d2] }
  | _ => none }
def FactsBoundWrongFalsely : Prop := factsBoundRow.holds Try.pinned (OpenSpec.ofChange factsBoundWrong)

/-- 'tattinglaw09.NfaBuilds': WHATEVER THE INPUT: true; the input reads as it did. -/
def nfaBuildsSpec : ChangeSpec := { name := "nfaBuilds", fn := fun _ => fun
  | [d] => { results := [.lit (.bool true)], args := [d] }
  | _ => none }
def nfaBuildsRow : OpenClaim := { program := "ytibabfgfahlekaa", sum := "395e1d152174af0dc358832a3a72ba4ad45facb3f31acb6e6382ec0615c382c8", func := "tatting/tattinglaw09.NfaBuilds", spec := "nfaBuilds", unfollowed := true, recurses := true, apart := false }
def NfaBuildsSaid : Prop := nfaBuildsRow.holds Try.pinned (OpenSpec.ofChange nfaBuildsSpec)

/-- ITS FALSE NEIGHBOUR: 'it returns false'. Refute it at one input. -/
def nfaBuildsWrong : ChangeSpec := { name := "nfaBuilds", fn := fun _ => fun
  | [d] => { results := [.lit (.bool false)], args := [d] }
  | _ => none }
def NfaBuildsWrongFalsely : Prop := nfaBuildsRow.holds Try.pinned (OpenSpec.ofChange nfaBuildsWrong)

/-- 'tattinglaw09.NfaFits': WHATEVER THE INPUT: true; the input reads as it did. -/
def nfaFitsSpec : ChangeSpec := { name := "nfaFits", fn := fun _ => fun
  | [d1, d2] => { results := [.lit (.bool true)], args := [d1, d2] }
  | _ => none }
def nfaFitsRow : OpenClaim := { program := "ytibabfgfahlekaa", sum := "395e1d152174af0dc358832a3a72ba4ad45facb3f31acb6e6382ec0615c382c8", func := "tatting/tattinglaw09.NfaFits", spec := "nfaFits", unfollowed := true, recurses := true, apart := false }
def NfaFitsSaid : Prop := nfaFitsRow.holds Try.pinned (OpenSpec.ofChange nfaFitsSpec)

/-- ITS FALSE NEIGHBOUR: 'it returns false'. Refute it at one input. -/
def nfaFitsWrong : ChangeSpec := { name := "nfaFits", fn := fun _ => fun
  | [d1, d2] => { results := [.lit (.bool false)], args := [d1, d2] }
  | _ => none }
def NfaFitsWrongFalsely : Prop := nfaFitsRow.holds Try.pinned (OpenSpec.ofChange nfaFitsWrong)

/-- 'tattinglaw09.NfaSteps': WHATEVER THE INPUT: true; the input reads as it did. -/
def nfaStepsSpec : ChangeSpec := { name := "nfaSteps", fn := fun _ => fun
  | [d1, d2, d3] => { results := [.lit (.bool true)], args := [d1, d2, d3] }
  | _ => none }
def nfaStepsRow : OpenClaim := { program := "ytibabfgfahlekaa", sum := "395e1d152174af0dc358832a3a72ba4ad45facb3f31acb6e6382ec0615c382c8", func := "tatting/tattinglaw09.NfaSteps", spec := "nfaSteps", unfollowed := true, recurses := true, apart := false }
def NfaStepsSaid : Prop := nfaStepsRow.holds Try.pinned (OpenSpec.ofChange nfaStepsSpec)

/-- ITS FALSE NEIGHBOUR: 'it returns false'. Refute it at one input. -/
def nfaStepsWrong : ChangeSpec := { name := "nfaSteps", fn := fun _ => fun
  | [d1, d2, d3] => { results := [.lit (.bool false)], args := [d1, d2, d3] }
  | _ => none }
def NfaStepsWrongFalsely : Prop := nfaStepsRow.holds Try.pinned (OpenSpec.ofChange nfaStepsWrong)

/-- 'tattinglaw09.NfaRuns': WHATEVER THE INPUT: true; the input reads as it did. -/
def nfaRunsSpec : ChangeSpec := { name := "nfaRuns", fn := fun _ => fun
  | [d1, d2, d3] => { results := [.lit (.bool true)], args := [d1, d2, d3] }
  | _ => none }
def nfaRunsRow : OpenClaim := { program := "ytibabfgfahlekaa", sum := "395e1d152174af0dc358832a3a72ba4ad45facb3f31acb6e6382ec0615c382c8", func := "tatting/tattinglaw09.NfaRuns", spec := "nfaRuns", unfollowed := true, recurses := true, apart := false }
def NfaRunsSaid : Prop := nfaRunsRow.holds Try.pinned (OpenSpec.ofChange nfaRunsSpec)

/-- ITS FALSE NEIGHBOUR: 'it returns false'. Refute it at one input. -/
def nfaRunsWrong : ChangeSpec := { name := "nfaRuns", fn := fun _ => fun
  | [d1, d2, d3] => { results := [.lit (.bool false)], args := [d1, d2, d3] }
  | _ => none }
def NfaRunsWrongFalsely : Prop := nfaRunsRow.holds Try.pinned (OpenSpec.ofChange nfaRunsWrong)

/- THE SECOND FORM. 'bulk': how many values and letters a reading holds, each counted each time it is reached (what is shared counts as often as it is met; a slice's spare places count too). A statement '..UptoSaid' is the law's where the arguments, and the package variables that the reading takes, are together of bulk at most 1048576: NARROWER than '..Said'. Prove '..Said' where nothing that the law and all that it calls make is longer than what came in: it says more and counts as full. Else prove '..UptoSaid'. A law counts once. -/
mutual
def uptoBulk {H : Type} : DataW H → Nat
  | .lit (.string bytes) => bytes.length + 1
  | .lit _ => 1
  | .nil => 1
  | .ptr d => uptoBulk d + 1
  | .slice elems spare => uptoBulkAll elems + uptoBulkAll spare + 1
  | .agg parts => uptoBulkAll parts + 1
  | .iface _ d => uptoBulk d + 1
  | .map entries => uptoBulkEntries entries + 1
  | .held _ => 1
def uptoBulkAll {H : Type} : List (DataW H) → Nat
  | [] => 0
  | d :: r => uptoBulk d + uptoBulkAll r
def uptoBulkEntries {H : Type} : List (Lit × DataW H) → Nat
  | [] => 0
  | x :: r => uptoBulkEntry x + uptoBulkEntries r
def uptoBulkEntry {H : Type} : Lit × DataW H → Nat
  | (.string bytes, d) => bytes.length + uptoBulk d + 1
  | (_, d) => uptoBulk d + 1
 end
def uptoSmall : (H : Type) → List (DataW H) → Bool := fun _ ds => decide (uptoBulkAll ds ≤ 1048576)
def OpenSpec.upto (s : _root_.Go.ChangeSpec) : _root_.Go.OpenSpec := { _root_.Go.OpenSpec.ofChange s with cond := some uptoSmall }

/-- 'tattinglaw07.FactsSizes', WHERE WHAT IT READS IS OF BULK AT MOST 1048576: true; the input reads as it did. -/
def factsSizesUptoRow : OpenClaim := { program := "ytibabfgfahlekaa", sum := "395e1d152174af0dc358832a3a72ba4ad45facb3f31acb6e6382ec0615c382c8", func := "tatting/tattinglaw07.FactsSizes", spec := "factsSizes", unfollowed := true, recurses := true, apart := false, narrowed := true }
def FactsSizesUptoSaid : Prop := factsSizesUptoRow.holds Try.pinned (OpenSpec.upto factsSizesSpec)

/-- 'tattinglaw07.FactsBound', WHERE WHAT IT READS IS OF BULK AT MOST 1048576: true; the input reads as it did. -/
def factsBoundUptoRow : OpenClaim := { program := "ytibabfgfahlekaa", sum := "395e1d152174af0dc358832a3a72ba4ad45facb3f31acb6e6382ec0615c382c8", func := "tatting/tattinglaw07.FactsBound", spec := "factsBound", unfollowed := true, recurses := true, apart := false, narrowed := true }
def FactsBoundUptoSaid : Prop := factsBoundUptoRow.holds Try.pinned (OpenSpec.upto factsBoundSpec)

/-- 'tattinglaw09.NfaBuilds', WHERE WHAT IT READS IS OF BULK AT MOST 1048576: true; the input reads as it did. -/
def nfaBuildsUptoRow : OpenClaim := { program := "ytibabfgfahlekaa", sum := "395e1d152174af0dc358832a3a72ba4ad45facb3f31acb6e6382ec0615c382c8", func := "tatting/tattinglaw09.NfaBuilds", spec := "nfaBuilds", unfollowed := true, recurses := true, apart := false, narrowed := true }
def NfaBuildsUptoSaid : Prop := nfaBuildsUptoRow.holds Try.pinned (OpenSpec.upto nfaBuildsSpec)

/-- 'tattinglaw09.NfaFits', WHERE WHAT IT READS IS OF BULK AT MOST 1048576: true; the input reads as it did. -/
def nfaFitsUptoRow : OpenClaim := { program := "ytibabfgfahlekaa", sum := "395e1d152174af0dc358832a3a72ba4ad45facb3f31acb6e6382ec0615c382c8", func := "tatting/tattinglaw09.NfaFits", spec := "nfaFits", unfollowed := true, recurses := true, apart := false, narrowed := true }
def NfaFitsUptoSaid : Prop := nfaFitsUptoRow.holds Try.pinned (OpenSpec.upto nfaFitsSpec)

/-- 'tattinglaw09.NfaSteps', WHERE WHAT IT READS IS OF BULK AT MOST 1048576: true; the input reads as it did. -/
def nfaStepsUptoRow : OpenClaim := { program := "ytibabfgfahlekaa", sum := "395e1d152174af0dc358832a3a72ba4ad45facb3f31acb6e6382ec0615c382c8", func := "tatting/tattinglaw09.NfaSteps", spec := "nfaSteps", unfollowed := true, recurses := true, apart := false, narrowed := true }
def NfaStepsUptoSaid : Prop := nfaStepsUptoRow.holds Try.pinned (OpenSpec.upto nfaStepsSpec)

/-- 'tattinglaw09.NfaRuns', WHERE WHAT IT READS IS OF BULK AT MOST 1048576: true; the input reads as it did. -/
def nfaRunsUptoRow : OpenClaim := { program := "ytibabfgfahlekaa", sum := "395e1d152174af0dc358832a3a72ba4ad45facb3f31acb6e6382ec0615c382c8", func := "tatting/tattinglaw09.NfaRuns", spec := "nfaRuns", unfollowed := true, recurses := true, apart := false, narrowed := true }
def NfaRunsUptoSaid : Prop := nfaRunsUptoRow.holds Try.pinned (OpenSpec.upto nfaRunsSpec)

end Rows
end Go.Proofs.Ytibabfgfahlekaa
