/- Pruned from its seat's text: what the theorem hangs on. -/
import Derived.Test.YtibabfgfahlekaaZFsPure
/- Plain: what a tree tells ahead of any text, and which parts of a text fit it. -/
namespace Go.Proofs.Ytibabfgfahlekaa
open Go.Proofs.Bs
set_option linter.unusedVariables false

structure Fa where
  never : Bool
  least : Int
  most : Int
  first : S
  ends : Bool
def Fa.zero : Fa := ⟨false, 0, 0, S.zero, false⟩
def Fa.none_ : Fa := ⟨true, 0, 0, S.zero, false⟩
instance : Inhabited Fa := ⟨Fa.zero⟩
def noSet (s : S) : Bool := decide (s.a = 0 ∧ s.b = 0 ∧ s.c = 0 ∧ s.d = 0)
def faCat (a b : Fa) : Fa :=
  if a.never = true ∨ b.never = true then Fa.none_ else
  ⟨false, min (a.least + b.least) 1048576, if a.most < 0 ∨ b.most < 0 then -1 else min (a.most + b.most) 1048576, if a.least = 0 then Bs.or a.first b.first else a.first, false⟩
def faOr (a b : Fa) : Fa :=
  if a.never = true then b else if b.never = true then a else
  ⟨false, min a.least b.least, if a.most < 0 ∨ b.most < 0 then -1 else max a.most b.most, Bs.or a.first b.first, false⟩
def faRep (x : Nd) (a : Fa) : Fa :=
  if x.hi = 0 ∨ x.lo = 0 ∧ a.never = true then Fa.zero else if a.never = true then a else
  ⟨false, min (x.lo * a.least) 1048576, if a.most < 0 ∨ x.hi < 0 ∧ 0 < a.most then -1 else min (x.hi * a.most) 1048576, a.first, false⟩
def fFact (x : Nd) (ks : List Fa) : Fa :=
  if x.kind = 1 then (if noSet x.set = true then Fa.none_ else ⟨false, 1, 1, x.set, false⟩)
  else if x.kind = 5 then faCat (ks.getD 0 Fa.zero) (ks.getD 1 Fa.zero)
  else if x.kind = 6 then faOr (ks.getD 0 Fa.zero) (ks.getD 1 Fa.zero)
  else if x.kind = 7 then faRep x (ks.getD 0 Fa.zero)
  else Fa.zero

end Go.Proofs.Ytibabfgfahlekaa
