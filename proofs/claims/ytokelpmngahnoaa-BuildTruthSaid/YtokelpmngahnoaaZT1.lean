/- build and its reference: the reference's cases. -/
import Derived.Test.YtokelpmngahnoaaZE1
import Derived.Test.YtokelpmngahnoaaZKB
import Derived.Test.YtokelpmngahnoaaZKA
import Derived.Test.YtokelpmngahnoaaZKC
import Derived.Test.YtokelpmngahnoaaZMixG
set_option linter.unusedVariables false
set_option linter.unusedSimpArgs false
set_option linter.unnecessarySimpa false
namespace Go.Proofs.Ytokelpmngahnoaa
open Go.RowKit
set_option maxRecDepth 100000
attribute [local go_sem] Oper.semAt_some
/-- What the data of a case say. -/
structure CsIs (c : Cs) (ms : List Mch) (ts : List Tsk) (lh lw lf : List Int) (rows : List (List Bool)) : Prop where
  ho : lh = (List.range ts.length).map c.ho
  wa : lw = (List.range ts.length).map c.wa
  fr : lf = (List.range ts.length).map c.fr
  m : ∀ i, c.m i = (tk ts i).m
  af : ∀ i, c.af i = (tk ts i).af
  sh : ∀ m, c.sh m = (mc ms m.toNat).shift
  rn : rows.length = ms.length
  rl : ∀ (k : Nat) (r : List Bool), rows[k]? = some r → r.length = c.nd ∧ ∀ d, d < c.nd → r.getD d false = c.wk (k : Int) d
end Go.Proofs.Ytokelpmngahnoaa
