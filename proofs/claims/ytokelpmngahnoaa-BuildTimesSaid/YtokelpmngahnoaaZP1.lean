/- build: what is known lies the later, the longer tasks take, and the less machines work. -/
import Derived.Test.YtokelpmngahnoaaZJ0
set_option linter.unusedVariables false
set_option linter.unusedSimpArgs false
set_option linter.unnecessarySimpa false
namespace Go.Proofs.Ytokelpmngahnoaa
open Go.RowKit
/-- In the one case nothing takes longer, and machines work whenever they do in the other one. -/
structure CsLe (c d : Cs) : Prop where
  nd : c.nd = d.nd
  ho : ∀ i, 0 ≤ c.ho i ∧ c.ho i ≤ d.ho i
  wa : ∀ i, 0 ≤ c.wa i ∧ c.wa i ≤ d.wa i
  fr : ∀ i, 0 ≤ c.fr i ∧ c.fr i ≤ d.fr i
  m : ∀ i, c.m i = d.m i
  af : ∀ i, c.af i = d.af i
  aok : ∀ i, ∀ a ∈ c.af i, 0 ≤ a ∧ a < i
  sh : ∀ m, c.sh m = d.sh m
  wk : ∀ m h, d.wk m h = true → c.wk m h = true
section
variable {c d : Cs} (h : CsLe c d)
include h
end
end Go.Proofs.Ytokelpmngahnoaa
