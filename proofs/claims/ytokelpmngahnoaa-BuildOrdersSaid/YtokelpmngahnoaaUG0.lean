/- build: what holds the road up: the chain. -/
import Derived.Test.YtokelpmngahnoaaUKA
import Derived.Test.YtokelpmngahnoaaUJ8
set_option linter.unusedVariables false
set_option linter.unusedSimpArgs false
set_option linter.unnecessarySimpa false
namespace Go.Proofs.Ytokelpmngahnoaa
open Go.RowKit
def fndN (f : Nat -> Bool) : Nat -> Nat -> Nat
 | k, 0 => k
 | k, n + 1 => if f k = true then k else fndN f (k + 1) n
section
variable (c : Cs) (N : Nat)
def Cs.czA (i k : Nat) : Bool := (c.af i).contains (k : Int) && decide (c.enI N k + c.wa k = c.bgI N i)
def Cs.czM (i k : Nat) : Bool := decide (c.bef (c.m i) i = (k : Int)) && decide (c.enI N k = c.bgI N i)
def Cs.cz (i k : Nat) : Bool := c.czA N i k || c.czM N i k
def Cs.cause (i : Nat) : Nat := fndN (c.cz N i) 0 i
end
def Cs.pre (c : Cs) (N : Nat) : Nat -> Nat -> List Nat
 | _, 0 => []
 | i, f + 1 => if c.bgI N i = c.fr i then [] else c.pre N (c.cause N i) f ++ [c.cause N i]
def Cs.chn (c : Cs) (N : Nat) (i : Nat) : List Nat := c.pre N i i ++ [i]
section
variable {c : Cs} {N : Nat} (H : SiteOk c N)
include H
end
def Cs.opr (c : Cs) (N : Nat) : Nat := fndN (fun i => decide (c.enI N i + c.wa i = c.opn N)) 0 N
end Go.Proofs.Ytokelpmngahnoaa
