/- build: nets, what is wrong with them, how far nodes are from one; a map from nodes to how far they are. -/
import Derived.Test.YtkclabflkocbaaaRJ3
import Derived.Maps.OwnSet
import Derived.Maps.Views
set_option linter.unusedVariables false
set_option linter.unusedSimpArgs false
set_option linter.unnecessarySimpa false
namespace Go.Proofs.Ytkclabflkocbaaa
open Go.RowKit Go.Maps Go.WideMaps
set_option maxRecDepth 100000
structure Lg where
 a : Int
 b : Int
 long : Int
 op : Int
 cost : Int
def lgEnc (l : Lg) : List Value := [.int .i64 l.a, .int .i64 l.b, .int .i64 l.long, .int .i64 l.op, .int .i64 l.cost]
def lgErr (n : Int) (l : Lg) : Int := if l.a < 0 ∨ n - 1 < l.a ∨ l.b < 0 ∨ n - 1 < l.b then 7 else if l.a = l.b then 12 else if l.long < 1 ∨ 1000000 < l.long ∨ l.cost < 0 ∨ 100000 < l.cost then 2 else if l.op < 1 ∨ 3 < l.op then 4 else 0
def lgsErr (n : Int) : List Lg -> Int
 | [] => 0
 | l :: ls => if ¬ lgErr n l = 0 then lgErr n l else lgsErr n ls
def netErr (n : Int) (ls : List Lg) : Int := if n < 1 ∨ 40 < n then 2 else if 200 < ls.length then 8 else lgsErr n ls
structure LgOk (n : Int) (l : Lg) : Prop where
 a : 0 <= l.a /\ l.a < n
 b : 0 <= l.b /\ l.b < n
 ne : ¬ l.a = l.b
 long : 1 <= l.long /\ l.long <= 1000000
 cost : 0 <= l.cost /\ l.cost <= 100000
 op : 1 <= l.op /\ l.op <= 3
theorem lgOk {n : Int} {l : Lg} (h : lgErr n l = 0) : LgOk n l := by
 unfold lgErr at h
 split at h
 · cases h
 split at h
 · cases h
 split at h
 · cases h
 split at h
 · cases h
 · exact ⟨by omega, by omega, by omega, by omega, by omega, by omega⟩
theorem lgsOk {n : Int} : ∀ {ls : List Lg}, lgsErr n ls = 0 -> ∀ l ∈ ls, LgOk n l
 | [], _, l, hl => by cases hl
 | x :: ls, h, l, hl => by
  rw [lgsErr] at h
  split at h
  · contradiction
  rename_i h1
  rcases List.mem_cons.1 hl with rfl | hl
  · exact lgOk (Classical.not_not.1 h1)
  · exact lgsOk h l hl
theorem netOk {n : Int} {ls : List Lg} (h : netErr n ls = 0) : (1 <= n /\ n <= 40) /\ ls.length <= 200 /\ ∀ l ∈ ls, LgOk n l := by
 unfold netErr at h
 split at h
 · cases h
 split at h
 · cases h
 · exact ⟨by omega, by omega, lgsOk h⟩
/-! ### how far -/
def oth (l : Lg) (x : Int) : Int := if x = l.a then l.b else if x = l.b then l.a else -1
abbrev FM := List (Option (Int × Int))
def fget (m : FM) (x : Int) : Option (Int × Int) := if 0 <= x then (m.getD x.toNat none) else none
def fset (m : FM) (x : Int) (v : Int × Int) : FM := m.set x.toNat (some v)
def cmpI (x y : Int) : Int := if x < y then -1 else if y < x then 1 else 0
def lessF (p q : Int × Int) : Bool := decide (fstE [cmpI p.1 q.1, cmpI p.2 q.2] < 0)
def relx (l : Lg) (x : Int) (s : FM × Bool) : FM × Bool :=
 match fget s.1 (oth l x) with
 | none => s
 | some p => match fget s.1 x with
  | none => (fset s.1 x (p.1 + l.long, p.2 + 1), true)
  | some q => if lessF (p.1 + l.long, p.2 + 1) q = true then (fset s.1 x (p.1 + l.long, p.2 + 1), true) else s
def lgx (u : Lg -> Bool) (s : FM × Bool) (l : Lg) : FM × Bool := if u l = true then relx l l.b (relx l l.a s) else s
def rndF (ls : List Lg) (u : Lg -> Bool) (m : FM) : FM × Bool := ls.foldl (lgx u) (m, false)
def dst (ls : List Lg) (u : Lg -> Bool) : Nat -> FM -> Option FM
 | 0, _ => none
 | k + 1, m => if (rndF ls u m).2 = true then dst ls u k (rndF ls u m).1 else some (rndF ls u m).1
def far0 (n : Nat) (x : Int) : FM := fset (List.replicate n none) x (0, 0)
theorem fget_set {m : FM} {x : Int} {v : Int × Int} (h : 0 <= x /\ x < m.length) (y : Int) : fget (fset m x v) y = if y = x then some v else fget m y := by
 unfold fget fset
 by_cases hy : 0 <= y
 ·
  rw [if_pos hy, if_pos hy, List.getD_eq_getElem?_getD, List.getElem?_set]
  by_cases e : y = x
  · subst e; rw [if_pos rfl, if_pos rfl, if_pos (by omega)]; rfl
  · rw [if_neg (by omega), if_neg e, List.getD_eq_getElem?_getD]
 · rw [if_neg hy, if_neg hy, if_neg (by omega)]
/-! ### the map -/
def farR (v : Value) : Option (DataW Unit × List MemPlace) := match v with
 | .agg cs => match cs.toList with
  | [.int .i64 a, .int .i64 b] => some (.agg [.lit (.int .i64 a), .lit (.int .i64 b)], [])
  | _ => none
 | _ => none
theorem farR_mk (a b : Int) : farR (.agg #[.int .i64 a, .int .i64 b]) = some (.agg [.lit (.int .i64 a), .lit (.int .i64 b)], []) := rfl
theorem farR_inv {v : Value} {a b : Int} {ps : List MemPlace} (h : farR v = some (.agg [.lit (.int .i64 a), .lit (.int .i64 b)], ps)) : v = .agg #[.int .i64 a, .int .i64 b] := by
 unfold farR at h
 split at h
 ·
  rename_i cs
  split at h
  ·
   rename_i x y hcs
   injection h with h
   injection h with h1 h2
   injection h1 with h1
   simp only [List.cons.injEq, DataW.lit.injEq, Lit.int.injEq, true_and, and_true] at h1
   obtain ⟨rfl, rfl⟩ := h1
   have e : cs = #[.int .i64 x, .int .i64 y] := by apply Array.ext'; rw [hcs]
   rw [e]
  · cases h
 · cases h
def FarMap (w : World) (b k : Nat) (m : FM) : Prop :=
 ∃ D : DataW Unit, w.ownsMap Try.prog 3 farR b k D ∧
  ∀ x : Int, (Lit.int .i64 x).wf = true -> Maps.has D (.int .i64 x) = (fget m x).isSome /\ ∀ p q, fget m x = some (p, q) -> ∀ z, D.atKey (.int .i64 x) z = .agg [.lit (.int .i64 p), .lit (.int .i64 q)]
end Go.Proofs.Ytkclabflkocbaaa
