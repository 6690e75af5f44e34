/- build: nets, what is wrong with them, how far nodes are from one; a map from nodes to how far they are. -/
import Derived.Test.YtcoldeolmleeiaaGreatKJ3
import Derived.Maps.OwnSet
import Derived.Maps.Views
import Derived.Test.YtcoldeolmleeiaaGreatKK1
import Derived.LoopN
set_option linter.unusedVariables false
set_option linter.unusedSimpArgs false
set_option linter.unnecessarySimpa false
namespace Go.Proofs.YtcoldeolmleeiaaGreat
open Go.RowKit Go.Maps Go.WideMaps
set_option maxRecDepth 100000
structure Lg where
 a : Int
 b : Int
 long : Int
 op : Int
 cost : Int
def lgEnc (l : Lg) : List Value := [.int .i64 l.a, .int .i64 l.b, .int .i64 l.long, .int .i64 l.op, .int .i64 l.cost]
def lgErr (n : Int) (l : Lg) : Int := if l.a < 0 ∨ n - 1 < l.a ∨ l.b < 0 ∨ n - 1 < l.b then 7 else if l.a = l.b then 12 else if l.long < 1 ∨ 1000000 < l.long ∨ l.cost < 0 ∨ 100000 < l.cost then 2 else if l.op < 1 ∨ 3 < l.op then 4 else 0
def lgsErr (n : Int) : List Lg -> Int
 | [] => 0
 | l :: ls => if ¬ lgErr n l = 0 then lgErr n l else lgsErr n ls
def netErr (n : Int) (ls : List Lg) : Int := if n < 1 ∨ 40 < n then 2 else if 200 < ls.length then 8 else lgsErr n ls
structure LgOk (n : Int) (l : Lg) : Prop where
 a : 0 <= l.a /\ l.a < n
 b : 0 <= l.b /\ l.b < n
 ne : ¬ l.a = l.b
 long : 1 <= l.long /\ l.long <= 1000000
 cost : 0 <= l.cost /\ l.cost <= 100000
 op : 1 <= l.op /\ l.op <= 3
theorem lgOk {n : Int} {l : Lg} (h : lgErr n l = 0) : LgOk n l := by
 unfold lgErr at h
 split at h
 · cases h
 split at h
 · cases h
 split at h
 · cases h
 split at h
 · cases h
 · exact ⟨by omega, by omega, by omega, by omega, by omega, by omega⟩
theorem lgsOk {n : Int} : ∀ {ls : List Lg}, lgsErr n ls = 0 -> ∀ l ∈ ls, LgOk n l
 | [], _, l, hl => by cases hl
 | x :: ls, h, l, hl => by
  rw [lgsErr] at h
  split at h
  · contradiction
  rename_i h1
  rcases List.mem_cons.1 hl with rfl | hl
  · exact lgOk (Classical.not_not.1 h1)
  · exact lgsOk h l hl
theorem netOk {n : Int} {ls : List Lg} (h : netErr n ls = 0) : (1 <= n /\ n <= 40) /\ ls.length <= 200 /\ ∀ l ∈ ls, LgOk n l := by
 unfold netErr at h
 split at h
 · cases h
 split at h
 · cases h
 · exact ⟨by omega, by omega, lgsOk h⟩
/-! ### how far -/
def oth (l : Lg) (x : Int) : Int := if x = l.a then l.b else if x = l.b then l.a else -1
abbrev FM := List (Option (Int × Int))
def fget (m : FM) (x : Int) : Option (Int × Int) := if 0 <= x then (m.getD x.toNat none) else none
def fset (m : FM) (x : Int) (v : Int × Int) : FM := m.set x.toNat (some v)
def cmpI (x y : Int) : Int := if x < y then -1 else if y < x then 1 else 0
def lessF (p q : Int × Int) : Bool := decide (fstE [cmpI p.1 q.1, cmpI p.2 q.2] < 0)
def relx (l : Lg) (x : Int) (s : FM × Bool) : FM × Bool :=
 match fget s.1 (oth l x) with
 | none => s
 | some p => match fget s.1 x with
  | none => (fset s.1 x (p.1 + l.long, p.2 + 1), true)
  | some q => if lessF (p.1 + l.long, p.2 + 1) q = true then (fset s.1 x (p.1 + l.long, p.2 + 1), true) else s
def lgx (u : Lg -> Bool) (s : FM × Bool) (l : Lg) : FM × Bool := if u l = true then relx l l.b (relx l l.a s) else s
def rndF (ls : List Lg) (u : Lg -> Bool) (m : FM) : FM × Bool := ls.foldl (lgx u) (m, false)
def dst (ls : List Lg) (u : Lg -> Bool) : Nat -> FM -> Option FM
 | 0, _ => none
 | k + 1, m => if (rndF ls u m).2 = true then dst ls u k (rndF ls u m).1 else some (rndF ls u m).1
def far0 (n : Nat) (x : Int) : FM := fset (List.replicate n none) x (0, 0)
theorem fget_set {m : FM} {x : Int} {v : Int × Int} (h : 0 <= x /\ x < m.length) (y : Int) : fget (fset m x v) y = if y = x then some v else fget m y := by
 unfold fget fset
 by_cases hy : 0 <= y
 ·
  rw [if_pos hy, if_pos hy, List.getD_eq_getElem?_getD, List.getElem?_set]
  by_cases e : y = x
  · subst e; rw [if_pos rfl, if_pos rfl, if_pos (by omega)]; rfl
  · rw [if_neg (by omega), if_neg e, List.getD_eq_getElem?_getD]
 · rw [if_neg hy, if_neg hy, if_neg (by omega)]
/-! ### the map -/
def farR (v : Value) : Option (DataW Unit × List MemPlace) := match v with
 | .agg cs => match cs.toList with
  | [.int .i64 a, .int .i64 b] => some (.agg [.lit (.int .i64 a), .lit (.int .i64 b)], [])
  | _ => none
 | _ => none
theorem farR_mk (a b : Int) : farR (.agg #[.int .i64 a, .int .i64 b]) = some (.agg [.lit (.int .i64 a), .lit (.int .i64 b)], []) := rfl
theorem farR_inv {v : Value} {a b : Int} {ps : List MemPlace} (h : farR v = some (.agg [.lit (.int .i64 a), .lit (.int .i64 b)], ps)) : v = .agg #[.int .i64 a, .int .i64 b] := by
 unfold farR at h
 split at h
 ·
  rename_i cs
  split at h
  ·
   rename_i x y hcs
   injection h with h
   injection h with h1 h2
   injection h1 with h1
   simp only [List.cons.injEq, DataW.lit.injEq, Lit.int.injEq, true_and, and_true] at h1
   obtain ⟨rfl, rfl⟩ := h1
   have e : cs = #[.int .i64 x, .int .i64 y] := by apply Array.ext'; rw [hcs]
   rw [e]
  · cases h
 · cases h
def FarMap (w : World) (b k : Nat) (m : FM) : Prop :=
 ∃ D : DataW Unit, w.ownsMap Tryz.prog 3 farR b k D ∧
  ∀ x : Int, (Lit.int .i64 x).wf = true -> Maps.has D (.int .i64 x) = (fget m x).isSome /\ ∀ p q, fget m x = some (p, q) -> ∀ z, D.atKey (.int .i64 x) z = .agg [.lit (.int .i64 p), .lit (.int .i64 q)]
theorem farLaw : Keyed Tryz.prog 3 := int_keyed Tryz.underlying3
section
variable {w w' : World} {b k : Nat} {m : FM}
theorem FarMap.lt (h : FarMap w b k m) : b < w.heap.size := by obtain ⟨D, h, _⟩ := h; exact World.ownsMap.lt h
theorem FarMap.gb {r : Option Nat} (h : FarMap w b k m) (hg : w.grownBy w' r) (hr : some b ≠ r) : FarMap w' b k m := by
 obtain ⟨D, h, h1⟩ := h
 exact ⟨D, World.ownsMap.kept h hg hr, h1⟩
theorem FarMap.made (w : World) (n : Nat) : FarMap (w.alloc (.map #[] 0)) w.heap.size 0 (List.replicate n none) := by
 refine ⟨.map [], World.ownsMap_made _ _ _ _, fun x _ => ?_⟩
 have e : fget (List.replicate n none) x = none := by
  unfold fget
  split
  ·
   rw [List.getD_eq_getElem?_getD, List.getElem?_replicate]
   split <;> rfl
  · rfl
 rw [e]
 exact ⟨rfl, fun p q h => by cases h⟩
theorem far_wf {x : Int} (h : -1000000000000 <= x /\ x <= 1000000000000) : (Lit.int .i64 x).wf = true := by
 simp [Lit.wf, IntKind.min, IntKind.max, IntKind.signed, IntKind.bits] <;> omega
theorem FarMap.zero (w : World) : (zeroValue 89).run Tryz.prog w = .ok (.agg #[.int .i64 0, .int .i64 0]) w := by kernel_rfl
theorem FarMap.look (h : FarMap w b k m) {x : Int} (hx : -1000000000000 <= x /\ x <= 1000000000000) {p q : Int} (hm : fget m x = some (p, q)) :
  (Instr.lookup 91 (.map (some b)) (.int .i64 x) true).run Tryz.prog w = .ok (.tuple #[.agg #[.int .i64 p, .int .i64 q], .bool true]) w := by
 obtain ⟨D, h, h1⟩ := h
 obtain ⟨v, ps, hrun, hv⟩ := World.ownsMap.look_ok h farLaw Tryz.underlying91 (FarMap.zero w) (farR_mk 0 0) (keyOf_int_mk Tryz.underlying3 (far_wf hx))
 obtain ⟨h2, h3⟩ := h1 x (far_wf hx)
 rw [h3 p q hm] at hv
 rw [hrun, h2, hm, farR_inv hv]
 rfl
theorem FarMap.lookNo (h : FarMap w b k m) {x : Int} (hx : -1000000000000 <= x /\ x <= 1000000000000) (hm : fget m x = none) :
  (Instr.lookup 91 (.map (some b)) (.int .i64 x) true).run Tryz.prog w = .ok (.tuple #[.agg #[.int .i64 0, .int .i64 0], .bool false]) w := by
 obtain ⟨D, h, h1⟩ := h
 obtain ⟨v, ps, hrun, hv⟩ := World.ownsMap.look_ok h farLaw Tryz.underlying91 (FarMap.zero w) (farR_mk 0 0) (keyOf_int_mk Tryz.underlying3 (far_wf hx))
 obtain ⟨h2, _⟩ := h1 x (far_wf hx)
 rw [hm] at h2
 have h2' : Maps.has D (.int .i64 x) = false := h2
 rw [atKey_of_not_has h2'] at hv
 rw [hrun, h2, farR_inv hv]
 rfl
theorem FarMap.look1 (h : FarMap w b k m) {x : Int} (hx : -1000000000000 <= x /\ x <= 1000000000000) {p q : Int} (hm : fget m x = some (p, q)) :
  (Instr.lookup 91 (.map (some b)) (.int .i64 x) false).run Tryz.prog w = .ok (.agg #[.int .i64 p, .int .i64 q]) w := by
 obtain ⟨D, h, h1⟩ := h
 obtain ⟨v, ps, hrun, hv⟩ := World.ownsMap.lookup h farLaw Tryz.underlying91 (FarMap.zero w) (farR_mk 0 0) (keyOf_int_mk Tryz.underlying3 (far_wf hx))
 obtain ⟨h2, h3⟩ := h1 x (far_wf hx)
 rw [h3 p q hm] at hv
 rw [hrun, farR_inv hv]
theorem FarMap.put (h : FarMap w b k m) (hk : k < 1000000000) {x p q : Int} (hx : 0 <= x /\ x < m.length) (hl : m.length <= 1000) :
  ∃ w', (Instr.mapUpdate 91 (.map (some b)) (.int .i64 x) (.agg #[.int .i64 p, .int .i64 q])).run Tryz.prog w = .ok () w' /\ FarMap w' b (k + 1) (fset m x (p, q)) /\ w.grownBy w' (some b) := by
 obtain ⟨D, h, h1⟩ := h
 have hw : (Lit.int .i64 x).wf = true := far_wf (by omega)
 obtain ⟨w', hrun, ho, hg⟩ := World.ownsMap.update h farLaw Tryz.underlying91 (by simp only [maxLen]; omega) (keyOf_int_mk Tryz.underlying3 hw) (farR_mk p q)
 refine ⟨w', hrun, ⟨_, ho, fun y hy => ?_⟩, hg⟩
 have hmap := World.ownsMap.isMap h
 obtain ⟨h2, h3⟩ := h1 y hy
 rw [fget_set hx]
 by_cases e : y = x
 ·
  subst e
  rw [if_pos rfl]
  refine ⟨by rw [has_put_same hmap (k := .int .i64 y) trivial]; rfl, fun p' q' e z => ?_⟩
  injection e with e
  injection e with e1 e2
  subst e1 e2
  exact atKey_put_same hmap (k := .int .i64 y) trivial _ _
 rw [if_neg e]
 have hne : Lit.int .i64 y ≠ Lit.int .i64 x := fun h => e (by injection h)
 refine ⟨by rw [has_put_other hne]; exact h2, fun p' q' e z => ?_⟩
 rw [atKey_put_other hne]
 exact h3 p' q' e z
end
def rfar (b k : Nat) (m : FM) : Res := ⟨true, fun x => x = b, fun w => FarMap w b k m, fun _ _ _ hg hr h => FarMap.gb h hg (fun e => hr b e.symm rfl)⟩
section
variable {w0 A : World} {L : List Res} {b k : Nat} {m : FM}
theorem Bun.farNew (h : Bun w0 L A) (n : Nat) {g : Nat} (hg : A.heap.size = g) : Bun w0 (rfar g 0 (List.replicate n none) :: L) (A.alloc (.map #[] 0)) := by
 subst hg
 refine h.add _ (gb_alloc (gb_refl _ _) _) (FarMap.made A n) (fun g e => ?_)
 cases e
 simp
theorem Bun.farPut (h : Bun w0 (rfar b k m :: L) A) (hk : k < 1000000000) {x p q : Int} (hx : 0 <= x /\ x < m.length) (hl : m.length <= 1000) :
  ∃ B, (Instr.mapUpdate 91 (.map (some b)) (.int .i64 x) (.agg #[.int .i64 p, .int .i64 q])).run Tryz.prog A = .ok () B /\ Bun w0 (rfar b (k + 1) (fset m x (p, q)) :: L) B /\ A.heap.size <= B.heap.size := by
 have h1 : FarMap A b k m := h.all _ (.head _)
 obtain ⟨B, hr, h2, hg⟩ := FarMap.put h1 hk hx hl
 exact ⟨B, hr, h.wr rfl hg (fun _ e => by cases e; rfl) h2 fun g e => ⟨.inl e, by cases e; exact h2.lt⟩, hg.size⟩
end
theorem wp_loopG {P : Program} {c : Code} {Q : Exit -> Act -> World -> Prop} {a : Act} {w : World} (n : Nat) (hn : a.tmps.size = n) (I : Nat -> (Nat -> Value) -> List Deferred -> World -> Prop) (K0 : Nat)
  (h0 : I K0 (slot a.tmps) a.defers w)
  (round : ∀ K t ds wr, I K t ds wr -> c.wp P (Exit.then (fun a' w' => a'.tmps.size = n /\ ∃ K', I K' (slot a'.tmps) a'.defers w' /\ K' < K) Q) { tmps := ((List.range n).map t).toArray, defers := ds } wr) :
  (Code.loop c).wp P Q a w := by
 have mono : ∀ (i : Nat) (a : Act) (w : World), Code.rounds P c Q i a w -> Code.rounds P c Q (i + 1) a w := by
  intro i
  induction i with
  | zero => intro a w h; exact h.elim
  | succ i ih =>
   intro a w h
   rw [rounds_succ] at h ⊢
   refine wp_mono h fun e a' w' h => ?_
   cases e <;> first | exact ih _ _ h | exact h
 have monoN : ∀ (j i : Nat) (a : Act) (w : World), Code.rounds P c Q i a w -> Code.rounds P c Q (i + j) a w := by
  intro j
  induction j with
  | zero => intro i a w h; exact h
  | succ j ih => intro i a w h; exact mono _ _ _ (ih i a w h)
 have key : ∀ (K : Nat) (a : Act) (w : World), a.tmps.size = n -> I K (slot a.tmps) a.defers w -> Code.rounds P c Q (K + 1) a w := by
  intro K
  induction K using Nat.strongRecOn with
  | ind K ih =>
   rintro ⟨T, ds⟩ wr hT hI
   simp only at hT
   have e : T = ((List.range n).map (slot T)).toArray := by
    refine Array.ext (by simp [hT]) fun i h1 h2 => ?_
    simp [slot, h1]
   have hr := round K (slot T) ds wr hI
   rw [← e] at hr
   rw [rounds_succ]
   refine wp_mono hr fun e a' w' h => ?_
   cases e with
   | normal =>
    obtain ⟨h1, K', h2, h3⟩ := h
    have h4 := monoN (K - (K' + 1)) _ _ _ (ih K' h3 a' w' h1 h2)
    rwa [show K' + 1 + (K - (K' + 1)) = K by omega] at h4
   | _ => exact h
 exact wp_loop_rounds (K0 + 1) (key K0 a w hn h0)
end Go.Proofs.YtcoldeolmleeiaaGreat
