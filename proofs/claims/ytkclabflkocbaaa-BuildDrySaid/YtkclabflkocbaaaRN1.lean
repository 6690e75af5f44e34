/- build: the map of how far nodes are, as a resource; a loop whose rank is a ghost. -/
import Derived.Test.YtkclabflkocbaaaRN0
import Derived.Test.YtkclabflkocbaaaRK1
import Derived.LoopN
set_option linter.unusedVariables false
set_option linter.unusedSimpArgs false
set_option linter.unnecessarySimpa false
namespace Go.Proofs.Ytkclabflkocbaaa
open Go.RowKit Go.Maps Go.WideMaps
set_option maxRecDepth 100000
theorem farLaw : Keyed Try.prog 3 := int_keyed Try.underlying3
section
variable {w w' : World} {b k : Nat} {m : FM}
theorem FarMap.lt (h : FarMap w b k m) : b < w.heap.size := by obtain ⟨D, h, _⟩ := h; exact World.ownsMap.lt h
theorem FarMap.gb {r : Option Nat} (h : FarMap w b k m) (hg : w.grownBy w' r) (hr : some b ≠ r) : FarMap w' b k m := by
 obtain ⟨D, h, h1⟩ := h
 exact ⟨D, World.ownsMap.kept h hg hr, h1⟩
theorem FarMap.made (w : World) (n : Nat) : FarMap (w.alloc (.map #[] 0)) w.heap.size 0 (List.replicate n none) := by
 refine ⟨.map [], World.ownsMap_made _ _ _ _, fun x _ => ?_⟩
 have e : fget (List.replicate n none) x = none := by
  unfold fget
  split
  ·
   rw [List.getD_eq_getElem?_getD, List.getElem?_replicate]
   split <;> rfl
  · rfl
 rw [e]
 exact ⟨rfl, fun p q h => by cases h⟩
theorem far_wf {x : Int} (h : -1000000000000 <= x /\ x <= 1000000000000) : (Lit.int .i64 x).wf = true := by
 simp [Lit.wf, IntKind.min, IntKind.max, IntKind.signed, IntKind.bits] <;> omega
theorem FarMap.zero (w : World) : (zeroValue 117).run Try.prog w = .ok (.agg #[.int .i64 0, .int .i64 0]) w := by kernel_rfl
theorem FarMap.look (h : FarMap w b k m) {x : Int} (hx : -1000000000000 <= x /\ x <= 1000000000000) {p q : Int} (hm : fget m x = some (p, q)) :
  (Instr.lookup 119 (.map (some b)) (.int .i64 x) true).run Try.prog w = .ok (.tuple #[.agg #[.int .i64 p, .int .i64 q], .bool true]) w := by
 obtain ⟨D, h, h1⟩ := h
 obtain ⟨v, ps, hrun, hv⟩ := World.ownsMap.look_ok h farLaw Try.underlying119 (FarMap.zero w) (farR_mk 0 0) (keyOf_int_mk Try.underlying3 (far_wf hx))
 obtain ⟨h2, h3⟩ := h1 x (far_wf hx)
 rw [h3 p q hm] at hv
 rw [hrun, h2, hm, farR_inv hv]
 rfl
theorem FarMap.lookNo (h : FarMap w b k m) {x : Int} (hx : -1000000000000 <= x /\ x <= 1000000000000) (hm : fget m x = none) :
  (Instr.lookup 119 (.map (some b)) (.int .i64 x) true).run Try.prog w = .ok (.tuple #[.agg #[.int .i64 0, .int .i64 0], .bool false]) w := by
 obtain ⟨D, h, h1⟩ := h
 obtain ⟨v, ps, hrun, hv⟩ := World.ownsMap.look_ok h farLaw Try.underlying119 (FarMap.zero w) (farR_mk 0 0) (keyOf_int_mk Try.underlying3 (far_wf hx))
 obtain ⟨h2, _⟩ := h1 x (far_wf hx)
 rw [hm] at h2
 have h2' : Maps.has D (.int .i64 x) = false := h2
 rw [atKey_of_not_has h2'] at hv
 rw [hrun, h2, farR_inv hv]
 rfl
theorem FarMap.look1 (h : FarMap w b k m) {x : Int} (hx : -1000000000000 <= x /\ x <= 1000000000000) {p q : Int} (hm : fget m x = some (p, q)) :
  (Instr.lookup 119 (.map (some b)) (.int .i64 x) false).run Try.prog w = .ok (.agg #[.int .i64 p, .int .i64 q]) w := by
 obtain ⟨D, h, h1⟩ := h
 obtain ⟨v, ps, hrun, hv⟩ := World.ownsMap.lookup h farLaw Try.underlying119 (FarMap.zero w) (farR_mk 0 0) (keyOf_int_mk Try.underlying3 (far_wf hx))
 obtain ⟨h2, h3⟩ := h1 x (far_wf hx)
 rw [h3 p q hm] at hv
 rw [hrun, farR_inv hv]
theorem FarMap.put (h : FarMap w b k m) (hk : k < 1000000000) {x p q : Int} (hx : 0 <= x /\ x < m.length) (hl : m.length <= 1000) :
  ∃ w', (Instr.mapUpdate 119 (.map (some b)) (.int .i64 x) (.agg #[.int .i64 p, .int .i64 q])).run Try.prog w = .ok () w' /\ FarMap w' b (k + 1) (fset m x (p, q)) /\ w.grownBy w' (some b) := by
 obtain ⟨D, h, h1⟩ := h
 have hw : (Lit.int .i64 x).wf = true := far_wf (by omega)
 obtain ⟨w', hrun, ho, hg⟩ := World.ownsMap.update h farLaw Try.underlying119 (by simp only [maxLen]; omega) (keyOf_int_mk Try.underlying3 hw) (farR_mk p q)
 refine ⟨w', hrun, ⟨_, ho, fun y hy => ?_⟩, hg⟩
 have hmap := World.ownsMap.isMap h
 obtain ⟨h2, h3⟩ := h1 y hy
 rw [fget_set hx]
 by_cases e : y = x
 ·
  subst e
  rw [if_pos rfl]
  refine ⟨by rw [has_put_same hmap (k := .int .i64 y) trivial]; rfl, fun p' q' e z => ?_⟩
  injection e with e
  injection e with e1 e2
  subst e1 e2
  exact atKey_put_same hmap (k := .int .i64 y) trivial _ _
 rw [if_neg e]
 have hne : Lit.int .i64 y ≠ Lit.int .i64 x := fun h => e (by injection h)
 refine ⟨by rw [has_put_other hne]; exact h2, fun p' q' e z => ?_⟩
 rw [atKey_put_other hne]
 exact h3 p' q' e z
end
def rfar (b k : Nat) (m : FM) : Res := ⟨true, fun x => x = b, fun w => FarMap w b k m, fun _ _ _ hg hr h => FarMap.gb h hg (fun e => hr b e.symm rfl)⟩
section
variable {w0 A : World} {L : List Res} {b k : Nat} {m : FM}
theorem Bun.farNew (h : Bun w0 L A) (n : Nat) {g : Nat} (hg : A.heap.size = g) : Bun w0 (rfar g 0 (List.replicate n none) :: L) (A.alloc (.map #[] 0)) := by
 subst hg
 refine h.add _ (gb_alloc (gb_refl _ _) _) (FarMap.made A n) (fun g e => ?_)
 cases e
 simp
theorem Bun.farPut (h : Bun w0 (rfar b k m :: L) A) (hk : k < 1000000000) {x p q : Int} (hx : 0 <= x /\ x < m.length) (hl : m.length <= 1000) :
  ∃ B, (Instr.mapUpdate 119 (.map (some b)) (.int .i64 x) (.agg #[.int .i64 p, .int .i64 q])).run Try.prog A = .ok () B /\ Bun w0 (rfar b (k + 1) (fset m x (p, q)) :: L) B /\ A.heap.size <= B.heap.size := by
 have h1 : FarMap A b k m := h.all _ (.head _)
 obtain ⟨B, hr, h2, hg⟩ := FarMap.put h1 hk hx hl
 exact ⟨B, hr, h.wr rfl hg (fun _ e => by cases e; rfl) h2 fun g e => ⟨.inl e, by cases e; exact h2.lt⟩, hg.size⟩
end
theorem wp_loopG {P : Program} {c : Code} {Q : Exit -> Act -> World -> Prop} {a : Act} {w : World} (n : Nat) (hn : a.tmps.size = n) (I : Nat -> (Nat -> Value) -> List Deferred -> World -> Prop) (K0 : Nat)
  (h0 : I K0 (slot a.tmps) a.defers w)
  (round : ∀ K t ds wr, I K t ds wr -> c.wp P (Exit.then (fun a' w' => a'.tmps.size = n /\ ∃ K', I K' (slot a'.tmps) a'.defers w' /\ K' < K) Q) { tmps := ((List.range n).map t).toArray, defers := ds } wr) :
  (Code.loop c).wp P Q a w := by
 have mono : ∀ (i : Nat) (a : Act) (w : World), Code.rounds P c Q i a w -> Code.rounds P c Q (i + 1) a w := by
  intro i
  induction i with
  | zero => intro a w h; exact h.elim
  | succ i ih =>
   intro a w h
   rw [rounds_succ] at h ⊢
   refine wp_mono h fun e a' w' h => ?_
   cases e <;> first | exact ih _ _ h | exact h
 have monoN : ∀ (j i : Nat) (a : Act) (w : World), Code.rounds P c Q i a w -> Code.rounds P c Q (i + j) a w := by
  intro j
  induction j with
  | zero => intro i a w h; exact h
  | succ j ih => intro i a w h; exact mono _ _ _ (ih i a w h)
 have key : ∀ (K : Nat) (a : Act) (w : World), a.tmps.size = n -> I K (slot a.tmps) a.defers w -> Code.rounds P c Q (K + 1) a w := by
  intro K
  induction K using Nat.strongRecOn with
  | ind K ih =>
   rintro ⟨T, ds⟩ wr hT hI
   simp only at hT
   have e : T = ((List.range n).map (slot T)).toArray := by
    refine Array.ext (by simp [hT]) fun i h1 h2 => ?_
    simp [slot, h1]
   have hr := round K (slot T) ds wr hI
   rw [← e] at hr
   rw [rounds_succ]
   refine wp_mono hr fun e a' w' h => ?_
   cases e with
   | normal =>
    obtain ⟨h1, K', h2, h3⟩ := h
    have h4 := monoN (K - (K' + 1)) _ _ _ (ih K' h3 a' w' h1 h2)
    rwa [show K' + 1 + (K - (K' + 1)) = K by omega] at h4
   | _ => exact h
 exact wp_loop_rounds (K0 + 1) (key K0 a w hn h0)
end Go.Proofs.Ytkclabflkocbaaa
