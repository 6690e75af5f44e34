/- rescue: the map of times, as a resource. -/
import Derived.Test.YtlefmbjipdlcfaaMPT1
import Derived.Test.YtlefmbjipdlcfaaMKN
set_option linter.unusedVariables false
set_option linter.unusedSimpArgs false
set_option linter.unnecessarySimpa false
namespace Go.Proofs.Ytlefmbjipdlcfaa
open Go.RowKit Go.Maps Go.WideMaps
set_option maxRecDepth 100000
def timR (v : Value) : Option (DataW Unit × List MemPlace) := match v with
 | .int .i64 a => some (.lit (.int .i64 a), [])
 | _ => none
theorem timR_mk (a : Int) : timR (.int .i64 a) = some (.lit (.int .i64 a), []) := rfl
theorem timR_inv {v : Value} {a : Int} {ps : List MemPlace} (h : timR v = some (.lit (.int .i64 a), ps)) : v = .int .i64 a := by
 unfold timR at h
 split at h
 ·
  rename_i x
  injection h with h
  injection h with h1 h2
  injection h1 with h1
  injection h1 with _ h1
  rw [h1]
 · cases h
def TimMap (w : World) (b k : Nat) (m : TM) : Prop :=
 ∃ D : DataW Unit, w.ownsMap Try.prog 3 timR b k D ∧
  ∀ x : Int, (Lit.int .i64 x).wf = true -> Maps.has D (.int .i64 x) = (tget m x).isSome /\ ∀ p, tget m x = some p -> ∀ z, D.atKey (.int .i64 x) z = .lit (.int .i64 p)
theorem timLaw : Keyed Try.prog 3 := int_keyed Try.underlying3
section
variable {w w' : World} {b k : Nat} {m : TM}
theorem TimMap.lt (h : TimMap w b k m) : b < w.heap.size := by obtain ⟨D, h, _⟩ := h; exact World.ownsMap.lt h
theorem TimMap.gb {r : Option Nat} (h : TimMap w b k m) (hg : w.grownBy w' r) (hr : some b ≠ r) : TimMap w' b k m := by
 obtain ⟨D, h, h1⟩ := h
 exact ⟨D, World.ownsMap.kept h hg hr, h1⟩
theorem TimMap.made (w : World) (n : Nat) : TimMap (w.alloc (.map #[] 0)) w.heap.size 0 (List.replicate n none) := by
 refine ⟨.map [], World.ownsMap_made _ _ _ _, fun x _ => ?_⟩
 have e : tget (List.replicate n none) x = none := by
  unfold tget
  split
  ·
   rw [List.getD_eq_getElem?_getD, List.getElem?_replicate]
   split <;> rfl
  · rfl
 rw [e]
 exact ⟨rfl, fun p h => by cases h⟩
theorem tim_wf {x : Int} (h : -1000000000000 <= x /\ x <= 1000000000000) : (Lit.int .i64 x).wf = true := by
 simp [Lit.wf, IntKind.min, IntKind.max, IntKind.signed, IntKind.bits] <;> omega
theorem TimMap.zero (w : World) : (zeroValue 3).run Try.prog w = .ok (.int .i64 0) w := by kernel_rfl
theorem TimMap.look (h : TimMap w b k m) {x : Int} (hx : -1000000000000 <= x /\ x <= 1000000000000) {p : Int} (hm : tget m x = some p) :
  (Instr.lookup 80 (.map (some b)) (.int .i64 x) true).run Try.prog w = .ok (.tuple #[.int .i64 p, .bool true]) w := by
 obtain ⟨D, h, h1⟩ := h
 obtain ⟨v, ps, hrun, hv⟩ := World.ownsMap.look_ok h timLaw Try.underlying80 (TimMap.zero w) (timR_mk 0) (keyOf_int_mk Try.underlying3 (tim_wf hx))
 obtain ⟨h2, h3⟩ := h1 x (tim_wf hx)
 rw [h3 p hm] at hv
 rw [hrun, h2, hm, timR_inv hv]
 rfl
theorem TimMap.lookNo (h : TimMap w b k m) {x : Int} (hx : -1000000000000 <= x /\ x <= 1000000000000) (hm : tget m x = none) :
  (Instr.lookup 80 (.map (some b)) (.int .i64 x) true).run Try.prog w = .ok (.tuple #[.int .i64 0, .bool false]) w := by
 obtain ⟨D, h, h1⟩ := h
 obtain ⟨v, ps, hrun, hv⟩ := World.ownsMap.look_ok h timLaw Try.underlying80 (TimMap.zero w) (timR_mk 0) (keyOf_int_mk Try.underlying3 (tim_wf hx))
 obtain ⟨h2, _⟩ := h1 x (tim_wf hx)
 rw [hm] at h2
 have h2' : Maps.has D (.int .i64 x) = false := h2
 rw [atKey_of_not_has h2'] at hv
 rw [hrun, h2, timR_inv hv]
 rfl
theorem TimMap.look1 (h : TimMap w b k m) {x : Int} (hx : -1000000000000 <= x /\ x <= 1000000000000) {p : Int} (hm : tget m x = some p) :
  (Instr.lookup 80 (.map (some b)) (.int .i64 x) false).run Try.prog w = .ok (.int .i64 p) w := by
 obtain ⟨D, h, h1⟩ := h
 obtain ⟨v, ps, hrun, hv⟩ := World.ownsMap.lookup h timLaw Try.underlying80 (TimMap.zero w) (timR_mk 0) (keyOf_int_mk Try.underlying3 (tim_wf hx))
 obtain ⟨h2, h3⟩ := h1 x (tim_wf hx)
 rw [h3 p hm] at hv
 rw [hrun, timR_inv hv]
theorem TimMap.put (h : TimMap w b k m) (hk : k < 1000000000) {x p : Int} (hx : 0 <= x /\ x < m.length) (hl : m.length <= 1000) :
  ∃ w', (Instr.mapUpdate 80 (.map (some b)) (.int .i64 x) (.int .i64 p)).run Try.prog w = .ok () w' /\ TimMap w' b (k + 1) (tset m x p) /\ w.grownBy w' (some b) := by
 obtain ⟨D, h, h1⟩ := h
 have hw : (Lit.int .i64 x).wf = true := tim_wf (by omega)
 obtain ⟨w', hrun, ho, hg⟩ := World.ownsMap.update h timLaw Try.underlying80 (by simp only [maxLen]; omega) (keyOf_int_mk Try.underlying3 hw) (timR_mk p)
 refine ⟨w', hrun, ⟨_, ho, fun y hy => ?_⟩, hg⟩
 have hmap := World.ownsMap.isMap h
 obtain ⟨h2, h3⟩ := h1 y hy
 rw [tget_set hx]
 by_cases e : y = x
 ·
  subst e
  rw [if_pos rfl]
  refine ⟨by rw [has_put_same hmap (k := .int .i64 y) trivial]; rfl, fun p' e z => ?_⟩
  injection e with e
  subst e
  exact atKey_put_same hmap (k := .int .i64 y) trivial _ _
 rw [if_neg e]
 have hne : Lit.int .i64 y ≠ Lit.int .i64 x := fun h => e (by injection h)
 refine ⟨by rw [has_put_other hne]; exact h2, fun p' e z => ?_⟩
 rw [atKey_put_other hne]
 exact h3 p' e z
end
def rtim (b k : Nat) (m : TM) : Res := ⟨true, fun x => x = b, fun w => TimMap w b k m, fun _ _ _ hg hr h => TimMap.gb h hg (fun e => hr b e.symm rfl)⟩
section
variable {w0 A : World} {L : List Res} {b k : Nat} {m : TM}
theorem Bun.timNew (h : Bun w0 L A) (n : Nat) {g : Nat} (hg : A.heap.size = g) : Bun w0 (rtim g 0 (List.replicate n none) :: L) (A.alloc (.map #[] 0)) := by
 subst hg
 refine h.add _ (gb_alloc (gb_refl _ _) _) (TimMap.made A n) (fun g e => ?_)
 cases e
 simp
theorem Bun.timPut (h : Bun w0 (rtim b k m :: L) A) (hk : k < 1000000000) {x p : Int} (hx : 0 <= x /\ x < m.length) (hl : m.length <= 1000) :
  ∃ B, (Instr.mapUpdate 80 (.map (some b)) (.int .i64 x) (.int .i64 p)).run Try.prog A = .ok () B /\ Bun w0 (rtim b (k + 1) (tset m x p) :: L) B /\ A.heap.size <= B.heap.size := by
 have h1 : TimMap A b k m := h.all _ (.head _)
 obtain ⟨B, hr, h2, hg⟩ := TimMap.put h1 hk hx hl
 exact ⟨B, hr, h.wr rfl hg (fun _ e => by cases e; rfl) h2 fun g e => ⟨.inl e, by cases e; exact h2.lt⟩, hg.size⟩
end
end Go.Proofs.Ytlefmbjipdlcfaa
