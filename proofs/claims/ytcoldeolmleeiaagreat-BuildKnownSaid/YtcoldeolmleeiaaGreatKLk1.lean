/- build.Link: a stable sort by insertion, and the map of groups, as a resource. -/
import Derived.Test.YtcoldeolmleeiaaGreatKKN
import Derived.Test.YtcoldeolmleeiaaGreatKGG10
set_option linter.unusedVariables false
set_option linter.unusedSimpArgs false
set_option linter.unnecessarySimpa false
namespace Go.Proofs.YtcoldeolmleeiaaGreat
open Go.RowKit Go.Maps Go.WideMaps
set_option maxRecDepth 100000
def swpJ (l : List Int) (j : Nat) : List Int := (l.set (j + 1) (l.getD j 0)).set j (l.getD (j + 1) 0)
theorem swpJ_len (l : List Int) (j : Nat) : (swpJ l j).length = l.length := by simp [swpJ]
def sft (c : Int -> Int) : Nat -> List Int -> List Int
 | 0, l => l
 | j + 1, l => if c (l.getD (j + 1) 0) < c (l.getD j 0) then sft c j (swpJ l j) else l
theorem sft_len (c : Int -> Int) : ∀ (j : Nat) (l : List Int), (sft c j l).length = l.length
 | 0, _ => rfl
 | j + 1, l => by
  rw [sft]
  split
  · rw [sft_len c j, swpJ_len]
  · rfl
theorem sft_yes {c : Int -> Int} {j : Nat} {l : List Int} (h : c (l.getD (j + 1) 0) < c (l.getD j 0)) : sft c (j + 1) l = sft c j (swpJ l j) := by rw [sft, if_pos h]
theorem sft_no {c : Int -> Int} {j : Nat} {l : List Int} (h : ¬ c (l.getD (j + 1) 0) < c (l.getD j 0)) : sft c (j + 1) l = l := by rw [sft, if_neg h]
def insN (c : Int -> Int) (l : List Int) : Nat -> List Int
 | 0 => l
 | k + 1 => sft c (k + 1) (insN c l k)
theorem insN_len (c : Int -> Int) (l : List Int) : ∀ k, (insN c l k).length = l.length
 | 0 => rfl
 | k + 1 => by rw [insN, sft_len, insN_len c l k]
theorem mem_swpJ {l : List Int} {j : Nat} {x : Int} (h : j + 1 < l.length) : x ∈ swpJ l j -> x ∈ l := fun hx => by
 rcases List.mem_or_eq_of_mem_set hx with h1 | rfl
 ·
  rcases List.mem_or_eq_of_mem_set h1 with h2 | rfl
  · exact h2
  rw [List.getD_eq_getElem?_getD, List.getElem?_eq_getElem (by omega)]
  exact List.getElem_mem _
 rw [List.getD_eq_getElem?_getD, List.getElem?_eq_getElem (by omega)]
 exact List.getElem_mem _
theorem mem_sft {c : Int -> Int} {x : Int} : ∀ {j : Nat} {l : List Int}, j < l.length ∨ j = 0 -> x ∈ sft c j l -> x ∈ l
 | 0, _, _, h => h
 | j + 1, l, hj, h => by
  rw [sft] at h
  split at h
  · exact mem_swpJ (by omega) (mem_sft (by rw [swpJ_len]; omega) h)
  · exact h
theorem mem_insN {c : Int -> Int} {l : List Int} {x : Int} : ∀ {k : Nat}, k < l.length ∨ k = 0 -> x ∈ insN c l k -> x ∈ l
 | 0, _, h => h
 | k + 1, hk, h => mem_insN (by omega) (mem_sft (by rw [insN_len]; omega) h)
def grpR (v : Value) : Option (DataW Unit × List MemPlace) := match v with
 | .int .i64 a => some (.lit (.int .i64 a), [])
 | _ => none
theorem grpR_mk (a : Int) : grpR (.int .i64 a) = some (.lit (.int .i64 a), []) := rfl
theorem grpR_inv {v : Value} {a : Int} {ps : List MemPlace} (h : grpR v = some (.lit (.int .i64 a), ps)) : v = .int .i64 a := by
 unfold grpR at h
 split at h
 ·
  rename_i x
  injection h with h
  injection h with h1 h2
  injection h1 with h1
  injection h1 with _ h1
  rw [h1]
 · cases h
theorem grpR_any {v : Value} {y : DataW Unit × List MemPlace} (h : grpR v = some y) : ∃ c, v = .int .i64 c /\ y = (.lit (.int .i64 c), []) := by
 unfold grpR at h
 split at h
 · exact ⟨_, rfl, (Option.some.inj h).symm⟩
 · cases h
def GRd (D : DataW Unit) (m : List Int) : Prop := ∀ x : Int, (Lit.int .i64 x).wf = true -> Maps.has D (.int .i64 x) = decide (0 <= x /\ x < m.length) /\ ∀ i : Nat, x = (i : Int) -> ∀ v, m[i]? = some v -> ∀ z, D.atKey (.int .i64 x) z = .lit (.int .i64 v)
def GrpMap (w : World) (b k : Nat) (m : List Int) : Prop := ∃ D : DataW Unit, w.ownsMap Tryz.prog 3 grpR b k D /\ GRd D m
theorem grpLaw : Keyed Tryz.prog 3 := int_keyed Tryz.underlying3
theorem grp_wf {x : Int} (h : -1000000000000 <= x /\ x <= 1000000000000) : (Lit.int .i64 x).wf = true := by
 simp [Lit.wf, IntKind.min, IntKind.max, IntKind.signed, IntKind.bits] <;> omega
theorem grp_same {x y : Int} (h : (Lit.int .i64 x).wf = true) : (Lit.int .i64 y).sameKey (.int .i64 x) = decide (y = x) := by
 by_cases e : y = x
 ·
  subst e
  rw [Go.WideAt.sameKey_self (by trivial)]
  simp
 have h1 : (Lit.int .i64 y).sameKey (.int .i64 x) ≠ true := fun hs => e (by
  have h2 := Go.WideAt.sameKey_eq hs
  injection h2)
 simp [h1, e]
theorem GRd.put {D : DataW Unit} {m m' : List Int} {x v : Int} (hmap : IsMap D) (h : GRd D m) (hw : (Lit.int .i64 x).wf = true) (hx : 0 <= x) (hlen : ∀ y : Int, (0 <= y /\ y < m'.length) ↔ (y = x ∨ (0 <= y /\ y < m.length))) (hat : m'[x.toNat]? = some v) (hot : ∀ i : Nat, (i : Int) ≠ x -> m'[i]? = m[i]?) : GRd (D.put (.int .i64 x) (.lit (.int .i64 v))) m' := by
 intro y hy
 obtain ⟨h2, h3⟩ := h y hy
 by_cases e : y = x
 ·
  subst e
  refine ⟨by rw [has_put_same hmap (k := .int .i64 y) trivial, decide_eq_true ((hlen y).2 (.inl rfl))], fun i hi v' hv z => ?_⟩
  subst hi
  rw [Int.toNat_natCast, hv] at hat
  obtain rfl := Option.some.inj hat
  exact atKey_put_same hmap (k := .int .i64 _) trivial _ _
 have hne : Lit.int .i64 y ≠ Lit.int .i64 x := fun h => e (by injection h)
 refine ⟨?_, fun i hi v' hv z => ?_⟩
 ·
  rw [has_put_other hne, h2]
  have := hlen y
  by_cases hb : 0 <= y /\ y < m.length
  · rw [decide_eq_true hb, decide_eq_true (this.2 (.inr hb))]
  · rw [decide_eq_false hb, decide_eq_false (fun hc => (this.1 hc).elim e hb)]
 rw [atKey_put_other hne]
 exact h3 i hi v' (by rw [← hot i (by rw [← hi]; exact e)]; exact hv) z
section
variable {w w' : World} {b k : Nat} {m : List Int}
theorem GrpMap.lt (h : GrpMap w b k m) : b < w.heap.size := by obtain ⟨D, h, _⟩ := h; exact World.ownsMap.lt h
theorem GrpMap.gb {r : Option Nat} (h : GrpMap w b k m) (hg : w.grownBy w' r) (hr : some b ≠ r) : GrpMap w' b k m := by
 obtain ⟨D, h, h1⟩ := h
 exact ⟨D, World.ownsMap.kept h hg hr, h1⟩
theorem GrpMap.made (w : World) : GrpMap (w.alloc (.map #[] 0)) w.heap.size 0 [] := by
 refine ⟨.map [], World.ownsMap_made _ _ _ _, fun x _ => ⟨?_, fun i _ v h => by simp at h⟩⟩
 rw [decide_eq_false (by simp)]; rfl
theorem GrpMap.zero (w : World) : (zeroValue 3).run Tryz.prog w = .ok (.int .i64 0) w := by kernel_rfl
theorem GrpMap.look1 (h : GrpMap w b k m) {i : Nat} (hi : i <= 1000000) {p : Int} (hm : m[i]? = some p) :
  (Instr.lookup 122 (.map (some b)) (.int .i64 (i : Int)) false).run Tryz.prog w = .ok (.int .i64 p) w := by
 obtain ⟨D, h, h1⟩ := h
 have hw := grp_wf (x := (i : Int)) (by omega)
 obtain ⟨v, ps, hrun, hv⟩ := World.ownsMap.lookup h grpLaw Tryz.underlying122 (GrpMap.zero w) (grpR_mk 0) (keyOf_int_mk Tryz.underlying3 hw)
 obtain ⟨h2, h3⟩ := h1 _ hw
 rw [h3 i rfl p hm] at hv
 rw [hrun, grpR_inv hv]
theorem GrpMap.put (h : GrpMap w b k m) (hk : k < 1000000000) (hl : m.length <= 1000) (p : Int) :
  ∃ w', (Instr.mapUpdate 122 (.map (some b)) (.int .i64 (m.length : Int)) (.int .i64 p)).run Tryz.prog w = .ok () w' /\ GrpMap w' b (k + 1) (m ++ [p]) /\ w.grownBy w' (some b) := by
 obtain ⟨D, h, h1⟩ := h
 have hw : (Lit.int .i64 (m.length : Int)).wf = true := grp_wf (by omega)
 obtain ⟨w', hrun, ho, hg⟩ := World.ownsMap.update h grpLaw Tryz.underlying122 (by simp only [maxLen]; omega) (keyOf_int_mk Tryz.underlying3 hw) (grpR_mk p)
 refine ⟨w', hrun, ⟨_, ho, h1.put (World.ownsMap.isMap h) hw (by omega) (fun y => by simp; omega) (by rw [Int.toNat_natCast, List.getElem?_append_right (Nat.le_refl _)]; simp) (fun i hi => ?_)⟩, hg⟩
 rcases Nat.lt_trichotomy i m.length with h3 | h3 | h3
 · exact List.getElem?_append_left h3
 · exact absurd (by rw [h3]) hi
 · rw [List.getElem?_eq_none (show m.length <= i by omega), List.getElem?_eq_none (show (m ++ [p]).length <= i by rw [List.length_append, List.length_singleton]; omega)]
end
def GRng (w : World) (b r k : Nat) (m : List Int) (S : Int -> Bool) (cnt : Nat) : Prop :=
 ∃ (D : DataW Unit) (left : Lit -> Bool), w.ranges Tryz.prog 3 grpR b r k D left cnt /\ GRd D m /\ (∀ x : Int, (Lit.int .i64 x).wf = true -> left (.int .i64 x) = S x) /\ ∀ x : Int, S x = true -> 0 <= x /\ x < m.length
section
variable {w w' : World} {b r k cnt : Nat} {m : List Int} {S : Int -> Bool}
theorem GrpMap.range (h : GrpMap w b k m) : ∃ cnt w', (Instr.range 122 (.map (some b))).run Tryz.prog w = .ok (.pointer (some ⟨w.heap.size, 0, none⟩)) w' /\ GRng w' b w.heap.size k m (fun x => decide (0 <= x /\ x < m.length)) cnt /\ w.grownBy w' none /\ w'.heap.size = w.heap.size + 1 := by
 obtain ⟨D, h, h1⟩ := h
 obtain ⟨w', hr, h2, hg, hs⟩ := h.range grpLaw Tryz.underlying122
 exact ⟨_, w', hr, ⟨D, _, h2, h1, fun x hx => (h1 x hx).1, fun x hx => of_decide_eq_true hx⟩, hg, hs⟩
theorem GRng.lt (h : GRng w b r k m S cnt) : b < w.heap.size /\ r < w.heap.size := by
 obtain ⟨D, left, h, _⟩ := h
 exact ⟨World.ownsMap.lt h.owns, h.lt⟩
theorem GRng.gb {row : Option Nat} (h : GRng w b r k m S cnt) (hg : w.grownBy w' row) (hb : some b ≠ row) (hr : some r ≠ row) : GRng w' b r k m S cnt := by
 obtain ⟨D, left, h, h1⟩ := h
 exact ⟨D, left, h.kept hg hb hr, h1⟩
theorem GRng.owns (h : GRng w b r k m S cnt) : GrpMap w b k m := by
 obtain ⟨D, left, h, h1, _⟩ := h
 exact ⟨D, h.owns, h1⟩
theorem GRng.next (h : GRng w b r k m S cnt) (hl : m.length <= 1000) :
  ((∀ x : Int, (0 <= x /\ x < m.length) -> S x = false) /\ (Instr.next (.pointer (some ⟨r, 0, none⟩)) false 0).run Tryz.prog w = .ok (.tuple #[.bool false]) w) ∨
  ∃ (i : Nat) (c : Int) (w' : World) (cnt' : Nat), S (i : Int) = true /\ m[i]? = some c /\ (Instr.next (.pointer (some ⟨r, 0, none⟩)) false 0).run Tryz.prog w = .ok (.tuple #[.bool true, .int .i64 (i : Int), .int .i64 c]) w' /\ GRng w' b r k m (fun z => S z && !decide (z = (i : Int))) cnt' /\ cnt' < cnt ∧
   w.grownBy w' (some r) /\ w'.heap.size = w.heap.size /\ (Instr.entry (.pointer (some ⟨r, 0, none⟩))).run Tryz.prog w' = .ok (.tuple #[.int .i64 (i : Int), .int .i64 c]) w' := by
 obtain ⟨D, left, h, h1, h2, h3⟩ := h
 rcases h.next grpLaw 0 with ⟨_, hz, hrun⟩ | ⟨key, v, kl, y, w', cnt', hkey, hlk, hv, hat, hrun, hrg, hlt, hgr, hsz, hen⟩
 · exact .inl ⟨fun x hx => by rw [← h2 x (grp_wf (by omega)), hz], hrun⟩
 obtain ⟨x, rfl, rfl, hwx⟩ := Maps.keyOf_int_inv Tryz.underlying3 hkey
 obtain ⟨c, rfl, rfl⟩ := grpR_any hv
 rw [h2 x hwx] at hlk
 have hx := h3 x hlk
 obtain ⟨i, rfl⟩ : ∃ i : Nat, x = (i : Int) := ⟨x.toNat, by omega⟩
 have hi : i < m.length := by omega
 have hc : m[i]? = some c := by
  have e1 := (h1 _ hwx).2 i rfl _ (List.getElem?_eq_getElem hi) (.lit (.int .i64 0))
  rw [hat] at e1
  injection e1 with e1
  injection e1 with _ e1
  rw [List.getElem?_eq_getElem hi, e1]
 refine .inr ⟨i, c, w', cnt', hlk, hc, hrun, ⟨D, _, hrg, h1, fun z hz => ?_, fun z hz => h3 z (by simp at hz; exact hz.1)⟩, hlt, hgr, hsz, hen⟩
 rw [h2 z hz, grp_same hwx]
theorem GRng.put (h : GRng w b r k m S cnt) (hk : k <= 1000) (hl : m.length <= 1000) {i : Nat} (hi : i < m.length) (p : Int) :
  ∃ w', (Instr.mapUpdate 122 (.map (some b)) (.int .i64 (i : Int)) (.int .i64 p)).run Tryz.prog w = .ok () w' /\ GRng w' b r k (m.set i p) S cnt /\ w.grownBy w' (some b) := by
 obtain ⟨D, left, h, h1, h2, h3⟩ := h
 have hw : (Lit.int .i64 (i : Int)).wf = true := grp_wf (by omega)
 obtain ⟨w', hrun, hrg, hg⟩ := World.ranges.put h grpLaw Tryz.underlying122 (by simp only [maxLen]; omega) (keyOf_int_mk Tryz.underlying3 hw) (grpR_mk p) (by rw [(h1 _ hw).1, decide_eq_true (by omega)])
 refine ⟨w', hrun, ⟨_, _, hrg, h1.put (World.ownsMap.isMap h.owns) hw (by omega) (fun y => by rw [List.length_set]; omega) (by rw [Int.toNat_natCast, List.getElem?_set_self hi]) (fun j hj => List.getElem?_set_ne (by omega)), h2, fun x hx => by rw [List.length_set]; exact h3 x hx⟩, hg⟩
end
def rgrp (b k : Nat) (m : List Int) : Res := ⟨true, fun x => x = b, fun w => GrpMap w b k m, fun _ _ _ hg hr h => GrpMap.gb h hg (fun e => hr b e.symm rfl)⟩
def rgng (b r k : Nat) (m : List Int) (S : Int -> Bool) (cnt : Nat) : Res := ⟨true, fun x => x = b ∨ x = r, fun w => GRng w b r k m S cnt, fun _ _ _ hg hr h => GRng.gb h hg (fun e => hr b e.symm (.inl rfl)) (fun e => hr r e.symm (.inr rfl))⟩
section
variable {w0 A : World} {L : List Res} {b r k cnt : Nat} {m : List Int} {S : Int -> Bool}
theorem Bun.grpNew (h : Bun w0 L A) {g : Nat} (hg : A.heap.size = g) : Bun w0 (rgrp g 0 [] :: L) (A.alloc (.map #[] 0)) := by
 subst hg
 refine h.add _ (gb_alloc (gb_refl _ _) _) (GrpMap.made A) (fun g e => ?_)
 cases e
 simp
theorem Bun.grpPut (h : Bun w0 (rgrp b k m :: L) A) (hk : k < 1000000000) (hl : m.length <= 1000) {n : Nat} (hn : m.length = n) (p : Int) :
  ∃ B, (Instr.mapUpdate 122 (.map (some b)) (.int .i64 (n : Int)) (.int .i64 p)).run Tryz.prog A = .ok () B /\ Bun w0 (rgrp b (k + 1) (m ++ [p]) :: L) B /\ A.heap.size <= B.heap.size := by
 subst hn
 have h1 : GrpMap A b k m := h.all _ (.head _)
 obtain ⟨B, hr, h2, hg⟩ := GrpMap.put h1 hk hl p
 exact ⟨B, hr, h.wr rfl hg (fun _ e => by cases e; rfl) h2 fun g e => ⟨.inl e, by cases e; exact h2.lt⟩, hg.size⟩
theorem Bun.grpRange (h : Bun w0 (rgrp b k m :: L) A) : ∃ cnt B, (Instr.range 122 (.map (some b))).run Tryz.prog A = .ok (.pointer (some ⟨A.heap.size, 0, none⟩)) B /\ Bun w0 (rgng b A.heap.size k m (fun x => decide (0 <= x /\ x < m.length)) cnt :: L) B /\ A.heap.size <= B.heap.size := by
 have h1 : GrpMap A b k m := h.all _ (.head _)
 obtain ⟨cnt, B, hr, h2, hg, hs⟩ := GrpMap.range h1
 refine ⟨cnt, B, hr, ?_, by omega⟩
 exact h.wr (r' := rgng _ _ _ _ _ _) rfl hg (fun _ e => by cases e) h2 fun g e => by
  rcases (e : g = b ∨ g = A.heap.size) with rfl | rfl
  · exact ⟨.inl rfl, h2.lt.1⟩
  · exact ⟨.inr (Nat.le_refl _), h2.lt.2⟩
theorem Bun.gngOff (h : Bun w0 (rgng b r k m S cnt :: L) A) : Bun w0 (rgrp b k m :: L) A := by
 have h1 : GRng A b r k m S cnt := h.all _ (.head _)
 exact h.wr (r' := rgrp _ _ _) (q := none) rfl (gb_refl _ _) (fun _ e => by cases e) h1.owns fun g e => ⟨.inl (.inl e), by cases e; exact h1.lt.1⟩
theorem Bun.gngNext (h : Bun w0 (rgng b r k m S cnt :: L) A) (hl : m.length <= 1000) :
  ((∀ x : Int, (0 <= x /\ x < m.length) -> S x = false) /\ (Instr.next (.pointer (some ⟨r, 0, none⟩)) false 0).run Tryz.prog A = .ok (.tuple #[.bool false]) A) ∨
  ∃ (i : Nat) (c : Int) (B : World) (cnt' : Nat), S (i : Int) = true /\ m[i]? = some c /\ (Instr.next (.pointer (some ⟨r, 0, none⟩)) false 0).run Tryz.prog A = .ok (.tuple #[.bool true, .int .i64 (i : Int), .int .i64 c]) B /\ Bun w0 (rgng b r k m (fun z => S z && !decide (z = (i : Int))) cnt' :: L) B /\ cnt' < cnt /\ A.heap.size <= B.heap.size ∧
   (Instr.entry (.pointer (some ⟨r, 0, none⟩))).run Tryz.prog B = .ok (.tuple #[.int .i64 (i : Int), .int .i64 c]) B := by
 have h1 : GRng A b r k m S cnt := h.all _ (.head _)
 rcases h1.next hl with h2 | ⟨i, c, B, cnt', hS, hm, hr, h2, hlt, hg, hs, he⟩
 · exact .inl h2
 · exact .inr ⟨i, c, B, cnt', hS, hm, hr, h.wr (r' := rgng _ _ _ _ _ _) rfl hg (fun _ e => by cases e; exact .inr rfl) h2 fun g e => ⟨.inl e, by rcases (e : g = b ∨ g = r) with rfl | rfl; exact h2.lt.1; exact h2.lt.2⟩, hlt, by omega, he⟩
theorem Bun.gngPut (h : Bun w0 (rgng b r k m S cnt :: L) A) (hk : k <= 1000) (hl : m.length <= 1000) {i : Nat} (hi : i < m.length) (p : Int) :
  ∃ B, (Instr.mapUpdate 122 (.map (some b)) (.int .i64 (i : Int)) (.int .i64 p)).run Tryz.prog A = .ok () B /\ Bun w0 (rgng b r k (m.set i p) S cnt :: L) B /\ A.heap.size <= B.heap.size := by
 have h1 : GRng A b r k m S cnt := h.all _ (.head _)
 obtain ⟨B, hr, h2, hg⟩ := h1.put hk hl hi p
 exact ⟨B, hr, h.wr (r' := rgng _ _ _ _ _ _) rfl hg (fun _ e => by cases e; exact .inl rfl) h2 fun g e => ⟨.inl e, by rcases (e : g = b ∨ g = r) with rfl | rfl; exact h2.lt.1; exact h2.lt.2⟩, hg.size⟩
end
end Go.Proofs.YtcoldeolmleeiaaGreat
