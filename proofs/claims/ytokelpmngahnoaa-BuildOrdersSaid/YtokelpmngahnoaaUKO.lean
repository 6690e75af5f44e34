/- build: orders of tasks, gone through one after the other; the best one. Plain maths. -/
import Derived.Test.YtokelpmngahnoaaUT4
import Derived.Test.YtokelpmngahnoaaUJ10
import Derived.Test.YtokelpmngahnoaaUN1
import Derived.Test.YtokelpmngahnoaaUG2
import Derived.Test.YtokelpmngahnoaaUJK3
import Derived.Test.YtokelpmngahnoaaUI1
import Derived.Test.YtokelpmngahnoaaUS6
set_option linter.unusedVariables false
set_option linter.unusedSimpArgs false
set_option linter.unnecessarySimpa false
namespace Go.Proofs.Ytokelpmngahnoaa
set_option maxRecDepth 100000
theorem rgKO69 (t : Nat -> Value) : ((List.range 69).map t).toArray = #[t 0, t 1, t 2, t 3, t 4, t 5, t 6, t 7, t 8, t 9, t 10, t 11, t 12, t 13, t 14, t 15, t 16, t 17, t 18, t 19, t 20, t 21, t 22, t 23, t 24, t 25, t 26, t 27, t 28, t 29, t 30, t 31, t 32, t 33, t 34, t 35, t 36, t 37, t 38, t 39, t 40, t 41, t 42, t 43, t 44, t 45, t 46, t 47, t 48, t 49, t 50, t 51, t 52, t 53, t 54, t 55, t 56, t 57, t 58, t 59, t 60, t 61, t 62, t 63, t 64, t 65, t 66, t 67, t 68] := rfl
theorem rgKO70 (t : Nat -> Value) : ((List.range 70).map t).toArray = #[t 0, t 1, t 2, t 3, t 4, t 5, t 6, t 7, t 8, t 9, t 10, t 11, t 12, t 13, t 14, t 15, t 16, t 17, t 18, t 19, t 20, t 21, t 22, t 23, t 24, t 25, t 26, t 27, t 28, t 29, t 30, t 31, t 32, t 33, t 34, t 35, t 36, t 37, t 38, t 39, t 40, t 41, t 42, t 43, t 44, t 45, t 46, t 47, t 48, t 49, t 50, t 51, t 52, t 53, t 54, t 55, t 56, t 57, t 58, t 59, t 60, t 61, t 62, t 63, t 64, t 65, t 66, t 67, t 68, t 69] := rfl
def posN : List Nat -> Nat -> Nat
 | [], _ => 0
 | y :: o, x => if y = x then 0 else posN o x + 1
theorem posN_at : ∀ {o : List Nat} {x : Nat}, x ∈ o -> o[posN o x]? = some x
 | y :: o, x, h => by
  rw [posN]
  split
  · rename_i e; subst e; rfl
  rename_i e
  have h2 : x ∈ o := by
   rcases List.mem_cons.1 h with h | h
   · exact absurd h.symm e
   · exact h
  simpa using posN_at h2
theorem posN_lt {o : List Nat} {x : Nat} (h : x ∈ o) : posN o x < o.length := (List.getElem?_eq_some_iff.1 (posN_at h)).1
theorem posN_of {o : List Nat} (hn : o.Nodup) {i x : Nat} (h : o[i]? = some x) : posN o x = i := by
 have h2 := posN_at (List.mem_of_getElem? h)
 obtain ⟨a1, a2⟩ := List.getElem?_eq_some_iff.1 h
 obtain ⟨b1, b2⟩ := List.getElem?_eq_some_iff.1 h2
 exact (List.getElem_inj hn).1 (b2.trans a2.symm)
def ordOf (ts : List Tsk) (o : List Nat) (k : Nat) : Tsk := ⟨(tk ts k).m, (tk ts k).ho, (tk ts k).wa, (tk ts k).fr, (tk ts k).af.map fun a => ((posN o a.toNat : Nat) : Int), (tk ts k).av⟩
def ordT (ts : List Tsk) (o : List Nat) : List Tsk := o.map (ordOf ts o)
theorem ordT_len (ts : List Tsk) (o : List Nat) : (ordT ts o).length = o.length := by simp [ordT]
theorem ordT_at {ts : List Tsk} {o : List Nat} {i k : Nat} (h : o[i]? = some k) : (ordT ts o)[i]? = some (ordOf ts o k) := by rw [ordT, List.getElem?_map, h]; rfl
structure OrdP (ts : List Tsk) (o : List Nat) : Prop where
 nd : o.Nodup
 lt : ∀ x ∈ o, x < ts.length
 af : ∀ (i x : Nat), o[i]? = some x -> ∀ a ∈ (tk ts x).af, a.toNat ∈ o.take i
theorem OrdP.nil (ts : List Tsk) : OrdP ts [] := ⟨List.nodup_nil, (fun x h => by cases h), fun i x h => by simp at h⟩
def extB (ts : List Tsk) (now : List Nat) (k : Nat) : Bool := !(decide (k ∈ now)) && (tk ts k).af.all fun a => decide (a.toNat ∈ now)
theorem extB_iff {ts : List Tsk} {now : List Nat} {k : Nat} : extB ts now k = true ↔ k ∉ now /\ ∀ a ∈ (tk ts k).af, a.toNat ∈ now := by
 unfold extB
 simp
theorem OrdP.snoc {ts : List Tsk} {now : List Nat} {k : Nat} (h : OrdP ts now) (hk : k < ts.length) (he : extB ts now k = true) : OrdP ts (now ++ [k]) := by
 obtain ⟨h1, h2⟩ := extB_iff.1 he
 refine ⟨?_, fun x hx => ?_, fun i x hi a ha => ?_⟩
 ·
  rw [List.nodup_append]
  refine ⟨h.nd, by simp, fun a ha b hb e => ?_⟩
  obtain rfl := List.mem_singleton.1 hb
  exact h1 (e ▸ ha)
 ·
  rcases List.mem_append.1 hx with hx | hx
  · exact h.lt x hx
  · rw [List.mem_singleton.1 hx]; exact hk
 by_cases hil : i < now.length
 ·
  rw [List.getElem?_append_left hil] at hi
  rw [List.take_append_of_le_length (by omega)]
  exact h.af i x hi a ha
 rw [List.getElem?_append_right (by omega)] at hi
 obtain ⟨q, hq⟩ : ∃ q, i - now.length = q := ⟨_, rfl⟩
 rw [hq] at hi
 cases q with
 | zero =>
  simp at hi
  subst hi
  rw [show i = now.length by omega, List.take_append_of_le_length (Nat.le_refl _), List.take_length]
  exact h2 a ha
 | succ q => simp at hi
theorem nodupN_le (n : Nat) (l : List Nat) (hn : l.Nodup) (h : ∀ z ∈ l, z < n) : l.length <= n := by
 have h2 := List.Nodup.length_le_of_subset (l₂ := List.range n) hn (fun a ha => List.mem_range.2 (h a ha))
 simpa using h2
theorem OrdP.all {ts : List Tsk} {o : List Nat} (h : OrdP ts o) (hl : o.length = ts.length) {x : Nat} (hx : x < ts.length) : x ∈ o := by
 by_cases hm : x ∈ o
 · exact hm
 exfalso
 have h1 : (x :: o).Nodup := List.nodup_cons.2 ⟨hm, h.nd⟩
 have h2 := nodupN_le ts.length (x :: o) h1 (fun z hz => by
  rcases List.mem_cons.1 hz with rfl | hz
  · exact hx
  · exact h.lt z hz)
 rw [List.length_cons] at h2
 omega
theorem JobOk.ord {ms : List Mch} {ts : List Tsk} {o : List Nat} (hj : JobOk ms ts) (h : OrdP ts o) (hl : o.length = ts.length) : JobOk ms (ordT ts o) := by
 refine ⟨hj.nm, by rw [ordT_len, hl]; exact hj.nt, hj.mo, fun i t hi => ?_⟩
 rw [ordT, List.getElem?_map] at hi
 rcases hx : o[i]? with _ | x
 · rw [hx] at hi; cases hi
 rw [hx] at hi
 obtain rfl := Option.some.inj hi
 have hxm := List.mem_of_getElem? hx
 have hz : ts[x]? = some (tk ts x) := tk_at (h.lt x hxm)
 have hk := hj.to_ x _ hz
 have hmem : ∀ a ∈ (tk ts x).af, a.toNat ∈ o /\ posN o a.toNat < i := fun a ha => by
  have h1 := h.af i x hx a ha
  refine ⟨List.mem_of_mem_take h1, ?_⟩
  obtain ⟨j, hj, e⟩ := List.getElem_of_mem h1
  rw [List.getElem_take] at e
  have hj2 : j < o.length := by rw [List.length_take] at hj; omega
  have h2 : o[j]? = some a.toNat := by rw [List.getElem?_eq_getElem hj2, e]
  rw [posN_of h.nd h2]
  rw [List.length_take] at hj
  omega
 refine ⟨hk.m, hk.ho, hk.wa, hk.fr, fun a ha => ?_, ?_⟩
 ·
  obtain ⟨b, hb, rfl⟩ := List.mem_map.1 ha
  have := (hmem b hb).2
  omega
 show (((tk ts x).af).map fun a => ((posN o a.toNat : Nat) : Int)).Nodup
 refine List.pairwise_map.2 (hk.nd.imp_of_mem fun {a b} ha hb hne e => hne ?_)
 have e' : posN o a.toNat = posN o b.toNat := by omega
 have h1 := posN_at (hmem a ha).1
 have h2 := posN_at (hmem b hb).1
 rw [e', h2] at h1
 have h3 := Option.some.inj h1
 have h4 := hk.af a ha
 have h5 := hk.af b hb
 omega
/-! ### all orders -/
def ords (ts : List Tsk) : Nat -> List Nat -> List (List Nat)
 | 0, now => [now]
 | f + 1, now => (List.range ts.length).flatMap fun k => if extB ts now k = true then ords ts f (now ++ [k]) else []
def ordK (ts : List Tsk) (f : Nat) (now : List Nat) (k : Nat) : List (List Nat) := (List.range k).flatMap fun q => if extB ts now q = true then ords ts f (now ++ [q]) else []
theorem ordK_all (ts : List Tsk) (f : Nat) (now : List Nat) : ordK ts f now ts.length = ords ts (f + 1) now := rfl
theorem ordK_yes {ts : List Tsk} {f : Nat} {now : List Nat} {k : Nat} (h : extB ts now k = true) : ordK ts f now (k + 1) = ordK ts f now k ++ ords ts f (now ++ [k]) := by
 unfold ordK
 rw [List.range_succ, List.flatMap_append]
 simp [h]
theorem ordK_no {ts : List Tsk} {f : Nat} {now : List Nat} {k : Nat} (h : extB ts now k = false) : ordK ts f now (k + 1) = ordK ts f now k := by
 unfold ordK
 rw [List.range_succ, List.flatMap_append]
 simp [h]
theorem ords_ok (ts : List Tsk) : ∀ (f : Nat) (now o : List Nat), OrdP ts now -> now.length + f = ts.length -> o ∈ ords ts f now -> OrdP ts o /\ o.length = ts.length
 | 0, now, o, h, hl, ho => by
  rw [ords] at ho
  rw [List.mem_singleton.1 ho]
  exact ⟨h, by omega⟩
 | f + 1, now, o, h, hl, ho => by
  rw [ords] at ho
  obtain ⟨k, hk, h2⟩ := List.mem_flatMap.1 ho
  split at h2
  ·
   rename_i he
   exact ords_ok ts f (now ++ [k]) o (h.snoc (List.mem_range.1 hk) he) (by simp; omega) h2
  · cases h2
/-! ### the best one -/
def opO (ms : List Mch) (ts : List Tsk) (dl : List Wea) (o : List Nat) : Int := (caseOf true ms (ordT ts o) dl).opn ts.length
structure BS where
 found : Bool
 order : List Nat
 open_ : Int
def upB (ms : List Mch) (ts : List Tsk) (dl : List Wea) (s : BS) (o : List Nat) : BS := if s.found = false ∨ opO ms ts dl o < s.open_ then ⟨true, o, opO ms ts dl o⟩ else s
theorem upB_yes {ms : List Mch} {ts : List Tsk} {dl : List Wea} {s : BS} {o : List Nat} (h : s.found = false ∨ opO ms ts dl o < s.open_) : upB ms ts dl s o = ⟨true, o, opO ms ts dl o⟩ := if_pos h
theorem upB_no {ms : List Mch} {ts : List Tsk} {dl : List Wea} {s : BS} {o : List Nat} (h : ¬ (s.found = false ∨ opO ms ts dl o < s.open_)) : upB ms ts dl s o = s := if_neg h
def tryS (ms : List Mch) (ts : List Tsk) (dl : List Wea) (L : List (List Nat)) (s : BS) : BS := L.foldl (upB ms ts dl) s
theorem tryS_app (ms : List Mch) (ts : List Tsk) (dl : List Wea) (L L2 : List (List Nat)) (s : BS) : tryS ms ts dl (L ++ L2) s = tryS ms ts dl L2 (tryS ms ts dl L s) := List.foldl_append
def bestS (ms : List Mch) (ts : List Tsk) (dl : List Wea) : BS := tryS ms ts dl (ords ts ts.length []) ⟨false, [], 0⟩
end Go.Proofs.Ytokelpmngahnoaa
/- build: the map from tasks to where they stand, as a resource. -/
namespace Go.Proofs.Ytokelpmngahnoaa
open Go.RowKit Go.Maps Go.WideMaps
set_option maxRecDepth 100000
def atR (v : Value) : Option (DataW Unit × List MemPlace) := match v with
 | .int .i64 a => some (.lit (.int .i64 a), [])
 | _ => none
theorem atR_mk (a : Int) : atR (.int .i64 a) = some (.lit (.int .i64 a), []) := rfl
theorem atR_inv {v : Value} {a : Int} {ps : List MemPlace} (h : atR v = some (.lit (.int .i64 a), ps)) : v = .int .i64 a := by
 unfold atR at h
 split at h
 ·
  injection h with h
  injection h with h1 h2
  injection h1 with h1
  injection h1 with _ h1
  rw [h1]
 · cases h
def AtMap (w : World) (b k : Nat) (f : Int -> Option Int) : Prop :=
 ∃ D : DataW Unit, w.ownsMap Try.prog 3 atR b k D ∧
  ∀ x : Int, (Lit.int .i64 x).wf = true -> Maps.has D (.int .i64 x) = (f x).isSome /\ ∀ p, f x = some p -> ∀ z, D.atKey (.int .i64 x) z = .lit (.int .i64 p)
section
variable {w w' : World} {b k : Nat} {f : Int -> Option Int}
theorem AtMap.lt (h : AtMap w b k f) : b < w.heap.size := by obtain ⟨D, h, _⟩ := h; exact World.ownsMap.lt h
theorem AtMap.gb {r : Option Nat} (h : AtMap w b k f) (hg : w.grownBy w' r) (hr : some b ≠ r) : AtMap w' b k f := by
 obtain ⟨D, h, h1⟩ := h
 exact ⟨D, World.ownsMap.kept h hg hr, h1⟩
theorem AtMap.made (w : World) (hf : ∀ x, f x = none) : AtMap (w.alloc (.map #[] 0)) w.heap.size 0 f := by
 refine ⟨.map [], World.ownsMap_made _ _ _ _, fun x _ => ?_⟩
 rw [hf x]
 exact ⟨rfl, fun p h => by cases h⟩
theorem AtMap.zero (w : World) : (zeroValue 3).run Try.prog w = .ok (.int .i64 0) w := by kernel_rfl
theorem AtMap.look1 (h : AtMap w b k f) {x : Int} (hx : -1000000000000 <= x /\ x <= 1000000000000) {p : Int} (hm : f x = some p) :
  (Instr.lookup 162 (.map (some b)) (.int .i64 x) false).run Try.prog w = .ok (.int .i64 p) w := by
 obtain ⟨D, h, h1⟩ := h
 obtain ⟨v, ps, hrun, hv⟩ := World.ownsMap.lookup h farLaw Try.underlying162 (AtMap.zero w) (atR_mk 0) (keyOf_int_mk Try.underlying3 (far_wf hx))
 obtain ⟨h2, h3⟩ := h1 x (far_wf hx)
 rw [h3 p hm] at hv
 rw [hrun, atR_inv hv]
theorem AtMap.put (h : AtMap w b k f) (hk : k < 1000000000) {x p : Int} (hx : -1000000000000 <= x /\ x <= 1000000000000) {f' : Int -> Option Int} (hf : ∀ y, f' y = if y = x then some p else f y) :
  ∃ w', (Instr.mapUpdate 162 (.map (some b)) (.int .i64 x) (.int .i64 p)).run Try.prog w = .ok () w' /\ AtMap w' b (k + 1) f' /\ w.grownBy w' (some b) := by
 obtain ⟨D, h, h1⟩ := h
 have hw : (Lit.int .i64 x).wf = true := far_wf hx
 obtain ⟨w', hrun, ho, hg⟩ := World.ownsMap.update h farLaw Try.underlying162 (by simp only [maxLen]; omega) (keyOf_int_mk Try.underlying3 hw) (atR_mk p)
 refine ⟨w', hrun, ⟨_, ho, fun y hy => ?_⟩, hg⟩
 have hmap := World.ownsMap.isMap h
 obtain ⟨h2, h3⟩ := h1 y hy
 rw [hf]
 by_cases e : y = x
 ·
  subst e
  rw [if_pos rfl]
  refine ⟨by rw [has_put_same hmap (k := .int .i64 y) trivial]; rfl, fun p' e z => ?_⟩
  injection e with e
  subst e
  exact atKey_put_same hmap (k := .int .i64 y) trivial _ _
 rw [if_neg e]
 have hne : Lit.int .i64 y ≠ Lit.int .i64 x := fun h => e (by injection h)
 refine ⟨by rw [has_put_other hne]; exact h2, fun p' e z => ?_⟩
 rw [atKey_put_other hne]
 exact h3 p' e z
end
def rat (b k : Nat) (f : Int -> Option Int) : Res := ⟨true, fun x => x = b, fun w => AtMap w b k f, fun _ _ _ hg hr h => AtMap.gb h hg (fun e => hr b e.symm rfl)⟩
def atF (o : List Nat) (i : Nat) (x : Int) : Option Int := if 0 <= x /\ x.toNat ∈ o.take i then some ((posN o x.toNat : Nat) : Int) else none
theorem atF_zero (o : List Nat) (x : Int) : atF o 0 x = none := by unfold atF; simp
theorem atF_next {o : List Nat} (hn : o.Nodup) {i k : Nat} (h : o[i]? = some k) (y : Int) : atF o (i + 1) y = if y = (k : Int) then some (i : Int) else atF o i y := by
 obtain ⟨hi, e⟩ := List.getElem?_eq_some_iff.1 h
 unfold atF
 rw [List.take_succ_eq_append_getElem hi, e]
 by_cases hy : y = (k : Int)
 ·
  subst hy
  rw [if_pos rfl, if_pos ⟨by omega, by simp⟩, Int.toNat_natCast, posN_of hn h]
 rw [if_neg hy]
 by_cases h2 : 0 <= y /\ y.toNat ∈ o.take i
 · rw [if_pos h2, if_pos ⟨h2.1, List.mem_append.2 (.inl h2.2)⟩]
 rw [if_neg h2, if_neg (fun h3 => h2 ⟨h3.1, by
  rcases List.mem_append.1 h3.2 with h4 | h4
  · exact h4
  have := List.mem_singleton.1 h4
  omega⟩)]
theorem atF_at {o : List Nat} {x : Int} (h0 : 0 <= x) (h : x.toNat ∈ o) : atF o o.length x = some ((posN o x.toNat : Nat) : Int) := by
 unfold atF
 rw [if_pos ⟨h0, by rw [List.take_length]; exact h⟩]
section
variable {w0 A : World} {L : List Res} {b k : Nat} {f : Int -> Option Int}
theorem Bun.atNew (h : Bun w0 L A) (o : List Nat) {g : Nat} (hg : A.heap.size = g) : Bun w0 (rat g 0 (atF o 0) :: L) (A.alloc (.map #[] 0)) := by
 subst hg
 refine h.add _ (gb_alloc (gb_refl _ _) _) (AtMap.made A (atF_zero o)) (fun g e => ?_)
 cases e
 simp
theorem Bun.atPut {o : List Nat} {i x : Nat} (h : Bun w0 (rat b i (atF o i) :: L) A) (hn : o.Nodup) (hx : o[i]? = some x) (hi : i < 1000000) (hxb : x < 1000000) :
  ∃ B, (Instr.mapUpdate 162 (.map (some b)) (.int .i64 (x : Int)) (.int .i64 (i : Int))).run Try.prog A = .ok () B /\ Bun w0 (rat b (i + 1) (atF o (i + 1)) :: L) B /\ A.heap.size <= B.heap.size := by
 have h1 : AtMap A b i (atF o i) := h.all _ (.head _)
 obtain ⟨B, hr, h2, hg⟩ := AtMap.put h1 (by omega) (x := (x : Int)) (p := (i : Int)) (by omega) (atF_next hn hx)
 exact ⟨B, hr, h.wr rfl hg (fun _ e => by cases e; rfl) h2 fun g e => ⟨.inl e, by cases e; exact h2.lt⟩, hg.size⟩
end
end Go.Proofs.Ytokelpmngahnoaa
/- build: tasks in an order. -/
namespace Go.Proofs.Ytokelpmngahnoaa
open Go.RowKit
set_option maxRecDepth 100000
attribute [local go_sem] Oper.semAt_some
theorem af_lenO {i : Nat} {l : List Int} (h : l.Nodup) (hl : ∀ a ∈ l, 0 <= a /\ a < (i : Int)) : l.length <= i := by
 have h2 := List.Nodup.length_le_of_subset (l₂ := (List.range i).map (fun (x : Nat) => (x : Int))) h (fun a ha => by
  have := hl a ha
  exact List.mem_map.2 ⟨a.toNat, by simp; omega, by omega⟩)
 simpa using h2
theorem ints_get {r : List Nat} {i x : Nat} (h : r[i]? = some x) : (ints r)[i]? = some (x : Int) := by rw [ints, List.getElem?_map, h]; rfl
def afP (o : List Nat) (l : List Int) (j : Nat) : List Int := (l.take j).map fun a => ((posN o a.toNat : Nat) : Int)
theorem afP_len {o : List Nat} {l : List Int} {j : Nat} (h : j <= l.length) : (afP o l j).length = j := by simp [afP, Nat.min_eq_left h]
theorem afP_next {o : List Nat} {l : List Int} {j : Nat} {y : Int} (h : l[j]? = some y) : afP o l (j + 1) = afP o l j ++ [((posN o y.toNat : Nat) : Int)] := by rw [afP, ← take_snoc h, List.map_append]; rfl
theorem afP_all (o : List Nat) (l : List Int) : afP o l l.length = l.map fun a => ((posN o a.toNat : Nat) : Int) := by rw [afP, List.take_length]
def ordM (ts : List Tsk) (o : List Nat) (i : Nat) (lt : List Tsk) : Prop := lt.length = i /\ (∀ (q x : Nat) (t : Tsk), o[q]? = some x -> lt[q]? = some t -> sameT t (ordOf ts o x)) /\ ∀ t ∈ lt, sliceB t.av = true
theorem ordM.snoc {ts : List Tsk} {o : List Nat} {i x : Nat} {lt : List Tsk} {t : Tsk} (h : ordM ts o i lt) (hx : o[i]? = some x) (ht : sameT t (ordOf ts o x)) (hs : sliceB t.av = true) : ordM ts o (i + 1) (lt ++ [t]) := by
 refine ⟨by simp [h.1], fun q y u hy hu => ?_, fun u hu => ?_⟩
 ·
  by_cases hq : q < i
  ·
   rw [List.getElem?_append_left (by rw [h.1]; exact hq)] at hu
   exact h.2.1 q y u hy hu
  rw [List.getElem?_append_right (by rw [h.1]; omega), h.1] at hu
  obtain ⟨d, hd⟩ : ∃ d, q - i = d := ⟨_, rfl⟩
  rw [hd] at hu
  cases d with
  | zero =>
   simp at hu
   subst hu
   rw [show q = i by omega, hx] at hy
   obtain rfl := Option.some.inj hy
   exact ht
  | succ d => simp at hu
 rcases List.mem_append.1 hu with hu | hu
 · exact h.2.2 u hu
 · rw [List.mem_singleton.1 hu]; exact hs
theorem ordM.mix {ts : List Tsk} {o : List Nat} {lt : List Tsk} {n : Nat} (h : ordM ts o o.length lt) (hn : o.length <= n) : mixT n lt (ordT ts o) := by
 refine ⟨by rw [h.1, ordT_len], fun i x y hx hy => ?_, h.2.2⟩
 rw [ordT, List.getElem?_map] at hy
 rcases ho : o[i]? with _ | k
 · rw [ho] at hy; cases hy
 rw [ho] at hy
 obtain rfl := Option.some.inj hy
 exact ⟨h.2.1 i k x ho hx, fun hi => absurd (List.getElem?_eq_some_iff.1 ho).1 (by omega)⟩
def OrdJ (vm : Value) (ts : List Tsk) (o : List Nat) (w : World) : Ending -> World -> Prop := fun e w' => ∃ (a : Option Addr) (c lo hi : Nat) (lt : List Tsk), e = .returned (.agg #[vm, .slice a lt.length c]) /\ (w.heap.size <= lo /\ hi <= w'.heap.size) /\ Sl tskEnc 8 lo hi w' (.slice a lt.length c) lt /\ Afs lo hi w' lt /\ mixT ts.length lt (ordT ts o) /\ w.grownBy w' none
theorem OrdJ.of {vm v2 : Value} {ts lt : List Tsk} {o : List Nat} {w w' : World} {e : Ending} (he : e = .returned (.agg #[vm, v2])) (hm : ordM ts o o.length lt) (hl : o.length = ts.length) (ho : Own tskEncS 79 8 w.heap.size w' v2 lt) (ha : ∀ t ∈ lt, Own intEnc 3 1 w.heap.size w' t.av t.af) (hg : w.grownBy w' none) : OrdJ vm ts o w e w' := by
 obtain ⟨a, c, rfl, hs⟩ := Own.slN ho (fun _ => rfl) rfl
 exact ⟨a, c, w.heap.size, w'.heap.size, lt, he, ⟨Nat.le_refl _, Nat.le_refl _⟩, slS hs hm.2.2, fun t ht => ⟨Own.sl (ha t ht) (fun _ => rfl), own_cap (ha t ht)⟩, hm.mix (by omega), hg⟩
set_option maxHeartbeats 32000000 in
theorem ordered_c (lo hi : Nat) (vm vt : Value) (ms : List Mch) (ts : List Tsk) (lo4 hi4 : Nat) (vo : Value) (o : List Nat) (w : World) (hj : JobAt lo hi w vm vt ms ts) (h2 : hi <= w.heap.size) (ho : Sl intEnc 1 lo4 hi4 w vo (ints o)) (h5 : hi4 <= w.heap.size) (hok : JobOk ms ts) (hop : OrdP ts o) (hol : o.length = ts.length) :
  Calls Try.prog 95 #[.agg #[vm, vt], vo] w (OrdJ vm ts o w) := by
 have hmm := @run_makeMap Try.prog
 have F1 : Bun w [] w := Bun.nil _
 obtain ⟨hms, hts, haf⟩ := hj
 have hm_ms := hms.len
 unfold maxLen at hm_ms
 obtain ⟨aM, cM, rfl⟩ := hms.any
 replace F1 := F1.sl0 hms h2 rfl
 clear hms
 have hm_ts := hts.len
 unfold maxLen at hm_ts
 obtain ⟨aT, cT, rfl⟩ := hts.any
 replace F1 := F1.sl0 hts h2 rfl
 clear hts
 replace F1 := F1.non0 (rafs lo hi ts) haf (fun _ h_ => Nat.lt_of_lt_of_le h_.2 h2) rfl rfl
 clear haf
 have hm_o := ho.len
 unfold maxLen at hm_o
 obtain ⟨aO, cO, rfl⟩ := ho.any
 replace F1 := F1.sl0 ho h5 rfl
 clear ho
 have HOK := lhd hok
 have HOP := lhd hop
 have hol2 : o.length <= ts.length /\ ts.length <= o.length := by omega
 have HOL := lhd hol
 have hnt := hok.nt
 rw [ints_len] at *
 clear hok hop hol
 go_enter Try.func95, Try.ntmps95
 replace F1 := F1.new 25 #[.slice aM ms.length cM, .slice aT ts.length cT] (n := w.heap.size) (by simp)
 replace F1 := F1.new 25 #[.slice none 0 0, .slice none 0 0] (n := (w.heap.size + 1)) (by simp)
 replace F1 := F1.atNew o (g := (w.heap.size + 2)) (by simp)
 go_wp2_with fail
 obtain ⟨HI9_, HI90⟩ : ∃ I : RelT, I = (fun t ds wr => ∃ (i : Nat), t 1 = .slice aO o.length cO /\ t 2 = .pointer (some ⟨w.heap.size, 0, none⟩) /\ t 4 = .pointer (some ⟨w.heap.size + 1, 0, none⟩) /\ t 5 = .map (some (w.heap.size + 2)) /\ t 15 = .slice aO o.length cO /\ t 16 = .int .i64 (o.length : Int) /\ t 17 = .int .i64 (i : Int) /\ i <= o.length /\ ds = [] /\ w.heap.size <= wr.heap.size /\ Bun w [rat (w.heap.size + 2) i (atF o i), rbox (w.heap.size + 1) 25 #[.slice none 0 0, .slice none 0 0], rbox w.heap.size 25 #[.slice aM ms.length cM, .slice aT ts.length cT], rsl intEnc 1 lo4 hi4 (.slice aO o.length cO) (ints o), rafs lo hi ts, rsl tskEnc 8 lo hi (.slice aT ts.length cT) ts, rsl mchEnc 3 lo hi (.slice aM ms.length cM) ms] wr) := ⟨_, rfl⟩
 have HI9 := lhd HI90
 clear HI90
 refine wp_loopS 69 rfl HI9_ (fun t wr => o.length - (intOf (t 17)).toNat) ?atStart1 ?round1
 case round1 =>
  intro t ds wr hHid
  rw [HI9.out] at hHid
  obtain ⟨i, e1, e2, e4, e5, e15, e16, e17, hrel⟩ := hHid
  have e := rgKO69 t
  (try dsimp only at e)
  rw [e1, e2, e4, e5, e15, e16, e17] at e
  rw [e]
  simp only [e17]
  clear e e1 e2 e4 e5 e15 e16 e17
  obtain ⟨hi_, rfl, hs11, hF10⟩ := hrel
  clear F1
  obtain ⟨w12, rfl⟩ : ∃ x_ : World, x_ = wr := ⟨_, rfl⟩
  by_cases c13 : (i : Int) < (o.length : Int)
  ·
   have c13H := lhd c13
   obtain ⟨x14, o15, e_⟩ := Sl.addr (hF10.at 3 rfl : Sl intEnc 1 lo4 hi4 _ (.slice aO o.length cO) (ints o)) (by rw [ints_len]; omega)
   subst e_
   obtain ⟨x, hx_⟩ : ∃ x_, o[i]? = some x_ := ⟨_, List.getElem?_eq_getElem (by omega)⟩
   have HX := lhd hx_
   have hxt := HOP.out.lt x (List.mem_of_getElem? hx_)
   clear hx_
   have hxi : (x : Int) < (ts.length : Int) := by omega
   have hz16 : Hid ((ints o)[i]? = some ((x : Nat) : Int)) := lhd (ints_get HX.out)
   have ge17 : World.cell? _ ⟨x14, o15 + i, none⟩ = some (.int .i64 (x : Int)) := (by have h_ := Sl.cells (hF10.at 3 rfl) hz16.out 0 _ rfl; simpa using h_)
   have gl18 := cell_lt ge17
   obtain ⟨w19, hr20, F21, hs22⟩ := hF10.atPut HOP.out.nd HX.out (by omega) (by omega)
   (try simp at hr20 hs22)
   clear hF10
   go_wp2_with fail
   clear hr20
   clear ge17 gl18
   go_wp2_with fail
   (first | refine ⟨by kernel_rfl, ?_, ?_⟩ | refine ⟨rfl, ?_, ?_⟩ | refine ⟨?_, ?_⟩)
   · rw [HI9.out]; exact ⟨i + 1, by (iterate 6 refine ⟨by kernel_rfl, ?_⟩); exact ⟨(by show Value.int .i64 ((i : Int) + 1) = _; simp), (by omega), (by first | rfl | simp), (by first | omega | (simp; done) | (simp; omega)), F21⟩⟩
   · simp [slot, intOf]; omega
  have c13H := lhd c13
  have c13a : decide ((i : Int) < (o.length : Int)) = false := dec_f c13
  have b23 := hF10.bx2 2 rfl
  go_wp2_with fail
  clear b23
  have F24 := hF10.new 25 #[.slice aM ms.length cM, .slice none 0 0] (n := w12.heap.size) (by simp)
  clear hF10
  have hio_ : i = o.length := by omega
  rw [hio_] at F24
  clear hio_
  replace F24 := F24.nilrow tskEncS 79 8
  replace F24 := F24.afo0 w.heap.size
  (skip)
  obtain ⟨HI27_, HI270⟩ : ∃ I : RelT, I = (fun t ds wr => ∃ (i : Nat) (tv : Value) (lt : List Tsk), t 2 = .pointer (some ⟨w.heap.size, 0, none⟩) /\ t 4 = .pointer (some ⟨w.heap.size + 1, 0, none⟩) /\ t 5 = .map (some (w.heap.size + 2)) /\ t 8 = .pointer (some ⟨w12.heap.size, 0, none⟩) /\ t 29 = .slice aO o.length cO /\ t 30 = .int .i64 (o.length : Int) /\ t 31 = .int .i64 (i : Int) /\ i <= o.length /\ Hid (ordM ts o i lt) /\ ds = [] /\ w12.heap.size <= wr.heap.size /\ Bun w [rafo w.heap.size lt, rown tskEncS 79 8 w.heap.size tv lt, rbox w12.heap.size 25 #[.slice aM ms.length cM, tv], rat (w.heap.size + 2) o.length (atF o o.length), rbox (w.heap.size + 1) 25 #[.slice none 0 0, .slice none 0 0], rbox w.heap.size 25 #[.slice aM ms.length cM, .slice aT ts.length cT], rsl intEnc 1 lo4 hi4 (.slice aO o.length cO) (ints o), rafs lo hi ts, rsl tskEnc 8 lo hi (.slice aT ts.length cT) ts, rsl mchEnc 3 lo hi (.slice aM ms.length cM) ms] wr) := ⟨_, rfl⟩
  have HI27 := lhd HI270
  clear HI270
  refine wp_loopS 69 rfl HI27_ (fun t wr => o.length - (intOf (t 31)).toNat) ?atStart2 ?round2
  case round2 =>
   intro t ds wr hHid
   rw [HI27.out] at hHid
   obtain ⟨i, tv, lt, e2, e4, e5, e8, e29, e30, e31, hrel⟩ := hHid
   have e := rgKO69 t
   (try dsimp only at e)
   rw [e2, e4, e5, e8, e29, e30, e31] at e
   rw [e]
   simp only [e31]
   clear e e2 e4 e5 e8 e29 e30 e31
   obtain ⟨hi_, HM, rfl, hs29, hF28⟩ := hrel
   clear F24
   obtain ⟨w30, rfl⟩ : ∃ x_ : World, x_ = wr := ⟨_, rfl⟩
   by_cases c31 : (i : Int) < (o.length : Int)
   ·
    have c31H := lhd c31
    obtain ⟨x32, o33, e_⟩ := Sl.addr (hF28.at 6 rfl : Sl intEnc 1 lo4 hi4 _ (.slice aO o.length cO) (ints o)) (by rw [ints_len]; omega)
    subst e_
    obtain ⟨x, hx_⟩ : ∃ x_, o[i]? = some x_ := ⟨_, List.getElem?_eq_getElem (by omega)⟩
    have HX := lhd hx_
    have hxt := HOP.out.lt x (List.mem_of_getElem? hx_)
    clear hx_
    have hxi : (x : Int) < (ts.length : Int) := by omega
    have hz34 : Hid ((ints o)[i]? = some ((x : Nat) : Int)) := lhd (ints_get HX.out)
    have ge35 : World.cell? _ ⟨x32, o33 + i, none⟩ = some (.int .i64 (x : Int)) := (by have h_ := Sl.cells (hF28.at 6 rfl) hz34.out 0 _ rfl; simpa using h_)
    have gl36 := cell_lt ge35
    obtain ⟨x37, o38, e_⟩ := Sl.addr (hF28.at 8 rfl : Sl tskEnc 8 lo hi _ (.slice aT ts.length cT) ts) (by omega)
    subst e_
    obtain ⟨z, hz39_⟩ : ∃ z_, ts[x]? = some z_ := ⟨_, List.getElem?_eq_getElem (by omega)⟩
    have hz39 := lhd hz39_
    clear hz39_
    obtain ⟨a_z, c_z, hav_z, hcap_z, hsl_z⟩ := Afs.open (hF28.at 7 rfl : Afs lo hi _ ts) hz39.out
    have HAV_z := lhd hav_z
    clear hav_z
    have F40 := hF28.more 7 (rsl intEnc 1 lo hi (.slice a_z z.af.length c_z) z.af) rfl rfl rfl (fun _ h_ => h_) hsl_z
    clear hF28
    have hm_z := (F40.at 0 rfl : Sl intEnc 1 lo hi _ (.slice a_z z.af.length c_z) z.af).len
    unfold maxLen at hm_z
    have HZA : Hid (∀ a ∈ z.af, 0 <= a /\ a < (x : Int) /\ a.toNat ∈ o) := lhd (fun a h_ => by have h2_ := (HOK.out.to_ x z hz39.out).af a h_; exact ⟨h2_.1, h2_.2, HOP.out.all HOL.out (by omega)⟩)
    have HZT : Hid (tk ts x = z) := lhd (tk_get hz39.out)
    have hafl : z.af.length <= x := by have h_ := HOK.out.to_ x z hz39.out; exact af_lenO h_.nd h_.af
    have b41 := F40.bx2 6 rfl
    have ge42 : World.cell? _ ⟨x37, o38 + x * 8, none⟩ = some (.int .i64 z.m) := (Sl.cells (F40.at 9 rfl) hz39.out 0 _ rfl)
    have gl43 := cell_lt ge42
    have ge44 : World.cell? _ ⟨x37, o38 + x * 8 + 1, none⟩ = some (.int .i64 z.ho.lo) := (Sl.cells (F40.at 9 rfl) hz39.out 1 _ rfl)
    have ge45 : World.cell? _ ⟨x37, o38 + x * 8 + 2, none⟩ = some (.int .i64 z.ho.hi) := (Sl.cells (F40.at 9 rfl) hz39.out 2 _ rfl)
    have ge46 : World.cell? _ ⟨x37, o38 + x * 8 + 3, none⟩ = some (.int .i64 z.wa.lo) := (Sl.cells (F40.at 9 rfl) hz39.out 3 _ rfl)
    have ge47 : World.cell? _ ⟨x37, o38 + x * 8 + 4, none⟩ = some (.int .i64 z.wa.hi) := (Sl.cells (F40.at 9 rfl) hz39.out 4 _ rfl)
    have ge48 : World.cell? _ ⟨x37, o38 + x * 8 + 5, none⟩ = some (.int .i64 z.fr.lo) := (Sl.cells (F40.at 9 rfl) hz39.out 5 _ rfl)
    have ge49 : World.cell? _ ⟨x37, o38 + x * 8 + 6, none⟩ = some (.int .i64 z.fr.hi) := (Sl.cells (F40.at 9 rfl) hz39.out 6 _ rfl)
    have ge50 : World.cell? _ ⟨x37, o38 + x * 8 + 7, none⟩ = some (.slice a_z z.af.length c_z) := (HAV_z.out ▸ (Sl.cells (F40.at 9 rfl) hz39.out 7 _ rfl))
    go_wp2_with fail
    clear b41 ge42 gl43 ge44 ge45 ge46 ge47 ge48 ge49 ge50
    clear ge35 gl36
    replace F40 := F40.new 79 #[.int .i64 z.m, .int .i64 z.ho.lo, .int .i64 z.ho.hi, .int .i64 z.wa.lo, .int .i64 z.wa.hi, .int .i64 z.fr.lo, .int .i64 z.fr.hi, .slice none 0 0] (n := w30.heap.size) (by simp)
    replace F40 := F40.nilrow intEnc 3 1
    (skip)
    obtain ⟨HI53_, HI530⟩ : ∃ I : RelT, I = (fun t ds wr => ∃ (j : Nat) (av : Value), t 2 = .pointer (some ⟨w.heap.size, 0, none⟩) /\ t 4 = .pointer (some ⟨w.heap.size + 1, 0, none⟩) /\ t 5 = .map (some (w.heap.size + 2)) /\ t 8 = .pointer (some ⟨w12.heap.size, 0, none⟩) /\ t 11 = .pointer (some ⟨w30.heap.size, 0, none⟩) /\ t 29 = .slice (some ⟨x32, o33, none⟩) o.length cO /\ t 30 = .int .i64 (o.length : Int) /\ t 31 = .int .i64 (i : Int) /\ t 46 = .slice a_z z.af.length c_z /\ t 47 = .int .i64 (z.af.length : Int) /\ t 48 = .int .i64 (j : Int) /\ j <= z.af.length /\ ds = [] /\ w30.heap.size <= wr.heap.size /\ Bun w [rown intEnc 3 1 w.heap.size av (afP o z.af j), rbox w30.heap.size 79 #[.int .i64 z.m, .int .i64 z.ho.lo, .int .i64 z.ho.hi, .int .i64 z.wa.lo, .int .i64 z.wa.hi, .int .i64 z.fr.lo, .int .i64 z.fr.hi, av], rsl intEnc 1 lo hi (.slice a_z z.af.length c_z) z.af, rafo w.heap.size lt, rown tskEncS 79 8 w.heap.size tv lt, rbox w12.heap.size 25 #[.slice aM ms.length cM, tv], rat (w.heap.size + 2) o.length (atF o o.length), rbox (w.heap.size + 1) 25 #[.slice none 0 0, .slice none 0 0], rbox w.heap.size 25 #[.slice aM ms.length cM, .slice (some ⟨x37, o38, none⟩) ts.length cT], rsl intEnc 1 lo4 hi4 (.slice (some ⟨x32, o33, none⟩) o.length cO) (ints o), rafs lo hi ts, rsl tskEnc 8 lo hi (.slice (some ⟨x37, o38, none⟩) ts.length cT) ts, rsl mchEnc 3 lo hi (.slice aM ms.length cM) ms] wr) := ⟨_, rfl⟩
    have HI53 := lhd HI530
    clear HI530
    refine wp_loopS 69 rfl HI53_ (fun t wr => z.af.length - (intOf (t 48)).toNat) ?atStart3 ?round3
    case round3 =>
     intro t ds wr hHid
     rw [HI53.out] at hHid
     obtain ⟨j, av, e2, e4, e5, e8, e11, e29, e30, e31, e46, e47, e48, hrel⟩ := hHid
     have e := rgKO69 t
     (try dsimp only at e)
     rw [e2, e4, e5, e8, e11, e29, e30, e31, e46, e47, e48] at e
     rw [e]
     simp only [e48]
     clear e e2 e4 e5 e8 e11 e29 e30 e31 e46 e47 e48
     obtain ⟨hj_, rfl, hs55, hF54⟩ := hrel
     clear F40
     obtain ⟨w56, rfl⟩ : ∃ x_ : World, x_ = wr := ⟨_, rfl⟩
     by_cases c57 : (j : Int) < (z.af.length : Int)
     ·
      have c57H := lhd c57
      obtain ⟨x58, o59, e_⟩ := Sl.addr (hF54.at 2 rfl : Sl intEnc 1 lo hi _ (.slice a_z z.af.length c_z) z.af) (by omega)
      subst e_
      obtain ⟨y, hz60_⟩ : ∃ z_, z.af[j]? = some z_ := ⟨_, List.getElem?_eq_getElem (by omega)⟩
      have hz60 := lhd hz60_
      clear hz60_
      have hya := HZA.out y (List.mem_of_getElem? hz60.out)
      have b61 := hF54.bx8 1 rfl
      have ge62 : World.cell? _ ⟨x58, o59 + j, none⟩ = some (.int .i64 y) := (by have h_ := Sl.cells (hF54.at 2 rfl) hz60.out 0 _ rfl; simpa using h_)
      have gl63 := cell_lt ge62
      have ge64 : _ := AtMap.look1 (hF54.at 6 rfl : AtMap _ (w.heap.size + 2) o.length (atF o o.length)) (by omega) (atF_at (by omega) hya.2.2)
      go_wp2_with (at_builtin; refine wpList_app _ okInt rfl _ _ rfl w.heap.size av (afP o z.af j) [((posN o y.toNat : Nat) : Int)] rfl (by exact ((hF54.at 0 rfl : Own intEnc 3 1 w.heap.size _ av (afP o z.af j))).alloc _) ⟨_, 0, none⟩ 1 1 rfl rfl (by decide) (news_of (Bk.newAt _ _ _ (by simp))) (j + 1) (by rw [afP_len (o := o) (l := z.af) (j := j) (by omega)]) (by omega) (by first | omega | (simp; omega)) _ rfl ?_; intro g65 cap66 w67 hp68; refine Hid.out ?_)
      refine lhd ?_
      have hp68s := hp68.gb.size
      (try simp at hp68s)
      clear b61 ge62 gl63 ge64
      have F69 := ((hF54.alloc (.cells #[.int .i64 ((posN o y.toNat : Nat) : Int)] 3)).front 0 rfl rfl).app hp68 (by simp)
      clear hF54
      have b70 := F69.bx8 1 rfl
      go_wp2_with fail
      clear b70
      have F71 := ((F69.front 1 rfl rfl).set 7 (.slice (some ⟨g65, 0, none⟩) (j + 1) cap66)).nf #[.int .i64 z.m, .int .i64 z.ho.lo, .int .i64 z.ho.hi, .int .i64 z.wa.lo, .int .i64 z.wa.hi, .int .i64 z.fr.lo, .int .i64 z.fr.hi, .slice (some ⟨g65, 0, none⟩) (j + 1) cap66] rfl
      clear F69
      have F72 : Bun w [rown intEnc 3 1 w.heap.size (.slice (some ⟨g65, 0, none⟩) (j + 1) cap66) ((afP o z.af j) ++ [((posN o y.toNat : Nat) : Int)]), rbox w30.heap.size 79 #[.int .i64 z.m, .int .i64 z.ho.lo, .int .i64 z.ho.hi, .int .i64 z.wa.lo, .int .i64 z.wa.hi, .int .i64 z.fr.lo, .int .i64 z.fr.hi, .slice (some ⟨g65, 0, none⟩) (j + 1) cap66], rsl intEnc 1 lo hi (.slice (some ⟨x58, o59, none⟩) z.af.length c_z) z.af, rafo w.heap.size lt, rown tskEncS 79 8 w.heap.size tv lt, rbox w12.heap.size 25 #[.slice aM ms.length cM, tv], rat (w.heap.size + 2) o.length (atF o o.length), rbox (w.heap.size + 1) 25 #[.slice none 0 0, .slice none 0 0], rbox w.heap.size 25 #[.slice aM ms.length cM, .slice (some ⟨x37, o38, none⟩) ts.length cT], rsl intEnc 1 lo4 hi4 (.slice (some ⟨x32, o33, none⟩) o.length cO) (ints o), rafs lo hi ts, rsl tskEnc 8 lo hi (.slice (some ⟨x37, o38, none⟩) ts.length cT) ts, rsl mchEnc 3 lo hi (.slice aM ms.length cM) ms] _ := F71.pick [1, 0, 2, 3, 4, 5, 6, 7, 8, 9, 10, 11, 12] (by decide) rfl
      clear F71
      (first | refine ⟨by kernel_rfl, ?_, ?_⟩ | refine ⟨rfl, ?_, ?_⟩ | refine ⟨?_, ?_⟩)
      · rw [HI53.out]; exact ⟨j + 1, _, by (iterate 10 refine ⟨by kernel_rfl, ?_⟩); exact ⟨(by show Value.int .i64 ((j : Int) + 1) = _; simp), (by omega), (by first | rfl | simp), (by first | omega | (simp; done) | (simp; omega)), (by rw [afP_next hz60.out]; exact F72)⟩⟩
      · simp [slot, intOf]; omega
     have c57H := lhd c57
     have c57a : decide ((j : Int) < (z.af.length : Int)) = false := dec_f c57
     have hjz_ : j = z.af.length := by omega
     rw [hjz_] at hF54
     clear hjz_
     obtain ⟨aa73, ac74, e_⟩ := (Own.sl (hF54.at 0 rfl : Own intEnc 3 1 w.heap.size _ av (afP o z.af z.af.length)) (fun _ => rfl)).any
     subst e_
     obtain ⟨av75, vc76, e_, _⟩ := Own.slN (hF54.at 4 rfl : Own tskEncS 79 8 w.heap.size _ tv lt) (fun _ => rfl) HM.out.1
     subst e_
     have b77 := hF54.bx8 1 rfl
     have b78 := hF54.bx2 5 rfl
     go_wp2_with (at_builtin; refine wpList_app _ okTskS rfl _ _ rfl w.heap.size (.slice av75 i vc76) lt [(⟨z.m, ⟨z.ho.lo, z.ho.hi⟩, ⟨z.wa.lo, z.wa.hi⟩, ⟨z.fr.lo, z.fr.hi⟩, (afP o z.af z.af.length), .slice aa73 (((afP o z.af z.af.length)).length) ac74⟩ : Tsk)] rfl (by exact ((hF54.at 4 rfl : Own tskEncS 79 8 w.heap.size _ (.slice av75 i vc76) lt)).alloc _) ⟨_, 0, none⟩ 1 1 rfl rfl (by decide) (news_of (Bk.newAt _ _ _ (by simp))) (i + 1) (by have h_ := HM.out.1; omega) (by omega) (by first | omega | (simp; omega)) _ rfl ?_; intro g79 cap80 w81 hp82; refine Hid.out ?_)
     refine lhd ?_
     have hp82s := hp82.gb.size
     (try simp at hp82s)
     clear b77 b78
     have F83 := ((hF54.alloc (.cells #[.int .i64 z.m, .int .i64 z.ho.lo, .int .i64 z.ho.hi, .int .i64 z.wa.lo, .int .i64 z.wa.hi, .int .i64 z.fr.lo, .int .i64 z.fr.hi, .slice aa73 (((afP o z.af z.af.length)).length) ac74] 79)).front 4 rfl rfl).app hp82 (by simp)
     clear hF54
     have b84 := F83.bx2 5 rfl
     go_wp2_with fail
     clear b84
     have F85 := ((F83.front 5 rfl rfl).set 1 (.slice (some ⟨g79, 0, none⟩) (i + 1) cap80)).nf #[.slice aM ms.length cM, .slice (some ⟨g79, 0, none⟩) (i + 1) cap80] rfl
     clear F83
     have F86 : Bun w [rown intEnc 3 1 w.heap.size (.slice aa73 ((afP o z.af z.af.length)).length ac74) (afP o z.af z.af.length), rafo w.heap.size lt, rbox w12.heap.size 25 #[.slice aM ms.length cM, .slice (some ⟨g79, 0, none⟩) (i + 1) cap80], rown tskEncS 79 8 w.heap.size (.slice (some ⟨g79, 0, none⟩) (i + 1) cap80) (lt ++ [(⟨z.m, ⟨z.ho.lo, z.ho.hi⟩, ⟨z.wa.lo, z.wa.hi⟩, ⟨z.fr.lo, z.fr.hi⟩, (afP o z.af z.af.length), .slice aa73 (((afP o z.af z.af.length)).length) ac74⟩ : Tsk)]), rbox w30.heap.size 79 #[.int .i64 z.m, .int .i64 z.ho.lo, .int .i64 z.ho.hi, .int .i64 z.wa.lo, .int .i64 z.wa.hi, .int .i64 z.fr.lo, .int .i64 z.fr.hi, .slice aa73 ((afP o z.af z.af.length)).length ac74], rsl intEnc 1 lo hi (.slice a_z z.af.length c_z) z.af, rat (w.heap.size + 2) o.length (atF o o.length), rbox (w.heap.size + 1) 25 #[.slice none 0 0, .slice none 0 0], rbox w.heap.size 25 #[.slice aM ms.length cM, .slice (some ⟨x37, o38, none⟩) ts.length cT], rsl intEnc 1 lo4 hi4 (.slice (some ⟨x32, o33, none⟩) o.length cO) (ints o), rafs lo hi ts, rsl tskEnc 8 lo hi (.slice (some ⟨x37, o38, none⟩) ts.length cT) ts, rsl mchEnc 3 lo hi (.slice aM ms.length cM) ms] _ := F85.pick [2, 5, 0, 1, 3, 4, 6, 7, 8, 9, 10, 11, 12] (by decide) rfl
     clear F85
     replace F86 := F86.afo (⟨z.m, ⟨z.ho.lo, z.ho.hi⟩, ⟨z.wa.lo, z.wa.hi⟩, ⟨z.fr.lo, z.fr.hi⟩, (afP o z.af z.af.length), .slice aa73 (((afP o z.af z.af.length)).length) ac74⟩ : Tsk) rfl rfl
     go_wp2_with fail
     have F88 : Bun w [rafo w.heap.size (lt ++ [(⟨z.m, ⟨z.ho.lo, z.ho.hi⟩, ⟨z.wa.lo, z.wa.hi⟩, ⟨z.fr.lo, z.fr.hi⟩, (afP o z.af z.af.length), .slice aa73 (((afP o z.af z.af.length)).length) ac74⟩ : Tsk)]), rown tskEncS 79 8 w.heap.size (.slice (some ⟨g79, 0, none⟩) (i + 1) cap80) (lt ++ [(⟨z.m, ⟨z.ho.lo, z.ho.hi⟩, ⟨z.wa.lo, z.wa.hi⟩, ⟨z.fr.lo, z.fr.hi⟩, (afP o z.af z.af.length), .slice aa73 (((afP o z.af z.af.length)).length) ac74⟩ : Tsk)]), rbox w12.heap.size 25 #[.slice aM ms.length cM, .slice (some ⟨g79, 0, none⟩) (i + 1) cap80], rat (w.heap.size + 2) o.length (atF o o.length), rbox (w.heap.size + 1) 25 #[.slice none 0 0, .slice none 0 0], rbox w.heap.size 25 #[.slice aM ms.length cM, .slice (some ⟨x37, o38, none⟩) ts.length cT], rsl intEnc 1 lo4 hi4 (.slice (some ⟨x32, o33, none⟩) o.length cO) (ints o), rafs lo hi ts, rsl tskEnc 8 lo hi (.slice (some ⟨x37, o38, none⟩) ts.length cT) ts, rsl mchEnc 3 lo hi (.slice aM ms.length cM) ms] _ := F86.pick [0, 2, 1, 5, 6, 7, 8, 9, 10, 11] (by decide) rfl
     clear F86
     (first | refine ⟨by kernel_rfl, ?_, ?_⟩ | refine ⟨rfl, ?_, ?_⟩ | refine ⟨?_, ?_⟩)
     · rw [HI27.out]; exact ⟨i + 1, _, _, by (iterate 6 refine ⟨by kernel_rfl, ?_⟩); exact ⟨(by show Value.int .i64 ((i : Int) + 1) = _; simp), (by omega), (lhd (HM.out.snoc HX.out (by rw [ordOf, HZT.out, ← afP_all]; exact ⟨rfl, rfl, rfl, rfl, rfl⟩) rfl)), (by first | rfl | simp), (by first | omega | (simp; done) | (simp; omega)), F88⟩⟩
     · simp [slot, intOf]; omega
    case atStart3 =>
     rw [HI53.out]
     exact ⟨0, _, by (iterate 10 refine ⟨by kernel_rfl, ?_⟩); exact ⟨rfl, Nat.zero_le _, rfl, (by first | exact Nat.le_refl _ | omega | (simp; done) | (simp; omega)), F40⟩⟩
   have c31H := lhd c31
   have c31a : decide ((i : Int) < (o.length : Int)) = false := dec_f c31
   obtain ⟨av89, vc90, e_, _⟩ := Own.slN (hF28.at 1 rfl : Own tskEncS 79 8 w.heap.size _ tv lt) (fun _ => rfl) HM.out.1
   subst e_
   have b91 := hF28.bx2 2 rfl
   have b92 := hF28.bx2 4 rfl
   go_wp2_with fail
   clear b91 b92
   have F93 := (hF28.front 4 rfl rfl).pt2 (.slice aM ms.length cM) (.slice av89 i vc90)
   clear hF28
   have kb94 := F93.bx2 0 rfl
   go_wp2_with fail
   exact bodyPost_ret (v := .agg #[.slice aM ms.length cM, .slice av89 i vc90]) (by simp [results, Try.results95, go_sem, kb94]) rfl ((OrdJ.of rfl (by have h_ : i = o.length := (by omega); have h2_ := HM.out; rwa [h_] at h2_) HOL.out (F93.at 2 rfl : Own tskEncS 79 8 w.heap.size _ (.slice av89 i vc90) lt) (F93.at 1 rfl : ∀ t ∈ lt, Own intEnc 3 1 w.heap.size _ t.av t.af) F93.gb))
  case atStart2 =>
   rw [HI27.out]
   exact ⟨0, _, [], by (iterate 6 refine ⟨by kernel_rfl, ?_⟩); exact ⟨rfl, Nat.zero_le _, (lhd ⟨rfl, (fun q x t _ h => by simp at h), (fun _ h => by cases h)⟩), rfl, (by first | exact Nat.le_refl _ | omega | (simp; done) | (simp; omega)), F24⟩⟩
 case atStart1 =>
  rw [HI9.out]
  exact ⟨0, by (iterate 6 refine ⟨by kernel_rfl, ?_⟩); exact ⟨rfl, Nat.zero_le _, rfl, (by first | exact Nat.le_refl _ | omega | (simp; done) | (simp; omega)), F1⟩⟩
end Go.Proofs.Ytokelpmngahnoaa
/- build: orders are tried. -/
namespace Go.Proofs.Ytokelpmngahnoaa
open Go.RowKit
set_option maxRecDepth 100000
attribute [local go_sem] Oper.semAt_some
attribute [local go_sem] run_store_fn
theorem Bun.ownSl {w0 A : World} {L : List Res} {b g n c : Nat} {l : List Int} (h : Bun w0 (rown intEnc 3 1 b (.slice (some ⟨g, 0, none⟩) n c) l :: L) A) : Bun w0 (rsl intEnc 1 g (g + 1) (.slice (some ⟨g, 0, none⟩) n c) l :: L) A := by
 have ho : Own intEnc 3 1 b A (.slice (some ⟨g, 0, none⟩) n c) l := h.at 0 rfl
 refine h.wr (r' := rsl intEnc 1 g (g + 1) (.slice (some ⟨g, 0, none⟩) n c) l) rfl (gb_refl _ none) (fun _ e => by cases e) (Own.slG ho (fun _ => rfl)) fun k hk => ?_
 have hk' : g <= k /\ k < g + 1 := hk
 obtain rfl : k = g := by omega
 exact ⟨.inl rfl, (ho.lt _ rfl).2⟩
theorem mem_ints {now : List Nat} {a : Int} (h : 0 <= a) : hasI (ints now) a = decide (a.toNat ∈ now) := by
 by_cases hm : a.toNat ∈ now
 ·
  rw [decide_eq_true hm]
  exact hasI_iff.2 (List.mem_map.2 ⟨a.toNat, hm, (by first | omega | (simp; omega))⟩)
 rw [decide_eq_false hm, Bool.eq_false_iff]
 intro h2
 obtain ⟨n, h3, h4⟩ := List.mem_map.1 (hasI_iff.1 h2)
 exact hm (by rw [← h4]; simpa using h3)
def dB (now : List Nat) (k : Nat) (l : List Int) : Bool := !(hasI (ints now) (k : Int)) && l.all fun a => hasI (ints now) a
theorem dB_next {now : List Nat} {k j : Nat} {l : List Int} {y : Int} (h : l[j]? = some y) : dB now k (l.take (j + 1)) = (dB now k (l.take j) && hasI (ints now) y) := by
 unfold dB
 rw [← take_snoc h, List.all_append, Bool.and_assoc]
 simp
theorem dB_ext {ts : List Tsk} {now : List Nat} {k : Nat} {z : Tsk} (hz : tk ts k = z) (h0 : ∀ a ∈ z.af, 0 <= a) : dB now k z.af = extB ts now k := by
 have h1 : ∀ l : List Int, (∀ a ∈ l, 0 <= a) -> (l.all fun a => hasI (ints now) a) = l.all fun a => decide (a.toNat ∈ now) := by
  intro l
  induction l with
  | nil => intro _; rfl
  | cons x l ih => intro h; rw [List.all_cons, List.all_cons, ih (fun a ha => h a (.tail _ ha)), mem_ints (h x (.head _))]
 unfold dB extB
 rw [hz, h1 _ h0, mem_ints (show (0 : Int) <= (k : Int) by omega), Int.toNat_natCast]
theorem opens_o (lo hi : Nat) (vm vt : Value) (ms : List Mch) (lt ts : List Tsk) (o : List Nat) (lo2 hi2 : Nat) (vd : Value) (dl : List Wea) (w : World) (hj : JobAt lo hi w vm vt ms lt) (h2 : hi <= w.heap.size) (hd : Sl weaEnc 6 lo2 hi2 w vd dl) (h3 : hi2 <= w.heap.size) (hok : JobOk ms ts) (hn : dl.length <= 400) (hm : mixT ts.length lt (ordT ts o)) (hop : OrdP ts o) (hol : o.length = ts.length) :
  Calls Try.prog 90 #[.agg #[vm, vt], vd] w (Ret (.int .i64 (opO ms ts dl o)) w) := by
 have hjo := JobOk.ord hok hop hol
 have hjl : JobOk ms lt := by
  refine ⟨hjo.nm, by rw [hm.1]; exact hjo.nt, hjo.mo, fun k t hk => ?_⟩
  obtain ⟨y, hy⟩ : ∃ y, (ordT ts o)[k]? = some y := ⟨_, List.getElem?_eq_getElem (by rw [← hm.1]; exact (List.getElem?_eq_some_iff.1 hk).1)⟩
  obtain ⟨⟨e1, e2, e3, e4, e5⟩, _⟩ := hm.2.1 k t y hk hy
  have h4 := hjo.to_ k y hy
  exact ⟨by rw [e1]; exact h4.m, by rw [e2]; exact h4.ho, by rw [e3]; exact h4.wa, by rw [e4]; exact h4.fr, by rw [e5]; exact h4.af, by rw [e5]; exact h4.nd⟩
 have h5 := opens_c lo hi vm vt ms lt lo2 hi2 vd dl w hj h2 hd h3 hjl hn
 rw [caseOf_same hm, hm.1, ordT_len, hol] at h5
 exact h5
def TryP (b0 lo hi lo2 hi2 gf go gq gj gd gt : Nat) (aM aT ad : Option Addr) (cM cT cd : Nat) (ms : List Mch) (ts : List Tsk) (dl : List Wea) (f : Nat) : Prop := ∀ (w0 w : World) (LR : List Res) (s : BS) (now : List Nat) (lon hin : Nat) (vn ov : Value), Bun w0 [rbox gf 4 #[.bool s.found], rbox go 3 #[.int .i64 s.open_], rbox gq 27 #[ov], rown intEnc 3 1 b0 ov (ints s.order), rbox gj 25 #[.slice aM ms.length cM, .slice aT ts.length cT], rbox gd 26 #[.slice ad dl.length cd], rbox gt 143 #[.func (.func 94) #[] #[.pointer (some ⟨gj, 0, none⟩), .pointer (some ⟨gd, 0, none⟩), .pointer (some ⟨gf, 0, none⟩), .pointer (some ⟨go, 0, none⟩), .pointer (some ⟨gq, 0, none⟩), .pointer (some ⟨gt, 0, none⟩)]], rsl intEnc 1 lon hin vn (ints now), rsl weaEnc 6 lo2 hi2 (.slice ad dl.length cd) dl, rafs lo hi ts, rsl tskEnc 8 lo hi (.slice aT ts.length cT) ts, rsl mchEnc 3 lo hi (.slice aM ms.length cM) ms, rall LR] w -> b0 <= w0.heap.size -> OrdP ts now -> now.length + f = ts.length →
 Calls Try.prog 94 #[vn, .pointer (some ⟨gj, 0, none⟩), .pointer (some ⟨gd, 0, none⟩), .pointer (some ⟨gf, 0, none⟩), .pointer (some ⟨go, 0, none⟩), .pointer (some ⟨gq, 0, none⟩), .pointer (some ⟨gt, 0, none⟩)] w (fun e w' => ∃ ov' : Value, e = .returned (.tuple #[]) /\ Bun w0 [rbox gf 4 #[.bool (tryS ms ts dl (ords ts f now) s).found], rbox go 3 #[.int .i64 ((tryS ms ts dl (ords ts f now) s).open_)], rbox gq 27 #[ov'], rown intEnc 3 1 b0 ov' (ints (tryS ms ts dl (ords ts f now) s).order), rbox gj 25 #[.slice aM ms.length cM, .slice aT ts.length cT], rbox gd 26 #[.slice ad dl.length cd], rbox gt 143 #[.func (.func 94) #[] #[.pointer (some ⟨gj, 0, none⟩), .pointer (some ⟨gd, 0, none⟩), .pointer (some ⟨gf, 0, none⟩), .pointer (some ⟨go, 0, none⟩), .pointer (some ⟨gq, 0, none⟩), .pointer (some ⟨gt, 0, none⟩)]], rsl intEnc 1 lon hin vn (ints now), rsl weaEnc 6 lo2 hi2 (.slice ad dl.length cd) dl, rafs lo hi ts, rsl tskEnc 8 lo hi (.slice aT ts.length cT) ts, rsl mchEnc 3 lo hi (.slice aM ms.length cM) ms, rall LR] w' /\ w.heap.size <= w'.heap.size)
set_option maxHeartbeats 4000000 in
theorem cloneI_nil (b0 c : Nat) (w : World) (hb : b0 <= w.heap.size) :
  Calls Try.prog 96 #[.slice none 0 c] w (CloneP intEnc 3 1 b0 ([] : List Int) w) := by
 have F1 : Bun w [] w := Bun.nil _
 go_enter Try.func96, Try.ntmps96
 have hqn : ∀ W : World, (binOp .eql 27 (.slice none 0 c) (.slice none 0 0)).run Try.prog W = .ok (.bool true) W := fun W => by rw [Lib.run_eql_slice_nil W _ _ _ _ _ _ _ Try.underlying27]; rfl
 go_wp2_with fail
 exact bodyPost_ret (v := .slice none 0 0) (by simp [results, Try.results96, go_sem]) rfl (CloneP.nil F1.gb)
set_option maxHeartbeats 4000000 in
theorem cloneI_some (b0 lo hi : Nat) (p : Addr) (c : Nat) (l : List Int) (w : World) (hl : Sl intEnc 1 lo hi w (.slice (some p) l.length c) l) (h2 : hi <= w.heap.size) (hs : l.length <= 100000000000) (hb : b0 <= w.heap.size) :
  Calls Try.prog 96 #[.slice (some p) l.length c] w (CloneP intEnc 3 1 b0 l w) := by
 have F1 : Bun w [] w := Bun.nil _
 have hm_ := hl.len
 unfold maxLen at hm_
 replace F1 := F1.sl0 hl h2 rfl
 clear hl
 go_enter Try.func96, Try.ntmps96
 have hqn : ∀ W : World, (binOp .eql 27 (.slice (some p) l.length c) (.slice none 0 0)).run Try.prog W = .ok (.bool false) W := fun W => by rw [Lib.run_eql_slice_nil W _ _ _ _ _ _ _ Try.underlying27]; rfl
 go_wp2_with (at_builtin; refine wpList_copyB okInt rfl _ _ rfl w.heap.size w.heap.size rfl (F1.new 3 #[] (n := w.heap.size) (by simp)) (by first | omega | (simp; omega)) lo hi (.slice (some p) l.length c) l rfl ((F1.new 3 #[] (n := w.heap.size) (by simp)).at 1 rfl) (by omega) ?_; intro vc3 w4 hB5 hs6; refine Hid.out ?_)
 refine lhd ?_
 (try simp at hs6)
 have F7 := hB5
 clear F1
 obtain ⟨ca8, cap9, e_⟩ := (Own.sl (F7.at 0 rfl : Own intEnc 3 1 w.heap.size _ vc3 l) (fun _ => rfl)).any
 subst e_
 go_wp2_with fail
 exact bodyPost_ret (v := .slice ca8 l.length cap9) (by simp [results, Try.results96, go_sem]) rfl (CloneP.of hb (F7.pick [0] (by decide) rfl))
theorem cloneI_c (b0 lo hi : Nat) (v : Value) (l : List Int) (w : World) (hl : Sl intEnc 1 lo hi w v l) (h2 : hi <= w.heap.size) (hs : l.length <= 100000000000) (hb : b0 <= w.heap.size) : Calls Try.prog 96 #[v] w (CloneP intEnc 3 1 b0 l w) := by
 obtain ⟨a, c, rfl⟩ := hl.any
 cases a with
 | none =>
  have e : l = [] := by
   rcases hl.nilOr with ⟨rfl, _⟩ | ⟨x, ox, c', h | ⟨rfl, _⟩⟩
   · rfl
   · injection h with h; cases h
   · rfl
  subst e
  exact cloneI_nil b0 c w hb
 | some p => exact cloneI_some b0 lo hi p c l w hl h2 hs hb
set_option maxHeartbeats 16000000 in
theorem best1_leaf (w0 : World) (b0 lo hi lo2 hi2 gf go gq gj gd gt : Nat) (aM aT ad : Option Addr) (cM cT cd : Nat) (ms : List Mch) (ts : List Tsk) (dl : List Wea) (LR : List Res) (s : BS) (now : List Nat) (lon hin : Nat) (vn ov : Value) (w : World) (hB : Bun w0 [rbox gf 4 #[.bool s.found], rbox go 3 #[.int .i64 s.open_], rbox gq 27 #[ov], rown intEnc 3 1 b0 ov (ints s.order), rbox gj 25 #[.slice aM ms.length cM, .slice aT ts.length cT], rbox gd 26 #[.slice ad dl.length cd], rbox gt 143 #[.func (.func 94) #[] #[.pointer (some ⟨gj, 0, none⟩), .pointer (some ⟨gd, 0, none⟩), .pointer (some ⟨gf, 0, none⟩), .pointer (some ⟨go, 0, none⟩), .pointer (some ⟨gq, 0, none⟩), .pointer (some ⟨gt, 0, none⟩)]], rsl intEnc 1 lon hin vn (ints now), rsl weaEnc 6 lo2 hi2 (.slice ad dl.length cd) dl, rafs lo hi ts, rsl tskEnc 8 lo hi (.slice aT ts.length cT) ts, rsl mchEnc 3 lo hi (.slice aM ms.length cM) ms, rall LR] w) (hb0 : b0 <= w0.heap.size) (hop : OrdP ts now) (hok : JobOk ms ts) (hn : dl.length <= 400) (hln : now.length = ts.length) :
  Calls Try.prog 94 #[vn, .pointer (some ⟨gj, 0, none⟩), .pointer (some ⟨gd, 0, none⟩), .pointer (some ⟨gf, 0, none⟩), .pointer (some ⟨go, 0, none⟩), .pointer (some ⟨gq, 0, none⟩), .pointer (some ⟨gt, 0, none⟩)] w (fun e w' => ∃ ov' : Value, e = .returned (.tuple #[]) /\ Bun w0 [rbox gf 4 #[.bool (tryS ms ts dl (ords ts 0 now) s).found], rbox go 3 #[.int .i64 ((tryS ms ts dl (ords ts 0 now) s).open_)], rbox gq 27 #[ov'], rown intEnc 3 1 b0 ov' (ints (tryS ms ts dl (ords ts 0 now) s).order), rbox gj 25 #[.slice aM ms.length cM, .slice aT ts.length cT], rbox gd 26 #[.slice ad dl.length cd], rbox gt 143 #[.func (.func 94) #[] #[.pointer (some ⟨gj, 0, none⟩), .pointer (some ⟨gd, 0, none⟩), .pointer (some ⟨gf, 0, none⟩), .pointer (some ⟨go, 0, none⟩), .pointer (some ⟨gq, 0, none⟩), .pointer (some ⟨gt, 0, none⟩)]], rsl intEnc 1 lon hin vn (ints now), rsl weaEnc 6 lo2 hi2 (.slice ad dl.length cd) dl, rafs lo hi ts, rsl tskEnc 8 lo hi (.slice aT ts.length cT) ts, rsl mchEnc 3 lo hi (.slice aM ms.length cM) ms, rall LR] w' /\ w.heap.size <= w'.heap.size) := by
 obtain ⟨aN, cN, rfl⟩ := ((hB.at 7 rfl : Sl intEnc 1 lon hin _ vn (ints now))).any
 rw [ints_len] at *
 obtain ⟨fb, hfb⟩ : ∃ b_, s.found = b_ := ⟨_, rfl⟩
 rw [hfb] at hB
 have hm_ts := (hB.at 10 rfl : Sl tskEnc 8 lo hi _ (.slice aT ts.length cT) ts).len
 unfold maxLen at hm_ts
 have hnegfgo : ¬ gf = go := hB.neAt 0 1 rfl rfl (by decide) (.inl rfl) gf rfl
 have hnegogf : ¬ go = gf := fun e_ => hnegfgo e_.symm
 have hnegfgq : ¬ gf = gq := hB.neAt 0 2 rfl rfl (by decide) (.inl rfl) gf rfl
 have hnegqgf : ¬ gq = gf := fun e_ => hnegfgq e_.symm
 have hnegogq : ¬ go = gq := hB.neAt 1 2 rfl rfl (by decide) (.inl rfl) go rfl
 have hnegqgo : ¬ gq = go := fun e_ => hnegogq e_.symm
 have hb1_ : b0 <= w.heap.size := Nat.le_trans hb0 hB.gb.size
 have HOK := lhd (And.intro hok hn)
 have HOP := lhd hop
 have hnl : now.length <= ts.length := by omega
 have HLN := lhd hln
 have HFB := lhd hfb
 have hnt := hok.nt
 have hhin := (hB.at 7 rfl : Sl intEnc 1 lon hin _ (.slice aN now.length cN) (ints now)).len
 rw [ints_len] at hhin
 clear hok hop hln hfb
 (skip)
 have kn1 : (now.length : Int) = (ts.length : Int) := (by have h_ := HLN.out; omega)
 have kn1H := lhd kn1
 have kn1a : ((now.length : Int) == (ts.length : Int)) = true := beq_t kn1
 have kn1b : ((now.length : Int) != (ts.length : Int)) = false := bne_f kn1
 clear kn1
 have hqD_ : ∀ (h : Decidable (now.length = ts.length)), @decide (now.length = ts.length) h = true := fun _ => decide_eq_true HLN.out
 have hqT_ : (now.length = ts.length) = True := eq_true HLN.out
 have hqB_ : (now.length == ts.length) = true := by rw [beq_iff_eq]; exact HLN.out
 go_enter Try.func94, Try.ntmps94
 have b2 := hB.bx2 4 rfl
 go_wp2_with fail
 clear b2
 have F3 := hB.drew
 clear hB
 refine ru_begin (fun W => W.cell? ⟨gj, 0, none⟩ = some (.slice aM ms.length cM) /\ W.cell? ⟨gj, 1, none⟩ = some (.slice aT ts.length cT) /\ W.cell? ⟨gd, 0, none⟩ = some (.slice ad dl.length cd)) 5 (by kernel_rfl) ?_ ?_
 · exact ⟨F3.q 4 0, F3.q 4 1, F3.q 5 0⟩
 obtain ⟨wd5, hwd_⟩ : ∃ x : World, w.drew = x := ⟨_, rfl⟩
 rw [hwd_] at F3 ⊢
 have wd5s : w.heap.size <= wd5.heap.size := by rw [← hwd_]; exact Nat.le_refl _
 clear hwd_
 have hS4 := (And.intro (F3.q 4 0) (And.intro (F3.q 4 1) (F3.q 5 0)))
 refine ru_t 0 [] ?_
 refine ru_t 1 [] ?_
 refine ru_t 3 [] ?_
 (try simp only [lpX])
 clear hS4
 refine ru_one 2 rfl (by kernel_rfl) (fun K hK => ?_)
 go_simp
 refine (ordered_c 0 _ _ _ ms ts 0 _ _ now _ (JobAt.mk (F3.slY 11 rfl) (F3.slY 10 rfl) (F3.afY 9 rfl)) (Nat.le_refl _) (F3.slY 7 rfl) (Nat.le_refl _) HOK.out.1 HOP.out HLN.out).mono ?_
 rintro e w8 ⟨aO, cO, loO, hiO, ltO, rfl, ⟨hxO, hyO⟩, hsO, haO, hmO, hg6⟩
 have HMO := lhd hmO
 clear hmO
 have hg6s := hg6.size
 (try simp at hg6s)
 replace F3 := F3.add (rafs loO hiO ltO) hg6 (haO) (fun g e => ⟨Nat.le_trans hxO e.1, Nat.lt_of_lt_of_le e.2 hyO⟩)
 replace F3 := F3.more 0 (rsl tskEnc 8 loO hiO (.slice aO ltO.length cO) ltO) rfl rfl rfl (fun _ h_ => h_) hsO
 refine ru_back hK (by exact ⟨F3.q 6 0, F3.q 6 1, F3.q 7 0⟩) (fun _ => ?_)
 clear hK K
 (try simp only [lpX])
 refine ru_one 4 rfl (by kernel_rfl) (fun K hK => ?_)
 go_simp
 refine (opens_o 0 _ _ _ ms ltO ts now 0 _ _ dl _ (JobAt.mk (F3.slY 13 rfl) (F3.slY 0 rfl) (F3.afY 1 rfl)) (Nat.le_refl _) (F3.slY 10 rfl) (Nat.le_refl _) HOK.out.1 HOK.out.2 HMO.out HOP.out HLN.out).mono ?_
 rintro e w13 ⟨rfl, hg11⟩
 have hg11s := hg11.size
 (try simp at hg11s)
 replace F3 := F3.gn hg11
 refine ru_back hK (by exact ⟨F3.q 6 0, F3.q 6 1, F3.q 7 0⟩) (fun _ => ?_)
 clear hK K
 (try simp only [lpX])
 refine ru_one 5 rfl (by kernel_rfl) (fun K hK => ?_)
 go_simp
 refine ru_back_late hK (by kernel_rfl) ?_
 clear hK K
 (try simp only [lpX])
 refine ru_done (by kernel_rfl) ?_
 have Fn_ := F3
 (try dsimp only [List.eraseIdx_cons_succ, List.eraseIdx_cons_zero] at Fn_)
 obtain ⟨w15, hx16, F18, hxs17⟩ := Fn_.name
 (try simp at hxs17)
 rw [hx16]
 clear hx16 F3 Fn_
 cases c19 : fb
 ·
  (try rw [c19] at F18)
  have c19H := lhd c19
  have b20 := F18.bx1 2 rfl
  go_wp2_with fail
  clear b20
  refine (cloneI_c b0 0 _ _ (ints now) _ (F18.slY 9 rfl) (Nat.le_refl _) (by rw [ints_len]; omega) (Nat.le_trans hb0 F18.gb.size)).mono ?_
  rintro e w23 ⟨oc_, cc_, rfl, hco_, hcx_, hg21⟩
  have hg21s := hg21.size
  (try simp at hg21s)
  replace F18 := F18.add (rown intEnc 3 1 b0 (.slice oc_ (ints now).length cc_) (ints now)) hg21 (hco_) (fun g e => hcx_ g e)
  clear hg21
  have b25 := F18.bx1 3 rfl
  have b26 := F18.bx1 4 rfl
  have b27 := F18.bx1 5 rfl
  go_wp2_with fail
  clear b25 b26 b27
  have F28 := ((F18.front 3 rfl rfl).set 0 (.bool true)).nf #[.bool true] rfl
  clear F18
  have F29 := ((F28.front 5 rfl rfl).set 0 (.slice oc_ ((ints now).length) cc_)).nf #[.slice oc_ ((ints now).length) cc_] rfl
  clear F28
  have F30 := ((F29.front 5 rfl rfl).set 0 (.int .i64 (opO ms ts dl now))).nf #[.int .i64 (opO ms ts dl now)] rfl
  clear F29
  have F31 : Bun w0 [rbox gf 4 #[.bool true], rbox go 3 #[.int .i64 (opO ms ts dl now)], rbox gq 27 #[.slice oc_ ((ints now).length) cc_], rown intEnc 3 1 b0 (.slice oc_ (ints now).length cc_) (ints now), rbox gj 25 #[.slice aM ms.length cM, .slice aT ts.length cT], rbox gd 26 #[.slice ad dl.length cd], rbox gt 143 #[.func (.func 94) #[] #[.pointer (some ⟨gj, 0, none⟩), .pointer (some ⟨gd, 0, none⟩), .pointer (some ⟨gf, 0, none⟩), .pointer (some ⟨go, 0, none⟩), .pointer (some ⟨gq, 0, none⟩), .pointer (some ⟨gt, 0, none⟩)]], rsl intEnc 1 lon hin (.slice aN now.length cN) (ints now), rsl weaEnc 6 lo2 hi2 (.slice ad dl.length cd) dl, rafs lo hi ts, rsl tskEnc 8 lo hi (.slice aT ts.length cT) ts, rsl mchEnc 3 lo hi (.slice aM ms.length cM) ms, rall LR] _ := F30.pick [2, 0, 1, 3, 7, 8, 9, 10, 11, 12, 13, 14, 15] (by decide) rfl
  clear F30
  exact bodyPost_ret (v := .tuple #[]) (by simp [results, Try.results94, go_sem]) rfl (by first | exact ⟨_, rfl, (by rw [show tryS ms ts dl (ords ts 0 now) s = ⟨true, now, opO ms ts dl now⟩ from upB_yes (.inl (by rw [HFB.out, c19H.out]))]; exact F31), (by first | omega | (simp; omega))⟩ | exact ⟨rfl, _, (by rw [show tryS ms ts dl (ords ts 0 now) s = ⟨true, now, opO ms ts dl now⟩ from upB_yes (.inl (by rw [HFB.out, c19H.out]))]; exact F31), (by first | omega | (simp; omega))⟩ | exact ⟨rfl, ⟨_, (by rw [show tryS ms ts dl (ords ts 0 now) s = ⟨true, now, opO ms ts dl now⟩ from upB_yes (.inl (by rw [HFB.out, c19H.out]))]; exact F31)⟩, (by first | omega | (simp; omega))⟩)
 (try rw [c19] at F18)
 have c19H := lhd c19
 by_cases c32 : opO ms ts dl now < s.open_
 ·
  have c32H := lhd c32
  have b33 := F18.bx1 2 rfl
  have b34 := F18.bx1 3 rfl
  go_wp2_with fail
  clear b33 b34
  refine (cloneI_c b0 0 _ _ (ints now) _ (F18.slY 9 rfl) (Nat.le_refl _) (by rw [ints_len]; omega) (Nat.le_trans hb0 F18.gb.size)).mono ?_
  rintro e w37 ⟨oc_, cc_, rfl, hco_, hcx_, hg35⟩
  have hg35s := hg35.size
  (try simp at hg35s)
  replace F18 := F18.add (rown intEnc 3 1 b0 (.slice oc_ (ints now).length cc_) (ints now)) hg35 (hco_) (fun g e => hcx_ g e)
  clear hg35
  have b39 := F18.bx1 3 rfl
  have b40 := F18.bx1 4 rfl
  have b41 := F18.bx1 5 rfl
  go_wp2_with fail
  clear b39 b40 b41
  have F42 := ((F18.front 3 rfl rfl).set 0 (.bool true)).nf #[.bool true] rfl
  clear F18
  have F43 := ((F42.front 5 rfl rfl).set 0 (.slice oc_ ((ints now).length) cc_)).nf #[.slice oc_ ((ints now).length) cc_] rfl
  clear F42
  have F44 := ((F43.front 5 rfl rfl).set 0 (.int .i64 (opO ms ts dl now))).nf #[.int .i64 (opO ms ts dl now)] rfl
  clear F43
  have F45 : Bun w0 [rbox gf 4 #[.bool true], rbox go 3 #[.int .i64 (opO ms ts dl now)], rbox gq 27 #[.slice oc_ ((ints now).length) cc_], rown intEnc 3 1 b0 (.slice oc_ (ints now).length cc_) (ints now), rbox gj 25 #[.slice aM ms.length cM, .slice aT ts.length cT], rbox gd 26 #[.slice ad dl.length cd], rbox gt 143 #[.func (.func 94) #[] #[.pointer (some ⟨gj, 0, none⟩), .pointer (some ⟨gd, 0, none⟩), .pointer (some ⟨gf, 0, none⟩), .pointer (some ⟨go, 0, none⟩), .pointer (some ⟨gq, 0, none⟩), .pointer (some ⟨gt, 0, none⟩)]], rsl intEnc 1 lon hin (.slice aN now.length cN) (ints now), rsl weaEnc 6 lo2 hi2 (.slice ad dl.length cd) dl, rafs lo hi ts, rsl tskEnc 8 lo hi (.slice aT ts.length cT) ts, rsl mchEnc 3 lo hi (.slice aM ms.length cM) ms, rall LR] _ := F44.pick [2, 0, 1, 3, 7, 8, 9, 10, 11, 12, 13, 14, 15] (by decide) rfl
  clear F44
  exact bodyPost_ret (v := .tuple #[]) (by simp [results, Try.results94, go_sem]) rfl (by first | exact ⟨_, rfl, (by rw [show tryS ms ts dl (ords ts 0 now) s = ⟨true, now, opO ms ts dl now⟩ from upB_yes (.inr c32H.out)]; exact F45), (by first | omega | (simp; omega))⟩ | exact ⟨rfl, _, (by rw [show tryS ms ts dl (ords ts 0 now) s = ⟨true, now, opO ms ts dl now⟩ from upB_yes (.inr c32H.out)]; exact F45), (by first | omega | (simp; omega))⟩ | exact ⟨rfl, ⟨_, (by rw [show tryS ms ts dl (ords ts 0 now) s = ⟨true, now, opO ms ts dl now⟩ from upB_yes (.inr c32H.out)]; exact F45)⟩, (by first | omega | (simp; omega))⟩)
 have c32H := lhd c32
 have c32a : decide (opO ms ts dl now < s.open_) = false := dec_f c32
 have b46 := F18.bx1 2 rfl
 have b47 := F18.bx1 3 rfl
 go_wp2_with fail
 clear b46 b47
 have F48 : Bun w0 [rbox gf 4 #[.bool true], rbox go 3 #[.int .i64 s.open_], rbox gq 27 #[ov], rown intEnc 3 1 b0 ov (ints s.order), rbox gj 25 #[.slice aM ms.length cM, .slice aT ts.length cT], rbox gd 26 #[.slice ad dl.length cd], rbox gt 143 #[.func (.func 94) #[] #[.pointer (some ⟨gj, 0, none⟩), .pointer (some ⟨gd, 0, none⟩), .pointer (some ⟨gf, 0, none⟩), .pointer (some ⟨go, 0, none⟩), .pointer (some ⟨gq, 0, none⟩), .pointer (some ⟨gt, 0, none⟩)]], rsl intEnc 1 lon hin (.slice aN now.length cN) (ints now), rsl weaEnc 6 lo2 hi2 (.slice ad dl.length cd) dl, rafs lo hi ts, rsl tskEnc 8 lo hi (.slice aT ts.length cT) ts, rsl mchEnc 3 lo hi (.slice aM ms.length cM) ms, rall LR] _ := F18.pick [2, 3, 4, 5, 6, 7, 8, 9, 10, 11, 12, 13, 14] (by decide) rfl
 clear F18
 exact bodyPost_ret (v := .tuple #[]) (by simp [results, Try.results94, go_sem]) rfl (by first | exact ⟨_, rfl, (by rw [show tryS ms ts dl (ords ts 0 now) s = s from upB_no (by rintro (h_ | h_); rw [HFB.out, c19H.out] at h_; cases h_; have h2_ := c32H.out; omega), HFB.out, c19H.out]; exact F48), (by first | omega | (simp; omega))⟩ | exact ⟨rfl, _, (by rw [show tryS ms ts dl (ords ts 0 now) s = s from upB_no (by rintro (h_ | h_); rw [HFB.out, c19H.out] at h_; cases h_; have h2_ := c32H.out; omega), HFB.out, c19H.out]; exact F48), (by first | omega | (simp; omega))⟩ | exact ⟨rfl, ⟨_, (by rw [show tryS ms ts dl (ords ts 0 now) s = s from upB_no (by rintro (h_ | h_); rw [HFB.out, c19H.out] at h_; cases h_; have h2_ := c32H.out; omega), HFB.out, c19H.out]; exact F48)⟩, (by first | omega | (simp; omega))⟩)
end Go.Proofs.Ytokelpmngahnoaa
/- build: orders are tried where tasks are left. -/
namespace Go.Proofs.Ytokelpmngahnoaa
open Go.RowKit
set_option maxRecDepth 100000
attribute [local go_sem] Oper.semAt_some
attribute [local go_sem] run_store_fn
set_option maxHeartbeats 32000000 in
theorem best1_in (w0 : World) (b0 lo hi lo2 hi2 gf go gq gj gd gt : Nat) (aM aT ad : Option Addr) (cM cT cd : Nat) (ms : List Mch) (ts : List Tsk) (dl : List Wea) (LR : List Res) (s : BS) (now : List Nat) (lon hin : Nat) (vn ov : Value) (f : Nat) (w : World) (hB : Bun w0 [rbox gf 4 #[.bool s.found], rbox go 3 #[.int .i64 s.open_], rbox gq 27 #[ov], rown intEnc 3 1 b0 ov (ints s.order), rbox gj 25 #[.slice aM ms.length cM, .slice aT ts.length cT], rbox gd 26 #[.slice ad dl.length cd], rbox gt 143 #[.func (.func 94) #[] #[.pointer (some ⟨gj, 0, none⟩), .pointer (some ⟨gd, 0, none⟩), .pointer (some ⟨gf, 0, none⟩), .pointer (some ⟨go, 0, none⟩), .pointer (some ⟨gq, 0, none⟩), .pointer (some ⟨gt, 0, none⟩)]], rsl intEnc 1 lon hin vn (ints now), rsl weaEnc 6 lo2 hi2 (.slice ad dl.length cd) dl, rafs lo hi ts, rsl tskEnc 8 lo hi (.slice aT ts.length cT) ts, rsl mchEnc 3 lo hi (.slice aM ms.length cM) ms, rall LR] w) (hb0 : b0 <= w0.heap.size) (hop : OrdP ts now) (hok : JobOk ms ts) (hn : dl.length <= 400) (ih : TryP b0 lo hi lo2 hi2 gf go gq gj gd gt aM aT ad cM cT cd ms ts dl f) (hln : now.length + (f + 1) = ts.length) :
  Calls Try.prog 94 #[vn, .pointer (some ⟨gj, 0, none⟩), .pointer (some ⟨gd, 0, none⟩), .pointer (some ⟨gf, 0, none⟩), .pointer (some ⟨go, 0, none⟩), .pointer (some ⟨gq, 0, none⟩), .pointer (some ⟨gt, 0, none⟩)] w (fun e w' => ∃ ov' : Value, e = .returned (.tuple #[]) /\ Bun w0 [rbox gf 4 #[.bool (tryS ms ts dl (ords ts (f + 1) now) s).found], rbox go 3 #[.int .i64 ((tryS ms ts dl (ords ts (f + 1) now) s).open_)], rbox gq 27 #[ov'], rown intEnc 3 1 b0 ov' (ints (tryS ms ts dl (ords ts (f + 1) now) s).order), rbox gj 25 #[.slice aM ms.length cM, .slice aT ts.length cT], rbox gd 26 #[.slice ad dl.length cd], rbox gt 143 #[.func (.func 94) #[] #[.pointer (some ⟨gj, 0, none⟩), .pointer (some ⟨gd, 0, none⟩), .pointer (some ⟨gf, 0, none⟩), .pointer (some ⟨go, 0, none⟩), .pointer (some ⟨gq, 0, none⟩), .pointer (some ⟨gt, 0, none⟩)]], rsl intEnc 1 lon hin vn (ints now), rsl weaEnc 6 lo2 hi2 (.slice ad dl.length cd) dl, rafs lo hi ts, rsl tskEnc 8 lo hi (.slice aT ts.length cT) ts, rsl mchEnc 3 lo hi (.slice aM ms.length cM) ms, rall LR] w' /\ w.heap.size <= w'.heap.size) := by
 obtain ⟨aN, cN, rfl⟩ := ((hB.at 7 rfl : Sl intEnc 1 lon hin _ vn (ints now))).any
 rw [ints_len] at *
 obtain ⟨fb, hfb⟩ : ∃ b_, s.found = b_ := ⟨_, rfl⟩
 rw [hfb] at hB
 have hm_ts := (hB.at 10 rfl : Sl tskEnc 8 lo hi _ (.slice aT ts.length cT) ts).len
 unfold maxLen at hm_ts
 have hnegfgo : ¬ gf = go := hB.neAt 0 1 rfl rfl (by decide) (.inl rfl) gf rfl
 have hnegogf : ¬ go = gf := fun e_ => hnegfgo e_.symm
 have hnegfgq : ¬ gf = gq := hB.neAt 0 2 rfl rfl (by decide) (.inl rfl) gf rfl
 have hnegqgf : ¬ gq = gf := fun e_ => hnegfgq e_.symm
 have hnegogq : ¬ go = gq := hB.neAt 1 2 rfl rfl (by decide) (.inl rfl) go rfl
 have hnegqgo : ¬ gq = go := fun e_ => hnegogq e_.symm
 have hb1_ : b0 <= w.heap.size := Nat.le_trans hb0 hB.gb.size
 have HOK := lhd (And.intro hok hn)
 have HOP := lhd hop
 have hnl : now.length <= ts.length := by omega
 have HLN := lhd hln
 have HFB := lhd hfb
 have hnt := hok.nt
 have hhin := (hB.at 7 rfl : Sl intEnc 1 lon hin _ (.slice aN now.length cN) (ints now)).len
 rw [ints_len] at hhin
 clear hok hop hln hfb
 (skip)
 have IH := lhd ih
 clear ih
 have kn1 : ¬ ((now.length : Int) = (ts.length : Int)) := (by have h_ := HLN.out; omega)
 have kn1H := lhd kn1
 have kn1a : ((now.length : Int) == (ts.length : Int)) = false := beq_f kn1
 have kn1b : ((now.length : Int) != (ts.length : Int)) = true := bne_t kn1
 clear kn1
 have hqD_ : ∀ (h : Decidable (now.length = ts.length)), @decide (now.length = ts.length) h = false := fun _ => decide_eq_false (by have h_ := HLN.out; omega)
 have hnl1_ : now.length + 1 <= ts.length := by have h_ := HLN.out; omega
 have hqT_ : ¬ now.length = ts.length := by have h_ := HLN.out; omega
 have hqB_ : (now.length == ts.length) = false := by rw [beq_eq_false_iff_ne]; have h_ := HLN.out; omega
 go_enter Try.func94, Try.ntmps94
 have b2 := hB.bx2 4 rfl
 go_wp2_with fail
 clear b2
 go_wp2_with fail
 have F0_ := hB
 rw [← HFB.out] at F0_
 clear hB
 obtain ⟨HI3_, HI30⟩ : ∃ I : RelT, I = (fun t ds wr => ∃ (k : Nat) (sk : BS) (ov1 : Value), t 0 = .slice aN now.length cN /\ t 6 = .pointer (some ⟨gt, 0, none⟩) /\ t 36 = .slice aT ts.length cT /\ t 37 = .int .i64 (ts.length : Int) /\ t 38 = .int .i64 (k : Int) /\ k <= ts.length /\ Hid (tryS ms ts dl (ordK ts f now k) s = sk) /\ ds = [] /\ w.heap.size <= wr.heap.size /\ Bun w0 [rbox gf 4 #[.bool sk.found], rbox go 3 #[.int .i64 sk.open_], rbox gq 27 #[ov1], rown intEnc 3 1 b0 ov1 (ints sk.order), rbox gj 25 #[.slice aM ms.length cM, .slice aT ts.length cT], rbox gd 26 #[.slice ad dl.length cd], rbox gt 143 #[.func (.func 94) #[] #[.pointer (some ⟨gj, 0, none⟩), .pointer (some ⟨gd, 0, none⟩), .pointer (some ⟨gf, 0, none⟩), .pointer (some ⟨go, 0, none⟩), .pointer (some ⟨gq, 0, none⟩), .pointer (some ⟨gt, 0, none⟩)]], rsl intEnc 1 lon hin (.slice aN now.length cN) (ints now), rsl weaEnc 6 lo2 hi2 (.slice ad dl.length cd) dl, rafs lo hi ts, rsl tskEnc 8 lo hi (.slice aT ts.length cT) ts, rsl mchEnc 3 lo hi (.slice aM ms.length cM) ms, rall LR] wr) := ⟨_, rfl⟩
 have HI3 := lhd HI30
 clear HI30
 refine wp_loopS 70 rfl HI3_ (fun t wr => ts.length - (intOf (t 38)).toNat) ?atStart4 ?round4
 case round4 =>
  intro t ds wr hHid
  rw [HI3.out] at hHid
  obtain ⟨k, sk, ov1, e0, e6, e36, e37, e38, hrel⟩ := hHid
  have e := rgKO70 t
  (try dsimp only at e)
  rw [e0, e6, e36, e37, e38] at e
  rw [e]
  simp only [e38]
  clear e e0 e6 e36 e37 e38
  obtain ⟨hk_, HSK, rfl, hs5, hF4⟩ := hrel
  clear F0_
  obtain ⟨w6, rfl⟩ : ∃ x_ : World, x_ = wr := ⟨_, rfl⟩
  by_cases c7 : (k : Int) < (ts.length : Int)
  ·
   have c7H := lhd c7
   obtain ⟨x8, o9, e_⟩ := Sl.addr (hF4.at 10 rfl : Sl tskEnc 8 lo hi _ (.slice aT ts.length cT) ts) (by omega)
   subst e_
   obtain ⟨z, hz10_⟩ : ∃ z_, ts[k]? = some z_ := ⟨_, List.getElem?_eq_getElem (by omega)⟩
   have hz10 := lhd hz10_
   clear hz10_
   obtain ⟨a_z, c_z, hav_z, hcap_z, hsl_z⟩ := Afs.open (hF4.at 9 rfl : Afs lo hi _ ts) hz10.out
   have HAV_z := lhd hav_z
   clear hav_z
   have F11 := hF4.more 9 (rsl intEnc 1 lo hi (.slice a_z z.af.length c_z) z.af) rfl rfl rfl (fun _ h_ => h_) hsl_z
   clear hF4
   have hm_z := (F11.at 0 rfl : Sl intEnc 1 lo hi _ (.slice a_z z.af.length c_z) z.af).len
   unfold maxLen at hm_z
   have HZA : Hid (∀ a ∈ z.af, 0 <= a) := lhd (fun a h_ => ((HOK.out.1.to_ k z hz10.out).af a h_).1)
   have HZT : Hid (tk ts k = z) := lhd (tk_get hz10.out)
   have hki : (k : Int) < (ts.length : Int) := by omega
   have ge12 : World.cell? _ ⟨x8, o9 + k * 8, none⟩ = some (.int .i64 z.m) := (Sl.cells (F11.at 11 rfl) hz10.out 0 _ rfl)
   have gl13 := cell_lt ge12
   have ge14 : World.cell? _ ⟨x8, o9 + k * 8 + 1, none⟩ = some (.int .i64 z.ho.lo) := (Sl.cells (F11.at 11 rfl) hz10.out 1 _ rfl)
   have ge15 : World.cell? _ ⟨x8, o9 + k * 8 + 2, none⟩ = some (.int .i64 z.ho.hi) := (Sl.cells (F11.at 11 rfl) hz10.out 2 _ rfl)
   have ge16 : World.cell? _ ⟨x8, o9 + k * 8 + 3, none⟩ = some (.int .i64 z.wa.lo) := (Sl.cells (F11.at 11 rfl) hz10.out 3 _ rfl)
   have ge17 : World.cell? _ ⟨x8, o9 + k * 8 + 4, none⟩ = some (.int .i64 z.wa.hi) := (Sl.cells (F11.at 11 rfl) hz10.out 4 _ rfl)
   have ge18 : World.cell? _ ⟨x8, o9 + k * 8 + 5, none⟩ = some (.int .i64 z.fr.lo) := (Sl.cells (F11.at 11 rfl) hz10.out 5 _ rfl)
   have ge19 : World.cell? _ ⟨x8, o9 + k * 8 + 6, none⟩ = some (.int .i64 z.fr.hi) := (Sl.cells (F11.at 11 rfl) hz10.out 6 _ rfl)
   have ge20 : World.cell? _ ⟨x8, o9 + k * 8 + 7, none⟩ = some (.slice a_z z.af.length c_z) := (HAV_z.out ▸ (Sl.cells (F11.at 11 rfl) hz10.out 7 _ rfl))
   go_wp2_with fail
   clear ge12 gl13 ge14 ge15 ge16 ge17 ge18 ge19 ge20
   replace F11 := F11.new 79 #[.int .i64 z.m, .int .i64 z.ho.lo, .int .i64 z.ho.hi, .int .i64 z.wa.lo, .int .i64 z.wa.hi, .int .i64 z.fr.lo, .int .i64 z.fr.hi, .slice a_z z.af.length c_z] (n := w6.heap.size) (by simp)
   refine (contains_c 0 _ _ (ints now) (k : Int) _ (F11.slY 9 rfl) (Nat.le_refl _)).mono ?_
   rintro e w24 ⟨rfl, hg22⟩
   have hg22s := hg22.size
   (try simp at hg22s)
   replace F11 := F11.gn hg22
   clear hg22
   have b26 := F11.bx8 0 rfl
   go_wp2_with fail
   clear b26
   obtain ⟨HI27_, HI270⟩ : ∃ I : RelT, I = (fun t ds wr => ∃ (j : Nat) (d : Bool), t 0 = .slice aN now.length cN /\ t 6 = .pointer (some ⟨gt, 0, none⟩) /\ t 9 = .int .i64 (k : Int) /\ t 11 = .bool d /\ t 36 = .slice (some ⟨x8, o9, none⟩) ts.length cT /\ t 37 = .int .i64 (ts.length : Int) /\ t 38 = .int .i64 (k : Int) /\ t 48 = .slice a_z z.af.length c_z /\ t 49 = .int .i64 (z.af.length : Int) /\ t 50 = .int .i64 (j : Int) /\ j <= z.af.length /\ Hid (dB now k (z.af.take j) = d) /\ ds = [] /\ w24.heap.size <= wr.heap.size /\ Bun w0 [rsl intEnc 1 lo hi (.slice a_z z.af.length c_z) z.af, rbox gf 4 #[.bool sk.found], rbox go 3 #[.int .i64 sk.open_], rbox gq 27 #[ov1], rown intEnc 3 1 b0 ov1 (ints sk.order), rbox gj 25 #[.slice aM ms.length cM, .slice (some ⟨x8, o9, none⟩) ts.length cT], rbox gd 26 #[.slice ad dl.length cd], rbox gt 143 #[.func (.func 94) #[] #[.pointer (some ⟨gj, 0, none⟩), .pointer (some ⟨gd, 0, none⟩), .pointer (some ⟨gf, 0, none⟩), .pointer (some ⟨go, 0, none⟩), .pointer (some ⟨gq, 0, none⟩), .pointer (some ⟨gt, 0, none⟩)]], rsl intEnc 1 lon hin (.slice aN now.length cN) (ints now), rsl weaEnc 6 lo2 hi2 (.slice ad dl.length cd) dl, rafs lo hi ts, rsl tskEnc 8 lo hi (.slice (some ⟨x8, o9, none⟩) ts.length cT) ts, rsl mchEnc 3 lo hi (.slice aM ms.length cM) ms, rall LR] wr) := ⟨_, rfl⟩
   have HI27 := lhd HI270
   clear HI270
   refine wp_loopS 70 rfl HI27_ (fun t wr => z.af.length - (intOf (t 50)).toNat) ?atStart5 ?round5
   case round5 =>
    intro t ds wr hHid
    rw [HI27.out] at hHid
    obtain ⟨j, d, e0, e6, e9, e11, e36, e37, e38, e48, e49, e50, hrel⟩ := hHid
    have e := rgKO70 t
    (try dsimp only at e)
    rw [e0, e6, e9, e11, e36, e37, e38, e48, e49, e50] at e
    rw [e]
    simp only [e50]
    clear e e0 e6 e9 e11 e36 e37 e38 e48 e49 e50
    obtain ⟨hj_, HD, rfl, hs29, hF28⟩ := hrel
    clear F11
    obtain ⟨w30, rfl⟩ : ∃ x_ : World, x_ = wr := ⟨_, rfl⟩
    by_cases c31 : (j : Int) < (z.af.length : Int)
    ·
     have c31H := lhd c31
     obtain ⟨x32, o33, e_⟩ := Sl.addr (hF28.at 0 rfl : Sl intEnc 1 lo hi _ (.slice a_z z.af.length c_z) z.af) (by omega)
     subst e_
     obtain ⟨y, hz34_⟩ : ∃ z_, z.af[j]? = some z_ := ⟨_, List.getElem?_eq_getElem (by omega)⟩
     have hz34 := lhd hz34_
     clear hz34_
     cases c35 : d
     ·
      have c35H := lhd c35
      have ge36 : World.cell? _ ⟨x32, o33 + j, none⟩ = some (.int .i64 y) := (by have h_ := Sl.cells (hF28.at 0 rfl) hz34.out 0 _ rfl; simpa using h_)
      have gl37 := cell_lt ge36
      go_wp2_with fail
      clear ge36 gl37
      (first | refine ⟨by kernel_rfl, ?_, ?_⟩ | refine ⟨rfl, ?_, ?_⟩ | refine ⟨?_, ?_⟩)
      · rw [HI27.out]; exact ⟨j + 1, false, by (iterate 9 refine ⟨by kernel_rfl, ?_⟩); exact ⟨(by show Value.int .i64 ((j : Int) + 1) = _; simp), (by omega), (lhd (by rw [dB_next hz34.out, HD.out, c35H.out]; rfl)), (by first | rfl | simp), (by first | omega | (simp; done) | (simp; omega)), hF28⟩⟩
      · simp [slot, intOf]; omega
     have c35H := lhd c35
     have ge38 : World.cell? _ ⟨x32, o33 + j, none⟩ = some (.int .i64 y) := (by have h_ := Sl.cells (hF28.at 0 rfl) hz34.out 0 _ rfl; simpa using h_)
     have gl39 := cell_lt ge38
     go_wp2_with fail
     clear ge38 gl39
     refine (contains_c 0 _ _ (ints now) y _ (hF28.slY 8 rfl) (Nat.le_refl _)).mono ?_
     rintro e w42 ⟨rfl, hg40⟩
     have hg40s := hg40.size
     (try simp at hg40s)
     have F43 := hF28.gn hg40
     clear hF28
     clear hg40
     go_wp2_with fail
     (first | refine ⟨by kernel_rfl, ?_, ?_⟩ | refine ⟨rfl, ?_, ?_⟩ | refine ⟨?_, ?_⟩)
     · rw [HI27.out]; exact ⟨j + 1, (hasI (ints now) y), by (iterate 9 refine ⟨by kernel_rfl, ?_⟩); exact ⟨(by show Value.int .i64 ((j : Int) + 1) = _; simp), (by omega), (lhd (by rw [dB_next hz34.out, HD.out, c35H.out]; rfl)), (by first | rfl | simp), (by first | omega | (simp; done) | (simp; omega)), F43⟩⟩
     · simp [slot, intOf]; omega
    have c31H := lhd c31
    have c31a : decide ((j : Int) < (z.af.length : Int)) = false := dec_f c31
    have hjz_ : z.af.take j = z.af := List.take_of_length_le (by omega)
    have HEX : Hid (extB ts now k = d) := lhd (by rw [← dB_ext HZT.out HZA.out, ← HD.out, hjz_])
    clear hjz_
    cases c44 : d
    ·
     have c44H := lhd c44
     go_wp2_with fail
     have F45 : Bun w0 [rbox gf 4 #[.bool sk.found], rbox go 3 #[.int .i64 sk.open_], rbox gq 27 #[ov1], rown intEnc 3 1 b0 ov1 (ints sk.order), rbox gj 25 #[.slice aM ms.length cM, .slice (some ⟨x8, o9, none⟩) ts.length cT], rbox gd 26 #[.slice ad dl.length cd], rbox gt 143 #[.func (.func 94) #[] #[.pointer (some ⟨gj, 0, none⟩), .pointer (some ⟨gd, 0, none⟩), .pointer (some ⟨gf, 0, none⟩), .pointer (some ⟨go, 0, none⟩), .pointer (some ⟨gq, 0, none⟩), .pointer (some ⟨gt, 0, none⟩)]], rsl intEnc 1 lon hin (.slice aN now.length cN) (ints now), rsl weaEnc 6 lo2 hi2 (.slice ad dl.length cd) dl, rafs lo hi ts, rsl tskEnc 8 lo hi (.slice (some ⟨x8, o9, none⟩) ts.length cT) ts, rsl mchEnc 3 lo hi (.slice aM ms.length cM) ms, rall LR] _ := hF28.pick [1, 2, 3, 4, 5, 6, 7, 8, 9, 10, 11, 12, 13] (by decide) rfl
     clear hF28
     (first | refine ⟨by kernel_rfl, ?_, ?_⟩ | refine ⟨rfl, ?_, ?_⟩ | refine ⟨?_, ?_⟩)
     · rw [HI3.out]; exact ⟨k + 1, sk, _, (by kernel_rfl), (by kernel_rfl), (by kernel_rfl), (by kernel_rfl), (by show Value.int .i64 ((k : Int) + 1) = _; simp), (by omega), (lhd (by rw [ordK_no (by rw [HEX.out]; exact c44H.out)]; exact HSK.out)), (by first | rfl | simp), (by first | omega | (simp; done) | (simp; omega)), F45⟩
     · simp [slot, intOf]; omega
    have c44H := lhd c44
    go_wp2_with fail
    have F46 := hF28.drew
    clear hF28
    refine ru_begin (fun W => W.cell? ⟨gt, 0, none⟩ = some (.func (.func 94) #[] #[.pointer (some ⟨gj, 0, none⟩), .pointer (some ⟨gd, 0, none⟩), .pointer (some ⟨gf, 0, none⟩), .pointer (some ⟨go, 0, none⟩), .pointer (some ⟨gq, 0, none⟩), .pointer (some ⟨gt, 0, none⟩)])) 6 (by kernel_rfl) ?_ ?_
    · exact F46.q 7 0
    obtain ⟨wd48, hwd_⟩ : ∃ x : World, w30.drew = x := ⟨_, rfl⟩
    rw [hwd_] at F46 ⊢
    have wd48s : w30.heap.size <= wd48.heap.size := by rw [← hwd_]; exact Nat.le_refl _
    clear hwd_
    have hS47 := (F46.q 7 0)
    refine ru_t 0 [] ?_
    refine ru_t 1 [5, 2] ?_
    refine ru_t 3 [5, 4] ?_
    (try simp only [lpX])
    clear hS47
    refine ru_two 2 4 rfl rfl (by kernel_rfl) ?_ ?_
    ·
     intro K hK
     go_simp
     refine (cloneI_c b0 0 _ _ (ints now) _ (F46.slY 8 rfl) (Nat.le_refl _) (by rw [ints_len]; omega) (Nat.le_trans hb0 F46.gb.size)).mono ?_
     rintro e w51 ⟨oc_, cc_, e_, hco_, hcx_, hg49⟩
     rw [ints_len] at e_ hco_ hcx_
     subst e_
     have hg49s := hg49.size
     (try simp at hg49s)
     replace F46 := F46.add (rown intEnc 3 1 b0 (.slice oc_ now.length cc_) (ints now)) hg49 (hco_) (fun g e => hcx_ g e)
     refine ru_back hK (by exact F46.q 8 0) (fun _ => ?_)
     clear hK K
     (try simp only [lpX])
     refine ru_one 4 rfl (by kernel_rfl) (fun K hK => ?_)
     go_simp
     replace F46 := F46.new 3 #[.int .i64 (k : Int)] (n := w51.heap.size) (by simp)
     refine ru_back hK (by exact F46.q 9 0) (fun _ => ?_)
     clear hK K
     (try simp only [lpX])
     refine ru_one 5 rfl (by kernel_rfl) (fun K hK => ?_)
     refine step_app _ okInt rfl _ _ rfl b0 (.slice oc_ now.length cc_) (ints now) [(k : Int)] rfl (by exact (F46.at 1 rfl : Own intEnc 3 1 b0 _ (.slice oc_ now.length cc_) (ints now))) ⟨_, 0, none⟩ 1 1 rfl rfl (by decide) (news_of (F46.at 0 rfl : Bk _ w51.heap.size 3 #[.int .i64 (k : Int)])) (now.length + 1) (by rw [ints_len]) (by omega) (by first | omega | (simp; omega)) _ rfl ?_
     intro g54 cap55 w56 hp57
     have hp57s := hp57.gb.size
     (try simp at hp57s)
     have F58 := (F46.front 1 rfl rfl).app hp57 (Nat.le_refl _)
     clear F46
     refine ru_back hK (by exact F58.q 9 0) (fun _ => ?_)
     clear hK K
     (try simp only [lpX])
     refine ru_one 6 rfl (by kernel_rfl) (fun K hK => ?_)
     go_simp
     replace F58 := F58.ownSl
     have F61 := F58
     rw [show ints now ++ [(k : Int)] = ints (now ++ [k]) by simp [ints]] at F61
     clear F58
     have F62 : Bun w0 [rbox gf 4 #[.bool sk.found], rbox go 3 #[.int .i64 sk.open_], rbox gq 27 #[ov1], rown intEnc 3 1 b0 ov1 (ints sk.order), rbox gj 25 #[.slice aM ms.length cM, .slice (some ⟨x8, o9, none⟩) ts.length cT], rbox gd 26 #[.slice ad dl.length cd], rbox gt 143 #[.func (.func 94) #[] #[.pointer (some ⟨gj, 0, none⟩), .pointer (some ⟨gd, 0, none⟩), .pointer (some ⟨gf, 0, none⟩), .pointer (some ⟨go, 0, none⟩), .pointer (some ⟨gq, 0, none⟩), .pointer (some ⟨gt, 0, none⟩)]], rsl intEnc 1 g54 (g54 + 1) (.slice (some ⟨g54, 0, none⟩) (now.length + 1) cap55) (ints (now ++ [k])), rsl weaEnc 6 lo2 hi2 (.slice ad dl.length cd) dl, rafs lo hi ts, rsl tskEnc 8 lo hi (.slice (some ⟨x8, o9, none⟩) ts.length cT) ts, rsl mchEnc 3 lo hi (.slice aM ms.length cM) ms, rbox w51.heap.size 3 #[.int .i64 (k : Int)], rsl intEnc 1 lo hi (.slice a_z z.af.length c_z) z.af, rsl intEnc 1 lon hin (.slice aN now.length cN) (ints now), rall LR] _ := F61.pick [3, 4, 5, 6, 7, 8, 9, 0, 11, 12, 13, 14, 1, 2, 10, 15] (by decide) rfl
     clear F61
     have Fh_ := Bun.hide (K := [rbox gf 4 #[.bool sk.found], rbox go 3 #[.int .i64 sk.open_], rbox gq 27 #[ov1], rown intEnc 3 1 b0 ov1 (ints sk.order), rbox gj 25 #[.slice aM ms.length cM, .slice (some ⟨x8, o9, none⟩) ts.length cT], rbox gd 26 #[.slice ad dl.length cd], rbox gt 143 #[.func (.func 94) #[] #[.pointer (some ⟨gj, 0, none⟩), .pointer (some ⟨gd, 0, none⟩), .pointer (some ⟨gf, 0, none⟩), .pointer (some ⟨go, 0, none⟩), .pointer (some ⟨gq, 0, none⟩), .pointer (some ⟨gt, 0, none⟩)]], rsl intEnc 1 g54 (g54 + 1) (.slice (some ⟨g54, 0, none⟩) (now.length + 1) cap55) (ints (now ++ [k])), rsl weaEnc 6 lo2 hi2 (.slice ad dl.length cd) dl, rafs lo hi ts, rsl tskEnc 8 lo hi (.slice (some ⟨x8, o9, none⟩) ts.length cT) ts, rsl mchEnc 3 lo hi (.slice aM ms.length cM) ms]) (l := [rbox w51.heap.size 3 #[.int .i64 (k : Int)], rsl intEnc 1 lo hi (.slice a_z z.af.length c_z) z.af, rsl intEnc 1 lon hin (.slice aN now.length cN) (ints now), rall LR]) F62
     have hl0_ : Bun w0 [rsl intEnc 1 g54 (g54 + 1) (.slice (some ⟨g54, 0, none⟩) (now.length + 1) cap55) (ints (now ++ [k])), rsl weaEnc 6 lo2 hi2 (.slice ad dl.length cd) dl, rafs lo hi ts, rsl tskEnc 8 lo hi (.slice (some ⟨x8, o9, none⟩) ts.length cT) ts, rsl mchEnc 3 lo hi (.slice aM ms.length cM) ms, rbox w51.heap.size 3 #[.int .i64 (k : Int)], rsl intEnc 1 lo hi (.slice a_z z.af.length c_z) z.af, rsl intEnc 1 lon hin (.slice aN now.length cN) (ints now), rall LR] _ := F62.pick [7, 8, 9, 10, 11, 12, 13, 14, 15] (by decide) rfl
     refine (IH.out _ _ [rbox w51.heap.size 3 #[.int .i64 (k : Int)], rsl intEnc 1 lo hi (.slice a_z z.af.length c_z) z.af, rsl intEnc 1 lon hin (.slice aN now.length cN) (ints now), rall LR] sk (now ++ [k]) g54 (g54 + 1) _ _ Fh_ hb0 (HOP.out.snoc (by omega) (by rw [HEX.out]; exact c44H.out)) (by have h_ := HLN.out; simp; omega)).mono ?_
     rintro e w63 ⟨ov2, rfl, Fr_, hsz_⟩
     have F64 : Bun w0 [rbox gf 4 #[.bool (tryS ms ts dl (ords ts f (now ++ [k])) sk).found], rbox go 3 #[.int .i64 (tryS ms ts dl (ords ts f (now ++ [k])) sk).open_], rbox gq 27 #[ov2], rown intEnc 3 1 b0 ov2 (ints (tryS ms ts dl (ords ts f (now ++ [k])) sk).order), rbox gj 25 #[.slice aM ms.length cM, .slice (some ⟨x8, o9, none⟩) ts.length cT], rbox gd 26 #[.slice ad dl.length cd], rbox gt 143 #[.func (.func 94) #[] #[.pointer (some ⟨gj, 0, none⟩), .pointer (some ⟨gd, 0, none⟩), .pointer (some ⟨gf, 0, none⟩), .pointer (some ⟨go, 0, none⟩), .pointer (some ⟨gq, 0, none⟩), .pointer (some ⟨gt, 0, none⟩)]], rsl intEnc 1 g54 (g54 + 1) (.slice (some ⟨g54, 0, none⟩) (now.length + 1) cap55) (ints (now ++ [k])), rsl weaEnc 6 lo2 hi2 (.slice ad dl.length cd) dl, rafs lo hi ts, rsl tskEnc 8 lo hi (.slice (some ⟨x8, o9, none⟩) ts.length cT) ts, rsl mchEnc 3 lo hi (.slice aM ms.length cM) ms, rbox w51.heap.size 3 #[.int .i64 (k : Int)], rsl intEnc 1 lo hi (.slice a_z z.af.length c_z) z.af, rsl intEnc 1 lon hin (.slice aN now.length cN) (ints now), rall LR] w63 := Bun.show (K := [rsl intEnc 1 g54 (g54 + 1) (.slice (some ⟨g54, 0, none⟩) (now.length + 1) cap55) (ints (now ++ [k])), rsl weaEnc 6 lo2 hi2 (.slice ad dl.length cd) dl, rafs lo hi ts, rsl tskEnc 8 lo hi (.slice (some ⟨x8, o9, none⟩) ts.length cT) ts, rsl mchEnc 3 lo hi (.slice aM ms.length cM) ms]) (l := [rbox w51.heap.size 3 #[.int .i64 (k : Int)], rsl intEnc 1 lo hi (.slice a_z z.af.length c_z) z.af, rsl intEnc 1 lon hin (.slice aN now.length cN) (ints now), rall LR]) (N := [rbox gf 4 #[.bool (tryS ms ts dl (ords ts f (now ++ [k])) sk).found], rbox go 3 #[.int .i64 (tryS ms ts dl (ords ts f (now ++ [k])) sk).open_], rbox gq 27 #[ov2], rown intEnc 3 1 b0 ov2 (ints (tryS ms ts dl (ords ts f (now ++ [k])) sk).order), rbox gj 25 #[.slice aM ms.length cM, .slice (some ⟨x8, o9, none⟩) ts.length cT], rbox gd 26 #[.slice ad dl.length cd], rbox gt 143 #[.func (.func 94) #[] #[.pointer (some ⟨gj, 0, none⟩), .pointer (some ⟨gd, 0, none⟩), .pointer (some ⟨gf, 0, none⟩), .pointer (some ⟨go, 0, none⟩), .pointer (some ⟨gq, 0, none⟩), .pointer (some ⟨gt, 0, none⟩)]]]) hl0_ Fr_ rfl
     have hwsF64 := hsz_
     clear Fr_ hsz_ Fh_ hl0_ F62
     refine ru_back_late hK (by kernel_rfl) ?_
     clear hK K
     (try simp only [lpX])
     refine ru_done (by kernel_rfl) ?_
     have Fn_ := (F64.drop 12 rfl)
     (try dsimp only [List.eraseIdx_cons_succ, List.eraseIdx_cons_zero] at Fn_)
     obtain ⟨w65, hx66, F68, hxs67⟩ := Fn_.name
     (try simp at hxs67)
     rw [hx66]
     clear hx66 F64 Fn_
     go_wp2_with fail
     have F69 : Bun w0 [rbox gf 4 #[.bool (tryS ms ts dl (ords ts f (now ++ [k])) sk).found], rbox go 3 #[.int .i64 (tryS ms ts dl (ords ts f (now ++ [k])) sk).open_], rbox gq 27 #[ov2], rown intEnc 3 1 b0 ov2 (ints (tryS ms ts dl (ords ts f (now ++ [k])) sk).order), rbox gj 25 #[.slice aM ms.length cM, .slice (some ⟨x8, o9, none⟩) ts.length cT], rbox gd 26 #[.slice ad dl.length cd], rbox gt 143 #[.func (.func 94) #[] #[.pointer (some ⟨gj, 0, none⟩), .pointer (some ⟨gd, 0, none⟩), .pointer (some ⟨gf, 0, none⟩), .pointer (some ⟨go, 0, none⟩), .pointer (some ⟨gq, 0, none⟩), .pointer (some ⟨gt, 0, none⟩)]], rsl intEnc 1 lon hin (.slice aN now.length cN) (ints now), rsl weaEnc 6 lo2 hi2 (.slice ad dl.length cd) dl, rafs lo hi ts, rsl tskEnc 8 lo hi (.slice (some ⟨x8, o9, none⟩) ts.length cT) ts, rsl mchEnc 3 lo hi (.slice aM ms.length cM) ms, rall LR] _ := F68.pick [0, 1, 2, 3, 4, 5, 6, 13, 8, 9, 10, 11, 14] (by decide) rfl
     clear F68
     (first | refine ⟨by kernel_rfl, ?_, ?_⟩ | refine ⟨rfl, ?_, ?_⟩ | refine ⟨?_, ?_⟩)
     · rw [HI3.out]; exact ⟨k + 1, (tryS ms ts dl (ords ts f (now ++ [k])) sk), _, (by kernel_rfl), (by kernel_rfl), (by kernel_rfl), (by kernel_rfl), (by show Value.int .i64 ((k : Int) + 1) = _; simp), (by omega), (lhd (by rw [ordK_yes (by rw [HEX.out]; exact c44H.out), tryS_app, HSK.out])), (by first | rfl | simp), (by first | omega | (simp; done) | (simp; omega)), F69⟩
     · simp [slot, intOf]; omega
    intro K hK
    go_simp
    replace F46 := F46.new 3 #[.int .i64 (k : Int)] (n := wd48.heap.size) (by simp)
    refine ru_back hK (by exact F46.q 8 0) (fun _ => ?_)
    clear hK K
    (try simp only [lpX])
    refine ru_one 2 rfl (by kernel_rfl) (fun K hK => ?_)
    go_simp
    refine (cloneI_c b0 0 _ _ (ints now) _ (F46.slY 9 rfl) (Nat.le_refl _) (by rw [ints_len]; omega) (Nat.le_trans hb0 F46.gb.size)).mono ?_
    rintro e w73 ⟨oc_, cc_, e_, hco_, hcx_, hg71⟩
    rw [ints_len] at e_ hco_ hcx_
    subst e_
    have hg71s := hg71.size
    (try simp at hg71s)
    replace F46 := F46.add (rown intEnc 3 1 b0 (.slice oc_ now.length cc_) (ints now)) hg71 (hco_) (fun g e => hcx_ g e)
    refine ru_back hK (by exact F46.q 9 0) (fun _ => ?_)
    clear hK K
    (try simp only [lpX])
    refine ru_one 5 rfl (by kernel_rfl) (fun K hK => ?_)
    refine step_app _ okInt rfl _ _ rfl b0 (.slice oc_ now.length cc_) (ints now) [(k : Int)] rfl (by exact (F46.at 0 rfl : Own intEnc 3 1 b0 _ (.slice oc_ now.length cc_) (ints now))) ⟨_, 0, none⟩ 1 1 rfl rfl (by decide) (news_of (F46.at 1 rfl : Bk _ wd48.heap.size 3 #[.int .i64 (k : Int)])) (now.length + 1) (by rw [ints_len]) (by omega) (by first | omega | (simp; omega)) _ rfl ?_
    intro g75 cap76 w77 hp78
    have hp78s := hp78.gb.size
    (try simp at hp78s)
    have F79 := (F46.front 0 rfl rfl).app hp78 (Nat.le_refl _)
    clear F46
    refine ru_back hK (by exact F79.q 9 0) (fun _ => ?_)
    clear hK K
    (try simp only [lpX])
    refine ru_one 6 rfl (by kernel_rfl) (fun K hK => ?_)
    go_simp
    replace F79 := F79.ownSl
    have F82 := F79
    rw [show ints now ++ [(k : Int)] = ints (now ++ [k]) by simp [ints]] at F82
    clear F79
    have F83 : Bun w0 [rbox gf 4 #[.bool sk.found], rbox go 3 #[.int .i64 sk.open_], rbox gq 27 #[ov1], rown intEnc 3 1 b0 ov1 (ints sk.order), rbox gj 25 #[.slice aM ms.length cM, .slice (some ⟨x8, o9, none⟩) ts.length cT], rbox gd 26 #[.slice ad dl.length cd], rbox gt 143 #[.func (.func 94) #[] #[.pointer (some ⟨gj, 0, none⟩), .pointer (some ⟨gd, 0, none⟩), .pointer (some ⟨gf, 0, none⟩), .pointer (some ⟨go, 0, none⟩), .pointer (some ⟨gq, 0, none⟩), .pointer (some ⟨gt, 0, none⟩)]], rsl intEnc 1 g75 (g75 + 1) (.slice (some ⟨g75, 0, none⟩) (now.length + 1) cap76) (ints (now ++ [k])), rsl weaEnc 6 lo2 hi2 (.slice ad dl.length cd) dl, rafs lo hi ts, rsl tskEnc 8 lo hi (.slice (some ⟨x8, o9, none⟩) ts.length cT) ts, rsl mchEnc 3 lo hi (.slice aM ms.length cM) ms, rbox wd48.heap.size 3 #[.int .i64 (k : Int)], rsl intEnc 1 lo hi (.slice a_z z.af.length c_z) z.af, rsl intEnc 1 lon hin (.slice aN now.length cN) (ints now), rall LR] _ := F82.pick [3, 4, 5, 6, 7, 8, 9, 0, 11, 12, 13, 14, 1, 2, 10, 15] (by decide) rfl
    clear F82
    have Fh_ := Bun.hide (K := [rbox gf 4 #[.bool sk.found], rbox go 3 #[.int .i64 sk.open_], rbox gq 27 #[ov1], rown intEnc 3 1 b0 ov1 (ints sk.order), rbox gj 25 #[.slice aM ms.length cM, .slice (some ⟨x8, o9, none⟩) ts.length cT], rbox gd 26 #[.slice ad dl.length cd], rbox gt 143 #[.func (.func 94) #[] #[.pointer (some ⟨gj, 0, none⟩), .pointer (some ⟨gd, 0, none⟩), .pointer (some ⟨gf, 0, none⟩), .pointer (some ⟨go, 0, none⟩), .pointer (some ⟨gq, 0, none⟩), .pointer (some ⟨gt, 0, none⟩)]], rsl intEnc 1 g75 (g75 + 1) (.slice (some ⟨g75, 0, none⟩) (now.length + 1) cap76) (ints (now ++ [k])), rsl weaEnc 6 lo2 hi2 (.slice ad dl.length cd) dl, rafs lo hi ts, rsl tskEnc 8 lo hi (.slice (some ⟨x8, o9, none⟩) ts.length cT) ts, rsl mchEnc 3 lo hi (.slice aM ms.length cM) ms]) (l := [rbox wd48.heap.size 3 #[.int .i64 (k : Int)], rsl intEnc 1 lo hi (.slice a_z z.af.length c_z) z.af, rsl intEnc 1 lon hin (.slice aN now.length cN) (ints now), rall LR]) F83
    have hl0_ : Bun w0 [rsl intEnc 1 g75 (g75 + 1) (.slice (some ⟨g75, 0, none⟩) (now.length + 1) cap76) (ints (now ++ [k])), rsl weaEnc 6 lo2 hi2 (.slice ad dl.length cd) dl, rafs lo hi ts, rsl tskEnc 8 lo hi (.slice (some ⟨x8, o9, none⟩) ts.length cT) ts, rsl mchEnc 3 lo hi (.slice aM ms.length cM) ms, rbox wd48.heap.size 3 #[.int .i64 (k : Int)], rsl intEnc 1 lo hi (.slice a_z z.af.length c_z) z.af, rsl intEnc 1 lon hin (.slice aN now.length cN) (ints now), rall LR] _ := F83.pick [7, 8, 9, 10, 11, 12, 13, 14, 15] (by decide) rfl
    refine (IH.out _ _ [rbox wd48.heap.size 3 #[.int .i64 (k : Int)], rsl intEnc 1 lo hi (.slice a_z z.af.length c_z) z.af, rsl intEnc 1 lon hin (.slice aN now.length cN) (ints now), rall LR] sk (now ++ [k]) g75 (g75 + 1) _ _ Fh_ hb0 (HOP.out.snoc (by omega) (by rw [HEX.out]; exact c44H.out)) (by have h_ := HLN.out; simp; omega)).mono ?_
    rintro e w84 ⟨ov2, rfl, Fr_, hsz_⟩
    have F85 : Bun w0 [rbox gf 4 #[.bool (tryS ms ts dl (ords ts f (now ++ [k])) sk).found], rbox go 3 #[.int .i64 (tryS ms ts dl (ords ts f (now ++ [k])) sk).open_], rbox gq 27 #[ov2], rown intEnc 3 1 b0 ov2 (ints (tryS ms ts dl (ords ts f (now ++ [k])) sk).order), rbox gj 25 #[.slice aM ms.length cM, .slice (some ⟨x8, o9, none⟩) ts.length cT], rbox gd 26 #[.slice ad dl.length cd], rbox gt 143 #[.func (.func 94) #[] #[.pointer (some ⟨gj, 0, none⟩), .pointer (some ⟨gd, 0, none⟩), .pointer (some ⟨gf, 0, none⟩), .pointer (some ⟨go, 0, none⟩), .pointer (some ⟨gq, 0, none⟩), .pointer (some ⟨gt, 0, none⟩)]], rsl intEnc 1 g75 (g75 + 1) (.slice (some ⟨g75, 0, none⟩) (now.length + 1) cap76) (ints (now ++ [k])), rsl weaEnc 6 lo2 hi2 (.slice ad dl.length cd) dl, rafs lo hi ts, rsl tskEnc 8 lo hi (.slice (some ⟨x8, o9, none⟩) ts.length cT) ts, rsl mchEnc 3 lo hi (.slice aM ms.length cM) ms, rbox wd48.heap.size 3 #[.int .i64 (k : Int)], rsl intEnc 1 lo hi (.slice a_z z.af.length c_z) z.af, rsl intEnc 1 lon hin (.slice aN now.length cN) (ints now), rall LR] w84 := Bun.show (K := [rsl intEnc 1 g75 (g75 + 1) (.slice (some ⟨g75, 0, none⟩) (now.length + 1) cap76) (ints (now ++ [k])), rsl weaEnc 6 lo2 hi2 (.slice ad dl.length cd) dl, rafs lo hi ts, rsl tskEnc 8 lo hi (.slice (some ⟨x8, o9, none⟩) ts.length cT) ts, rsl mchEnc 3 lo hi (.slice aM ms.length cM) ms]) (l := [rbox wd48.heap.size 3 #[.int .i64 (k : Int)], rsl intEnc 1 lo hi (.slice a_z z.af.length c_z) z.af, rsl intEnc 1 lon hin (.slice aN now.length cN) (ints now), rall LR]) (N := [rbox gf 4 #[.bool (tryS ms ts dl (ords ts f (now ++ [k])) sk).found], rbox go 3 #[.int .i64 (tryS ms ts dl (ords ts f (now ++ [k])) sk).open_], rbox gq 27 #[ov2], rown intEnc 3 1 b0 ov2 (ints (tryS ms ts dl (ords ts f (now ++ [k])) sk).order), rbox gj 25 #[.slice aM ms.length cM, .slice (some ⟨x8, o9, none⟩) ts.length cT], rbox gd 26 #[.slice ad dl.length cd], rbox gt 143 #[.func (.func 94) #[] #[.pointer (some ⟨gj, 0, none⟩), .pointer (some ⟨gd, 0, none⟩), .pointer (some ⟨gf, 0, none⟩), .pointer (some ⟨go, 0, none⟩), .pointer (some ⟨gq, 0, none⟩), .pointer (some ⟨gt, 0, none⟩)]]]) hl0_ Fr_ rfl
    have hwsF85 := hsz_
    clear Fr_ hsz_ Fh_ hl0_ F83
    refine ru_back_late hK (by kernel_rfl) ?_
    clear hK K
    (try simp only [lpX])
    refine ru_done (by kernel_rfl) ?_
    have Fn_ := (F85.drop 12 rfl)
    (try dsimp only [List.eraseIdx_cons_succ, List.eraseIdx_cons_zero] at Fn_)
    obtain ⟨w86, hx87, F89, hxs88⟩ := Fn_.name
    (try simp at hxs88)
    rw [hx87]
    clear hx87 F85 Fn_
    go_wp2_with fail
    have F90 : Bun w0 [rbox gf 4 #[.bool (tryS ms ts dl (ords ts f (now ++ [k])) sk).found], rbox go 3 #[.int .i64 (tryS ms ts dl (ords ts f (now ++ [k])) sk).open_], rbox gq 27 #[ov2], rown intEnc 3 1 b0 ov2 (ints (tryS ms ts dl (ords ts f (now ++ [k])) sk).order), rbox gj 25 #[.slice aM ms.length cM, .slice (some ⟨x8, o9, none⟩) ts.length cT], rbox gd 26 #[.slice ad dl.length cd], rbox gt 143 #[.func (.func 94) #[] #[.pointer (some ⟨gj, 0, none⟩), .pointer (some ⟨gd, 0, none⟩), .pointer (some ⟨gf, 0, none⟩), .pointer (some ⟨go, 0, none⟩), .pointer (some ⟨gq, 0, none⟩), .pointer (some ⟨gt, 0, none⟩)]], rsl intEnc 1 lon hin (.slice aN now.length cN) (ints now), rsl weaEnc 6 lo2 hi2 (.slice ad dl.length cd) dl, rafs lo hi ts, rsl tskEnc 8 lo hi (.slice (some ⟨x8, o9, none⟩) ts.length cT) ts, rsl mchEnc 3 lo hi (.slice aM ms.length cM) ms, rall LR] _ := F89.pick [0, 1, 2, 3, 4, 5, 6, 13, 8, 9, 10, 11, 14] (by decide) rfl
    clear F89
    (first | refine ⟨by kernel_rfl, ?_, ?_⟩ | refine ⟨rfl, ?_, ?_⟩ | refine ⟨?_, ?_⟩)
    · rw [HI3.out]; exact ⟨k + 1, (tryS ms ts dl (ords ts f (now ++ [k])) sk), _, (by kernel_rfl), (by kernel_rfl), (by kernel_rfl), (by kernel_rfl), (by show Value.int .i64 ((k : Int) + 1) = _; simp), (by omega), (lhd (by rw [ordK_yes (by rw [HEX.out]; exact c44H.out), tryS_app, HSK.out])), (by first | rfl | simp), (by first | omega | (simp; done) | (simp; omega)), F90⟩
    · simp [slot, intOf]; omega
   case atStart5 =>
    rw [HI27.out]
    exact ⟨0, !(hasI (ints now) (k : Int)), (by kernel_rfl), (by kernel_rfl), (by kernel_rfl), rfl, by (iterate 5 refine ⟨by kernel_rfl, ?_⟩); exact ⟨rfl, Nat.zero_le _, (lhd (by unfold dB; simp)), rfl, (by first | exact Nat.le_refl _ | omega | (simp; done) | (simp; omega)), (F11.drop 0 rfl)⟩⟩
  have c7H := lhd c7
  have c7a : decide ((k : Int) < (ts.length : Int)) = false := dec_f c7
  go_wp2_with fail
  have F91 : Bun w0 [rbox gf 4 #[.bool sk.found], rbox go 3 #[.int .i64 sk.open_], rbox gq 27 #[ov1], rown intEnc 3 1 b0 ov1 (ints sk.order), rbox gj 25 #[.slice aM ms.length cM, .slice aT ts.length cT], rbox gd 26 #[.slice ad dl.length cd], rbox gt 143 #[.func (.func 94) #[] #[.pointer (some ⟨gj, 0, none⟩), .pointer (some ⟨gd, 0, none⟩), .pointer (some ⟨gf, 0, none⟩), .pointer (some ⟨go, 0, none⟩), .pointer (some ⟨gq, 0, none⟩), .pointer (some ⟨gt, 0, none⟩)]], rsl intEnc 1 lon hin (.slice aN now.length cN) (ints now), rsl weaEnc 6 lo2 hi2 (.slice ad dl.length cd) dl, rafs lo hi ts, rsl tskEnc 8 lo hi (.slice aT ts.length cT) ts, rsl mchEnc 3 lo hi (.slice aM ms.length cM) ms, rall LR] _ := hF4.pick [0, 1, 2, 3, 4, 5, 6, 7, 8, 9, 10, 11, 12] (by decide) rfl
  clear hF4
  exact bodyPost_end (v := .tuple #[]) (by simp [results, Try.results94, go_sem]) rfl (by first | exact ⟨_, rfl, (by have h_ := HSK.out; rw [show k = ts.length by omega, ordK_all] at h_; rw [h_]; exact F91), (by first | omega | (simp; omega))⟩ | exact ⟨rfl, _, (by have h_ := HSK.out; rw [show k = ts.length by omega, ordK_all] at h_; rw [h_]; exact F91), (by first | omega | (simp; omega))⟩ | exact ⟨rfl, ⟨_, (by have h_ := HSK.out; rw [show k = ts.length by omega, ordK_all] at h_; rw [h_]; exact F91)⟩, (by first | omega | (simp; omega))⟩)
 case atStart4 =>
  rw [HI3.out]
  exact ⟨0, s, _, (by kernel_rfl), (by kernel_rfl), (by kernel_rfl), (by kernel_rfl), rfl, Nat.zero_le _, (lhd rfl), rfl, (by first | exact Nat.le_refl _ | omega | (simp; done) | (simp; omega)), F0_⟩
end Go.Proofs.Ytokelpmngahnoaa
/- build: the best order. -/
namespace Go.Proofs.Ytokelpmngahnoaa
open Go.RowKit
set_option maxRecDepth 100000
attribute [local go_sem] Oper.semAt_some
attribute [local go_sem] run_store_fn
theorem tryP_all (b0 lo hi lo2 hi2 gf go gq gj gd gt : Nat) (aM aT ad : Option Addr) (cM cT cd : Nat) (ms : List Mch) (ts : List Tsk) (dl : List Wea) (hok : JobOk ms ts) (hn : dl.length <= 400) : ∀ f : Nat, TryP b0 lo hi lo2 hi2 gf go gq gj gd gt aM aT ad cM cT cd ms ts dl f
 | 0 => fun w0 w LR s now lon hin vn ov hB hb0 hop hln => best1_leaf w0 b0 lo hi lo2 hi2 gf go gq gj gd gt aM aT ad cM cT cd ms ts dl LR s now lon hin vn ov w hB hb0 hop hok hn (by omega)
 | f + 1 => fun w0 w LR s now lon hin vn ov hB hb0 hop hln => best1_in w0 b0 lo hi lo2 hi2 gf go gq gj gd gt aM aT ad cM cT cd ms ts dl LR s now lon hin vn ov f w hB hb0 hop hok hn (tryP_all b0 lo hi lo2 hi2 gf go gq gj gd gt aM aT ad cM cT cd ms ts dl hok hn f) (by omega)
theorem Bun.nilSl {w0 A : World} {L : List Res} (h : Bun w0 L A) : Bun w0 (rsl intEnc 1 A.heap.size A.heap.size (.slice none 0 0) ([] : List Int) :: L) A :=
 h.add (rsl intEnc 1 A.heap.size A.heap.size (.slice none 0 0) ([] : List Int)) (gb_refl _ _) ((Own.nil intEnc 3 1 A.heap.size A).sl (fun _ => rfl)) fun g e => by
  have h2 : A.heap.size <= g /\ g < A.heap.size := e
  omega
def bstE (ms : List Mch) (ts : List Tsk) (dl : List Wea) : Int := if ¬ bothErr ms ts dl = 0 then bothErr ms ts dl else if 6 < ts.length then 8 else 0
def bstO (ms : List Mch) (ts : List Tsk) (dl : List Wea) : List Nat := if bstE ms ts dl = 0 then (bestS ms ts dl).order else []
def bstH (ms : List Mch) (ts : List Tsk) (dl : List Wea) : Int := if bstE ms ts dl = 0 then (bestS ms ts dl).open_ else 0
def BestR (ms : List Mch) (ts : List Tsk) (dl : List Wea) (w : World) : Ending -> World -> Prop := fun e w' => ∃ (a : Option Addr) (cp lo hi : Nat), e = .returned (.tuple #[.slice a (bstO ms ts dl).length cp, .int .i64 (bstH ms ts dl), .int .i64 (bstE ms ts dl)]) ∧
 ((w.heap.size <= lo /\ hi <= w'.heap.size) /\ (bstO ms ts dl).length <= cp) /\ Sl intEnc 1 lo hi w' (.slice a (bstO ms ts dl).length cp) (ints (bstO ms ts dl)) /\ w.grownBy w' none
theorem BestR.yes {ms : List Mch} {ts : List Tsk} {dl : List Wea} {w w' : World} {e : Ending} {v : Value} {s : BS} (h : bothErr ms ts dl = 0) (h6 : ¬ 6 < ts.length) (hs : bestS ms ts dl = s) (ho : Own intEnc 3 1 w.heap.size w' v (ints s.order)) (hg : w.grownBy w' none)
  (he : e = .returned (.tuple #[v, .int .i64 s.open_, .int .i64 0])) : BestR ms ts dl w e w' := by
 subst hs
 have e0 : bstE ms ts dl = 0 := by unfold bstE; rw [if_neg (not_not_intro h), if_neg h6]
 have e1 : bstO ms ts dl = (bestS ms ts dl).order := by rw [bstO, if_pos e0]
 have e2 : bstH ms ts dl = (bestS ms ts dl).open_ := by rw [bstH, if_pos e0]
 have hcp := own_cap ho
 obtain ⟨a, cp, rfl, hs⟩ := Own.slN ho (fun _ => rfl) (ints_len _)
 unfold BestR
 rw [e1, e2, e0]
 exact ⟨a, cp, _, _, he, ⟨⟨Nat.le_refl _, Nat.le_refl _⟩, hcp⟩, hs, hg⟩
theorem BestR.no {ms : List Mch} {ts : List Tsk} {dl : List Wea} {w w' : World} {e : Ending} {x : Int} (h : bstE ms ts dl = x) (hx : ¬ x = 0) (hg : w.grownBy w' none) (he : e = .returned (.tuple #[.slice none 0 0, .int .i64 0, .int .i64 x])) : BestR ms ts dl w e w' := by
 subst h
 have e1 : bstO ms ts dl = [] := by rw [bstO, if_neg hx]
 have e2 : bstH ms ts dl = 0 := by rw [bstH, if_neg hx]
 unfold BestR
 rw [e1, e2]
 exact ⟨none, 0, w.heap.size, w.heap.size, he, ⟨⟨Nat.le_refl _, hg.size⟩, Nat.le_refl _⟩, Sl.of_nil _ _, hg⟩
set_option maxHeartbeats 16000000 in
theorem best_c (lo hi : Nat) (vm vt : Value) (ms : List Mch) (ts : List Tsk) (lo2 hi2 : Nat) (vd : Value) (dl : List Wea) (w : World) (hj : JobAt lo hi w vm vt ms ts) (h2 : hi <= w.heap.size) (hd : Sl weaEnc 6 lo2 hi2 w vd dl) (h3 : hi2 <= w.heap.size) :
  Calls Try.prog 46 #[.agg #[vm, vt], vd] w (BestR ms ts dl w) := by
 have F1 : Bun w [] w := Bun.nil _
 obtain ⟨hms, hts, haf⟩ := hj
 have hm_ms := hms.len
 unfold maxLen at hm_ms
 obtain ⟨aM, cM, rfl⟩ := hms.any
 replace F1 := F1.sl0 hms h2 rfl
 clear hms
 have hm_ts := hts.len
 unfold maxLen at hm_ts
 obtain ⟨aT, cT, rfl⟩ := hts.any
 replace F1 := F1.sl0 hts h2 rfl
 clear hts
 replace F1 := F1.non0 (rafs lo hi ts) haf (fun _ h_ => Nat.lt_of_lt_of_le h_.2 h2) rfl rfl
 clear haf
 have hm_ds := hd.len
 unfold maxLen at hm_ds
 obtain ⟨ad, cd, rfl⟩ := hd.any
 replace F1 := F1.sl0 hd h3 rfl
 clear hd
 go_enter Try.func46, Try.ntmps46
 go_wp2_with fail
 replace F1 := F1.new 25 #[.slice aM ms.length cM, .slice aT ts.length cT] (n := w.heap.size) (by simp)
 replace F1 := F1.new 26 #[.slice ad dl.length cd] (n := (w.heap.size + 1)) (by simp)
 replace F1 := F1.new 27 #[.slice none 0 0] (n := (w.heap.size + 2)) (by simp)
 replace F1 := F1.new 3 #[.int .i64 0] (n := (w.heap.size + 3)) (by simp)
 refine (bcheckAll_c lo hi _ _ ms ts lo2 hi2 _ dl _ (JobAt.mk (F1.at 7 rfl : Sl mchEnc 3 lo hi _ (.slice aM ms.length cM) ms) (F1.at 6 rfl : Sl tskEnc 8 lo hi _ (.slice aT ts.length cT) ts) (F1.at 5 rfl : Afs lo hi _ ts)) (Nat.le_trans h2 F1.gb.size) (F1.at 4 rfl : Sl weaEnc 6 lo2 hi2 _ (.slice ad dl.length cd) dl) (Nat.le_trans h3 F1.gb.size)).mono ?_
 rintro e w12 ⟨rfl, hg10⟩
 have hg10s := hg10.size
 (try simp at hg10s)
 replace F1 := F1.gn hg10
 clear hg10
 by_cases c14 : bothErr ms ts dl = 0
 ·
  have c14a : ((bothErr ms ts dl) == 0) = true := beq_t c14
  have c14b : ((bothErr ms ts dl) != 0) = false := bne_f c14
  have c14H := lhd c14
  clear c14
  have HOK := lhd (bothOk c14H.out)
  have hnt := HOK.out.1.nt
  by_cases c15 : 6 < (ts.length : Int)
  ·
   have c15H := lhd c15
   have b16 := F1.bx1 0 rfl
   have b17 := F1.bx1 1 rfl
   have b18 := F1.bx2 3 rfl
   go_wp2_with fail
   clear b16 b17 b18
   have F19 := ((F1.front 1 rfl rfl).set 0 (.slice none 0 0)).nf #[.slice none 0 0] rfl
   clear F1
   have F20 := ((F19.front 1 rfl rfl).set 0 (.int .i64 0)).nf #[.int .i64 0] rfl
   clear F19
   have kb21 := F20.bx1 1 rfl
   have kb22 := F20.bx1 0 rfl
   go_wp2_with fail
   exact bodyPost_ret (v := .tuple #[.slice none 0 0, .int .i64 0, .int .i64 8]) (by simp [results, Try.results46, go_sem, kb21, kb22]) rfl ((BestR.no (show bstE ms ts dl = 8 by unfold bstE; rw [if_neg (not_not_intro c14H.out), if_pos (by omega)]) (by decide) F20.gb rfl))
  have c15H := lhd c15
  have c15a : decide (6 < (ts.length : Int)) = false := dec_f c15
  have b23 := F1.bx2 3 rfl
  go_wp2_with fail
  clear b23
  replace F1 := F1.new 4 #[.bool false] (n := w12.heap.size) (by simp)
  replace F1 := F1.new 143 #[.func (.func 94) #[] #[.pointer (some ⟨w.heap.size, 0, none⟩), .pointer (some ⟨w.heap.size + 1, 0, none⟩), .pointer (some ⟨w12.heap.size, 0, none⟩), .pointer (some ⟨w.heap.size + 3, 0, none⟩), .pointer (some ⟨w.heap.size + 2, 0, none⟩), .pointer (some ⟨w12.heap.size + 1, 0, none⟩)]] (n := (w12.heap.size + 1)) (by simp)
  have Fn_ := F1
  (try dsimp only [List.eraseIdx_cons_succ, List.eraseIdx_cons_zero] at Fn_)
  obtain ⟨w26, hx27, F29, hxs28⟩ := Fn_.name
  (try simp at hxs28)
  rw [hx27]
  clear hx27 F1 Fn_
  have F30 := (F29.nilrow intEnc 3 1)
  clear F29
  replace F30 := F30.nilSl
  have F32 : Bun w [rbox w12.heap.size 4 #[.bool false], rbox (w.heap.size + 3) 3 #[.int .i64 0], rbox (w.heap.size + 2) 27 #[.slice none 0 0], rown intEnc 3 1 w.heap.size (.slice none 0 0) [], rbox w.heap.size 25 #[.slice aM ms.length cM, .slice aT ts.length cT], rbox (w.heap.size + 1) 26 #[.slice ad dl.length cd], rbox (w12.heap.size + 1) 143 #[.func (.func 94) #[] #[.pointer (some ⟨w.heap.size, 0, none⟩), .pointer (some ⟨w.heap.size + 1, 0, none⟩), .pointer (some ⟨w12.heap.size, 0, none⟩), .pointer (some ⟨w.heap.size + 3, 0, none⟩), .pointer (some ⟨w.heap.size + 2, 0, none⟩), .pointer (some ⟨w12.heap.size + 1, 0, none⟩)]], rsl intEnc 1 w26.heap.size w26.heap.size (.slice none 0 0) [], rsl weaEnc 6 lo2 hi2 (.slice ad dl.length cd) dl, rafs lo hi ts, rsl tskEnc 8 lo hi (.slice aT ts.length cT) ts, rsl mchEnc 3 lo hi (.slice aM ms.length cM) ms] _ := F30.pick [3, 4, 5, 1, 7, 6, 2, 0, 8, 9, 10, 11] (by decide) rfl
  clear F30
  refine (tryP_all w.heap.size lo hi lo2 hi2 w12.heap.size (w.heap.size + 3) (w.heap.size + 2) w.heap.size (w.heap.size + 1) (w12.heap.size + 1) aM aT ad cM cT cd ms ts dl HOK.out.1 HOK.out.2 ts.length w _ [] ⟨false, [], 0⟩ [] _ _ _ _ (Bun.hide (K := [rbox w12.heap.size 4 #[.bool false], rbox (w.heap.size + 3) 3 #[.int .i64 0], rbox (w.heap.size + 2) 27 #[.slice none 0 0], rown intEnc 3 1 w.heap.size (.slice none 0 0) [], rbox w.heap.size 25 #[.slice aM ms.length cM, .slice aT ts.length cT], rbox (w.heap.size + 1) 26 #[.slice ad dl.length cd], rbox (w12.heap.size + 1) 143 #[.func (.func 94) #[] #[.pointer (some ⟨w.heap.size, 0, none⟩), .pointer (some ⟨w.heap.size + 1, 0, none⟩), .pointer (some ⟨w12.heap.size, 0, none⟩), .pointer (some ⟨w.heap.size + 3, 0, none⟩), .pointer (some ⟨w.heap.size + 2, 0, none⟩), .pointer (some ⟨w12.heap.size + 1, 0, none⟩)]], rsl intEnc 1 w26.heap.size w26.heap.size (.slice none 0 0) [], rsl weaEnc 6 lo2 hi2 (.slice ad dl.length cd) dl, rafs lo hi ts, rsl tskEnc 8 lo hi (.slice aT ts.length cT) ts, rsl mchEnc 3 lo hi (.slice aM ms.length cM) ms]) (l := []) F32) (Nat.le_refl _) (OrdP.nil ts) (by simp)).mono ?_
  rintro e w33 ⟨ov2, rfl, Fr_, hsz_⟩
  obtain ⟨s2, hs2⟩ : ∃ s_, tryS ms ts dl (ords ts ts.length []) ⟨false, [], 0⟩ = s_ := ⟨_, rfl⟩
  rw [hs2] at Fr_
  have HBS : Hid (bestS ms ts dl = s2) := lhd hs2
  have F34 : Bun w [rbox w12.heap.size 4 #[.bool s2.found], rbox (w.heap.size + 3) 3 #[.int .i64 s2.open_], rbox (w.heap.size + 2) 27 #[ov2], rown intEnc 3 1 w.heap.size ov2 (ints s2.order), rbox w.heap.size 25 #[.slice aM ms.length cM, .slice aT ts.length cT], rbox (w.heap.size + 1) 26 #[.slice ad dl.length cd], rbox (w12.heap.size + 1) 143 #[.func (.func 94) #[] #[.pointer (some ⟨w.heap.size, 0, none⟩), .pointer (some ⟨w.heap.size + 1, 0, none⟩), .pointer (some ⟨w12.heap.size, 0, none⟩), .pointer (some ⟨w.heap.size + 3, 0, none⟩), .pointer (some ⟨w.heap.size + 2, 0, none⟩), .pointer (some ⟨w12.heap.size + 1, 0, none⟩)]], rsl intEnc 1 w26.heap.size w26.heap.size (.slice none 0 0) [], rsl weaEnc 6 lo2 hi2 (.slice ad dl.length cd) dl, rafs lo hi ts, rsl tskEnc 8 lo hi (.slice aT ts.length cT) ts, rsl mchEnc 3 lo hi (.slice aM ms.length cM) ms] w33 := Fr_.pick [0, 1, 2, 3, 4, 5, 6, 7, 8, 9, 10, 11] (by decide) rfl
  have hwsF34 := F34.gb.size
  clear hs2 hsz_ Fr_ F32
  obtain ⟨oa_, oc_, e_⟩ := (Own.sl (F34.at 3 rfl : Own intEnc 3 1 w.heap.size _ ov2 (ints s2.order)) (fun _ => rfl)).any
  subst e_
  go_wp2_with fail
  replace F34 := F34.drew
  refine ru_begin (fun W => W.cell? ⟨(w.heap.size + 3), 0, none⟩ = some (.int .i64 s2.open_)) 3 (by kernel_rfl) ?_ ?_
  · exact F34.q 1 0
  obtain ⟨wd37, hwd_⟩ : ∃ x : World, w33.drew = x := ⟨_, rfl⟩
  rw [hwd_] at F34 ⊢
  have wd37s : w33.heap.size <= wd37.heap.size := by rw [← hwd_]; exact Nat.le_refl _
  clear hwd_
  have hS36 := (F34.q 1 0)
  refine ru_t 1 [] ?_
  (try simp only [lpX])
  clear hS36
  refine ru_one 0 rfl (by kernel_rfl) (fun K hK => ?_)
  have kq0_ : World.cell? _ ⟨(w.heap.size + 2), 0, none⟩ = some (.slice oa_ (ints s2.order).length oc_) := F34.q 2 0
  go_simp
  clear kq0_
  refine ru_back hK (by exact F34.q 1 0) (fun _ => ?_)
  clear hK K
  (try simp only [lpX])
  refine ru_one 2 rfl (by kernel_rfl) (fun K hK => ?_)
  have kb_ := F34.bx1 2 rfl
  go_simp
  clear kb_
  have F38 := ((F34.front 2 rfl rfl).set 0 (.slice oa_ ((ints s2.order).length) oc_)).nf #[.slice oa_ ((ints s2.order).length) oc_] rfl
  clear F34
  refine ru_back hK (by exact F38.q 2 0) (fun _ => ?_)
  clear hK K
  (try simp only [lpX])
  refine ru_one 3 rfl (by kernel_rfl) (fun K hK => ?_)
  have kb_ := F38.bx1 2 rfl
  go_simp
  clear kb_
  have F39 := ((F38.front 2 rfl rfl).set 0 (.int .i64 s2.open_)).nf #[.int .i64 s2.open_] rfl
  clear F38
  refine ru_back_late hK (by kernel_rfl) ?_
  clear hK K
  (try simp only [lpX])
  refine ru_one 4 rfl (by kernel_rfl) (fun K hK => ?_)
  go_simp
  refine ru_back_late hK (by kernel_rfl) ?_
  clear hK K
  (try simp only [lpX])
  refine ru_done (by kernel_rfl) ?_
  have Fn_ := ((((F39.drop 2 rfl).drop 3 rfl).drop 3 rfl).drop 3 rfl)
  (try dsimp only [List.eraseIdx_cons_succ, List.eraseIdx_cons_zero] at Fn_)
  obtain ⟨w40, hx41, F43, hxs42⟩ := Fn_.name
  (try simp at hxs42)
  rw [hx41]
  clear hx41 F39 Fn_
  go_wp2_with fail
  have kb44 := F43.bx1 1 rfl
  have kb45 := F43.bx1 0 rfl
  go_wp2_with fail
  exact bodyPost_ret (v := .tuple #[.slice oa_ ((ints s2.order).length) oc_, .int .i64 s2.open_, .int .i64 0]) (by simp [results, Try.results46, go_sem, kb44, kb45]) rfl ((BestR.yes c14H.out (by omega) HBS.out (F43.at 2 rfl : Own intEnc 3 1 w.heap.size _ (.slice oa_ (ints s2.order).length oc_) (ints s2.order)) F43.gb rfl))
 have c14a : ((bothErr ms ts dl) == 0) = false := beq_f c14
 have c14b : ((bothErr ms ts dl) != 0) = true := bne_t c14
 have c14H := lhd c14
 clear c14
 have b46 := F1.bx1 0 rfl
 have b47 := F1.bx1 1 rfl
 go_wp2_with fail
 clear b46 b47
 have F48 := ((F1.front 1 rfl rfl).set 0 (.slice none 0 0)).nf #[.slice none 0 0] rfl
 clear F1
 have F49 := ((F48.front 1 rfl rfl).set 0 (.int .i64 0)).nf #[.int .i64 0] rfl
 clear F48
 have kb50 := F49.bx1 1 rfl
 have kb51 := F49.bx1 0 rfl
 go_wp2_with fail
 exact bodyPost_ret (v := .tuple #[.slice none 0 0, .int .i64 0, .int .i64 (bothErr ms ts dl)]) (by simp [results, Try.results46, go_sem, kb50, kb51]) rfl ((BestR.no (show bstE ms ts dl = bothErr ms ts dl by unfold bstE; rw [if_pos c14H.out]) c14H.out F49.gb rfl))
end Go.Proofs.Ytokelpmngahnoaa
