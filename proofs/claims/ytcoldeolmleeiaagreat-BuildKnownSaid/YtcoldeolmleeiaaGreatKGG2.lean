/- build: jobs that are made: tasks whose slices are rows of their own; what has no error. -/
import Derived.Test.YtcoldeolmleeiaaGreatKJ3
import Derived.Test.YtcoldeolmleeiaaGreatKK1
import Derived.Test.YtcoldeolmleeiaaGreatKJ10
import Derived.Test.YtcoldeolmleeiaaGreatKKW
import Derived.Test.YtcoldeolmleeiaaGreatKKC
set_option linter.unusedVariables false
set_option linter.unusedSimpArgs false
set_option linter.unnecessarySimpa false
namespace Go.Proofs.YtcoldeolmleeiaaGreat
open Go.RowKit
set_option maxRecDepth 100000
def sliceB : Value -> Bool
 | .slice _ _ _ => true
 | _ => false
theorem infoTsk : (Tryz.prog.info? 34).map (fun i => (i.zero, i.size, i.bytes)) = some (some (.agg #[.int .i64 0, .int .i64 0, .int .i64 0, .int .i64 0, .int .i64 0, .int .i64 0, .int .i64 0, .slice none 0 0]), 8, 80) := by kernel_rfl
def tskEncS (t : Tsk) : List Value := [.int .i64 t.m, .int .i64 t.ho.lo, .int .i64 t.ho.hi, .int .i64 t.wa.lo, .int .i64 t.wa.hi, .int .i64 t.fr.lo, .int .i64 t.fr.hi, if sliceB t.av = true then t.av else .slice none 0 0]
theorem okTskS : ElemOk Tryz.prog 23 34 8 80 tskEncS where
 under := Tryz.underlying23
 info := info5 infoTsk rfl
 pos := by omega
 small := by omega
 len := fun _ => rfl
 one := fun x u hu => by
  simp only [tskEncS, List.mem_cons, List.not_mem_nil, or_false] at hu
  rcases hu with rfl | rfl | rfl | rfl | rfl | rfl | rfl | rfl
  all_goals first | rfl | skip
  cases hv : x.av <;> simp [sliceB] <;> rfl
theorem own_cap {α : Type} {enc : α -> List Value} {e : TypeId} {sz base : Nat} {w : World} {v : Value} {l : List α} (h : Own enc e sz base w v l) : CapOk v := by
 obtain ⟨h0, h2⟩ := h
 rcases h2 with ⟨e2, hn⟩ | ⟨g, cap, cur, e2, hb, hh, hnc, hcm, hcs, htk⟩
 · rw [e2]; exact Nat.le_refl _
 · rw [e2]; exact hnc
theorem encS {t : Tsk} (h : sliceB t.av = true) : tskEncS t = tskEnc t := by unfold tskEncS tskEnc; rw [if_pos h]
theorem Bus.nilrow {α : Type} (enc : α -> List Value) (e : TypeId) (sz : Nat) {w0 A : World} {sd : Nat} {L : List Res} (h : Bus w0 sd L A) : Bus w0 sd (rown enc e sz w0.heap.size (.slice none 0 0) [] :: L) A :=
 h.add (rown enc e sz w0.heap.size (.slice none 0 0) []) (gb_refl _ _) (Own.nil _ _ _ _ _) fun g e => by cases e
def rafo (base : Nat) (l : List Tsk) : Res :=
 ⟨true, fun x => ∃ t ∈ l, t.av.ownBlock = some x, fun w => ∀ t ∈ l, Own intEnc 3 1 base w t.av t.af, fun _ _ _ hg hr h t ht => Own.gb (h t ht) hg (fun k e e' => hr k e ⟨t, ht, e'⟩)⟩
section
variable {w0 A B : World} {L : List Res} {sd base : Nat}
theorem Bus.afo0 (h : Bus w0 sd L A) (base : Nat) : Bus w0 sd (rafo base [] :: L) A :=
 h.add (rafo base []) (gb_refl _ _) (fun t ht => by cases ht) (fun g ⟨t, ht, _⟩ => by cases ht)
theorem Bus.afo {l : List Tsk} {v : Value} {a : List Int} (t : Tsk) (h : Bus w0 sd (rown intEnc 3 1 base v a :: rafo base l :: L) A) (hv : t.av = v) (ha : t.af = a) : Bus w0 sd (rafo base (l ++ [t]) :: L) A := by
 have hd := h.dis
 rw [List.pairwise_cons, List.pairwise_cons] at hd
 have h1 : Own intEnc 3 1 base A v a := h.all _ (.head _)
 have h2 : ∀ t ∈ l, Own intEnc 3 1 base A t.av t.af := h.all _ (.tail _ (.head _))
 refine ⟨fun r hr => ?_, fun r hr g hx => ?_, ?_, h.gb⟩
 ·
  rcases List.mem_cons.1 hr with rfl | hr
  ·
   intro t' ht'
   rcases List.mem_append.1 ht' with h3 | h3
   · exact h2 t' h3
   obtain rfl := List.mem_singleton.1 h3
   rw [hv, ha]; exact h1
  · exact h.all r (.tail _ (.tail _ hr))
 ·
  rcases List.mem_cons.1 hr with rfl | hr
  ·
   obtain ⟨t', ht', e⟩ := hx
   rcases List.mem_append.1 ht' with h3 | h3
   · exact h.bd _ (.tail _ (.head _)) g ⟨t', h3, e⟩
   obtain rfl := List.mem_singleton.1 h3
   exact h.bd _ (.head _) g (by rw [hv] at e; exact e)
  · exact h.bd r (.tail _ (.tail _ hr)) g hx
 rw [List.pairwise_cons]
 refine ⟨fun x hx hm g ⟨t', ht', e⟩ hg => ?_, hd.2.2⟩
 rcases List.mem_append.1 ht' with h3 | h3
 · exact hd.2.1 x hx (.inl rfl) g ⟨t', h3, e⟩ hg
 obtain rfl := List.mem_singleton.1 h3
 exact hd.1 x (.tail _ hx) (.inl rfl) g (by rw [hv] at e; exact e) hg
end
section
variable {w0 A B : World} {L : List Res} {base : Nat}
theorem Bun.afo0 (h : Bun w0 L A) (base : Nat) : Bun w0 (rafo base [] :: L) A :=
 h.add (rafo base []) (gb_refl _ _) (fun t ht => by cases ht) (fun g ⟨t, ht, _⟩ => by cases ht)
theorem Bun.afo {l : List Tsk} {v : Value} {a : List Int} (t : Tsk) (h : Bun w0 (rown intEnc 3 1 base v a :: rafo base l :: L) A) (hv : t.av = v) (ha : t.af = a) : Bun w0 (rafo base (l ++ [t]) :: L) A := by
 have hd := h.dis
 rw [List.pairwise_cons, List.pairwise_cons] at hd
 have h1 : Own intEnc 3 1 base A v a := h.all _ (.head _)
 have h2 : ∀ t ∈ l, Own intEnc 3 1 base A t.av t.af := h.all _ (.tail _ (.head _))
 refine ⟨fun r hr => ?_, fun r hr g hx => ?_, ?_, h.gb⟩
 ·
  rcases List.mem_cons.1 hr with rfl | hr
  ·
   intro t' ht'
   rcases List.mem_append.1 ht' with h3 | h3
   · exact h2 t' h3
   obtain rfl := List.mem_singleton.1 h3
   rw [hv, ha]; exact h1
  · exact h.all r (.tail _ (.tail _ hr))
 ·
  rcases List.mem_cons.1 hr with rfl | hr
  ·
   obtain ⟨t', ht', e⟩ := hx
   rcases List.mem_append.1 ht' with h3 | h3
   · exact h.bd _ (.tail _ (.head _)) g ⟨t', h3, e⟩
   obtain rfl := List.mem_singleton.1 h3
   exact h.bd _ (.head _) g (by rw [hv] at e; exact e)
  · exact h.bd r (.tail _ (.tail _ hr)) g hx
 rw [List.pairwise_cons]
 refine ⟨fun x hx hm g ⟨t', ht', e⟩ hg => ?_, hd.2.2⟩
 rcases List.mem_append.1 ht' with h3 | h3
 · exact hd.2.1 x hx (.inl rfl) g ⟨t', h3, e⟩ hg
 obtain rfl := List.mem_singleton.1 h3
 exact hd.1 x (.tail _ hx) (.inl rfl) g (by rw [hv] at e; exact e) hg
end
theorem afErr_of {i : Int} : ∀ {l p : List Int}, (∀ a ∈ l, 0 <= a /\ a < i) -> (p ++ l).Nodup -> afErr i p l = 0
 | [], _, _, _ => rfl
 | a :: l, p, h, hn => by
  have ha := h a (.head _)
  rw [afErr, if_neg (by omega), if_neg]
  ·
   refine afErr_of (fun x hx => h x (.tail _ hx)) ?_
   rwa [List.append_assoc]
  intro hc
  have hm : a ∈ p := by simpa using hc
  rw [List.nodup_append] at hn
  exact hn.2.2 a hm a (.head _) rfl
def afS (j : Int) (l : List Int) : Prop := (∀ a ∈ l, 0 <= a /\ a < j) /\ l.Nodup
theorem afS.next {j : Int} {l : List Int} (h : afS j l) : afS (j + 1) l := ⟨fun a ha => by have := h.1 a ha; omega, h.2⟩
theorem afS.snoc {j : Int} {l : List Int} (h : afS j l) (hj : 0 <= j) : afS (j + 1) (l ++ [j]) := by
 refine ⟨fun a ha => ?_, ?_⟩
 ·
  rcases List.mem_append.1 ha with h1 | h1
  · have := h.1 a h1; omega
  · obtain rfl := List.mem_singleton.1 h1; omega
 rw [List.nodup_append]
 refine ⟨h.2, by simp, fun a ha b hb e => ?_⟩
 obtain rfl := List.mem_singleton.1 hb
 have := h.1 a ha
 omega
theorem afS.err {j i : Int} {l : List Int} (h : afS j l) (hj : j <= i) : afErr i [] l = 0 := afErr_of (fun a ha => by have := h.1 a ha; omega) (by simpa using h.2)
theorem infoWea : (Tryz.prog.info? 61).map (fun i => (i.zero, i.size, i.bytes)) = some (some (.agg #[.int .i64 0, .int .i64 0, .int .i64 0, .int .i64 0, .int .i64 0, .bool false]), 6, 48) := by kernel_rfl
theorem okWea : ElemOk Tryz.prog 40 61 6 48 weaEnc where
 under := Tryz.underlying40
 info := info5 infoWea rfl
 pos := by omega
 small := by omega
 len := fun _ => rfl
 one := fun x u hu => by
  simp [weaEnc] at hu
  rcases hu with rfl | rfl | rfl | rfl | rfl | rfl <;> rfl
theorem slS {lo hi : Nat} {w : World} {v : Value} {l : List Tsk} (h : Sl tskEncS 8 lo hi w v l) (hs : ∀ t ∈ l, sliceB t.av = true) : Sl tskEnc 8 lo hi w v l := by
 obtain ⟨h1, a, c, e, h2⟩ := h
 refine ⟨h1, a, c, e, ?_⟩
 rcases h2 with h2 | ⟨b, off, h3, h4, h5, h6⟩
 · exact .inl h2
 · exact .inr ⟨b, off, h3, h4, h5, fun i x hi j u hj => h6 i x hi j u (by rw [encS (hs x (List.mem_of_getElem? hi))]; exact hj)⟩
theorem slS2 {lo hi : Nat} {w : World} {v : Value} {l : List Tsk} (h : Sl tskEnc 8 lo hi w v l) (hs : ∀ t ∈ l, sliceB t.av = true) : Sl tskEncS 8 lo hi w v l := by
 obtain ⟨h1, a, c, e, h2⟩ := h
 refine ⟨h1, a, c, e, ?_⟩
 rcases h2 with h2 | ⟨b, off, h3, h4, h5, h6⟩
 · exact .inl h2
 · exact .inr ⟨b, off, h3, h4, h5, fun i x hi j u hj => h6 i x hi j u (by rw [← encS (hs x (List.mem_of_getElem? hi))]; exact hj)⟩
theorem capS {v : Value} (h : CapOk v) : sliceB v = true := by
 cases v <;> first | rfl | exact h.elim
theorem Afs.sl {lo hi : Nat} {w : World} {l : List Tsk} (h : Afs lo hi w l) : ∀ t ∈ l, sliceB t.av = true := fun t ht => capS (h t ht).2
def sameT (x y : Tsk) : Prop := x.m = y.m /\ x.ho = y.ho /\ x.wa = y.wa /\ x.fr = y.fr /\ x.af = y.af
def mixT (k : Nat) (a b : List Tsk) : Prop := a.length = b.length /\ (∀ (i : Nat) (x y : Tsk), a[i]? = some x -> b[i]? = some y -> sameT x y /\ (k <= i -> x.av = y.av)) /\ ∀ t ∈ a, sliceB t.av = true
theorem mixT.zero {l : List Tsk} (h : ∀ t ∈ l, sliceB t.av = true) : mixT 0 l l := ⟨rfl, fun i x y hx hy => by
 rw [hx] at hy; injection hy with hy; subst hy; exact ⟨⟨rfl, rfl, rfl, rfl, rfl⟩, fun _ => rfl⟩, h⟩
theorem mixT.next {k : Nat} {a b : List Tsk} {z : Tsk} {v : Value} (h : mixT k a b) (hz : a[k]? = some z) (hv : sliceB v = true) : mixT (k + 1) (a.set k ⟨z.m, z.ho, z.wa, z.fr, z.af, v⟩) b := by
 have hk := (List.getElem?_eq_some_iff.1 hz).1
 refine ⟨by rw [List.length_set]; exact h.1, fun i x y' hx hy => ?_, fun t ht => ?_⟩
 ·
  rw [List.getElem?_set] at hx
  by_cases e : k = i
  ·
   subst e
   rw [if_pos rfl, if_pos hk] at hx
   injection hx with hx
   subst hx
   obtain ⟨⟨h1, h2, h3, h4, h5⟩, _⟩ := h.2.1 k z y' hz hy
   exact ⟨⟨h1, h2, h3, h4, h5⟩, fun hlt => by omega⟩
  rw [if_neg e] at hx
  obtain ⟨h1, h2⟩ := h.2.1 i x y' hx hy
  exact ⟨h1, fun hlt => h2 (by omega)⟩
 rcases List.mem_or_eq_of_mem_set ht with h1 | h1
 · exact h.2.2 t h1
 · subst h1; exact hv
attribute [local go_sem] Oper.semAt_some
theorem sameT_at {n k : Nat} {a b : List Tsk} {z : Tsk} (h : mixT n a b) (hz : b[k]? = some z) : ∃ v, a[k]? = some ⟨z.m, z.ho, z.wa, z.fr, z.af, v⟩ := by
 have hk : k < a.length := by rw [h.1]; exact (List.getElem?_eq_some_iff.1 hz).1
 have e := List.getElem?_eq_getElem hk
 obtain ⟨h1, h2, h3, h4, h5⟩ := (h.2.1 k _ z e hz).1
 refine ⟨(a[k]).av, ?_⟩
 rw [e]
 congr 1
 rw [← h1, ← h2, ← h3, ← h4, ← h5]
theorem tk_same {n : Nat} {a b : List Tsk} (h : mixT n a b) (i : Nat) : sameT (tk a i) (tk b i) := by
 rcases Nat.lt_or_ge i b.length with hi | hi
 ·
  have hz := List.getElem?_eq_getElem hi
  obtain ⟨v, hv⟩ := sameT_at h hz
  rw [tk_get hv, tk_get hz]
  exact ⟨rfl, rfl, rfl, rfl, rfl⟩
 unfold tk
 rw [List.getD_eq_getElem?_getD, List.getD_eq_getElem?_getD, List.getElem?_eq_none hi, List.getElem?_eq_none (by rw [h.1]; exact hi)]
 exact ⟨rfl, rfl, rfl, rfl, rfl⟩
theorem caseOf_same {n : Nat} {a b : List Tsk} (h : mixT n a b) (w : Bool) (ms : List Mch) (dl : List Wea) : caseOf w ms a dl = caseOf w ms b dl := by
 have hs := tk_same h
 unfold caseOf
 congr 1
 · funext i; rw [(hs i).2.1]
 · funext i; rw [(hs i).2.2.1]
 · funext i; rw [(hs i).2.2.2.1]
 · funext i; rw [(hs i).1]
 · funext i; rw [(hs i).2.2.2.2]
end Go.Proofs.YtcoldeolmleeiaaGreat
/- build: orders of tasks, gone through one after the other; the best one. Plain maths. -/
namespace Go.Proofs.YtcoldeolmleeiaaGreat
set_option maxRecDepth 100000
def posN : List Nat -> Nat -> Nat
 | [], _ => 0
 | y :: o, x => if y = x then 0 else posN o x + 1
theorem posN_at : ∀ {o : List Nat} {x : Nat}, x ∈ o -> o[posN o x]? = some x
 | y :: o, x, h => by
  rw [posN]
  split
  · rename_i e; subst e; rfl
  rename_i e
  have h2 : x ∈ o := by
   rcases List.mem_cons.1 h with h | h
   · exact absurd h.symm e
   · exact h
  simpa using posN_at h2
theorem posN_of {o : List Nat} (hn : o.Nodup) {i x : Nat} (h : o[i]? = some x) : posN o x = i := by
 have h2 := posN_at (List.mem_of_getElem? h)
 obtain ⟨a1, a2⟩ := List.getElem?_eq_some_iff.1 h
 obtain ⟨b1, b2⟩ := List.getElem?_eq_some_iff.1 h2
 exact (List.getElem_inj hn).1 (b2.trans a2.symm)
def ordOf (ts : List Tsk) (o : List Nat) (k : Nat) : Tsk := ⟨(tk ts k).m, (tk ts k).ho, (tk ts k).wa, (tk ts k).fr, (tk ts k).af.map fun a => ((posN o a.toNat : Nat) : Int), (tk ts k).av⟩
def ordT (ts : List Tsk) (o : List Nat) : List Tsk := o.map (ordOf ts o)
theorem ordT_len (ts : List Tsk) (o : List Nat) : (ordT ts o).length = o.length := by simp [ordT]
structure OrdP (ts : List Tsk) (o : List Nat) : Prop where
 nd : o.Nodup
 lt : ∀ x ∈ o, x < ts.length
 af : ∀ (i x : Nat), o[i]? = some x -> ∀ a ∈ (tk ts x).af, a.toNat ∈ o.take i
theorem OrdP.nil (ts : List Tsk) : OrdP ts [] := ⟨List.nodup_nil, (fun x h => by cases h), fun i x h => by simp at h⟩
def extB (ts : List Tsk) (now : List Nat) (k : Nat) : Bool := !(decide (k ∈ now)) && (tk ts k).af.all fun a => decide (a.toNat ∈ now)
theorem extB_iff {ts : List Tsk} {now : List Nat} {k : Nat} : extB ts now k = true ↔ k ∉ now /\ ∀ a ∈ (tk ts k).af, a.toNat ∈ now := by
 unfold extB
 simp
theorem OrdP.snoc {ts : List Tsk} {now : List Nat} {k : Nat} (h : OrdP ts now) (hk : k < ts.length) (he : extB ts now k = true) : OrdP ts (now ++ [k]) := by
 obtain ⟨h1, h2⟩ := extB_iff.1 he
 refine ⟨?_, fun x hx => ?_, fun i x hi a ha => ?_⟩
 ·
  rw [List.nodup_append]
  refine ⟨h.nd, by simp, fun a ha b hb e => ?_⟩
  obtain rfl := List.mem_singleton.1 hb
  exact h1 (e ▸ ha)
 ·
  rcases List.mem_append.1 hx with hx | hx
  · exact h.lt x hx
  · rw [List.mem_singleton.1 hx]; exact hk
 by_cases hil : i < now.length
 ·
  rw [List.getElem?_append_left hil] at hi
  rw [List.take_append_of_le_length (by omega)]
  exact h.af i x hi a ha
 rw [List.getElem?_append_right (by omega)] at hi
 obtain ⟨q, hq⟩ : ∃ q, i - now.length = q := ⟨_, rfl⟩
 rw [hq] at hi
 cases q with
 | zero =>
  simp at hi
  subst hi
  rw [show i = now.length by omega, List.take_append_of_le_length (Nat.le_refl _), List.take_length]
  exact h2 a ha
 | succ q => simp at hi
theorem nodupN_le (n : Nat) (l : List Nat) (hn : l.Nodup) (h : ∀ z ∈ l, z < n) : l.length <= n := by
 have h2 := List.Nodup.length_le_of_subset (l₂ := List.range n) hn (fun a ha => List.mem_range.2 (h a ha))
 simpa using h2
theorem OrdP.all {ts : List Tsk} {o : List Nat} (h : OrdP ts o) (hl : o.length = ts.length) {x : Nat} (hx : x < ts.length) : x ∈ o := by
 by_cases hm : x ∈ o
 · exact hm
 exfalso
 have h1 : (x :: o).Nodup := List.nodup_cons.2 ⟨hm, h.nd⟩
 have h2 := nodupN_le ts.length (x :: o) h1 (fun z hz => by
  rcases List.mem_cons.1 hz with rfl | hz
  · exact hx
  · exact h.lt z hz)
 rw [List.length_cons] at h2
 omega
theorem JobOk.ord {ms : List Mch} {ts : List Tsk} {o : List Nat} (hj : JobOk ms ts) (h : OrdP ts o) (hl : o.length = ts.length) : JobOk ms (ordT ts o) := by
 refine ⟨hj.nm, by rw [ordT_len, hl]; exact hj.nt, hj.mo, fun i t hi => ?_⟩
 rw [ordT, List.getElem?_map] at hi
 rcases hx : o[i]? with _ | x
 · rw [hx] at hi; cases hi
 rw [hx] at hi
 obtain rfl := Option.some.inj hi
 have hxm := List.mem_of_getElem? hx
 have hz : ts[x]? = some (tk ts x) := tk_at (h.lt x hxm)
 have hk := hj.to_ x _ hz
 have hmem : ∀ a ∈ (tk ts x).af, a.toNat ∈ o /\ posN o a.toNat < i := fun a ha => by
  have h1 := h.af i x hx a ha
  refine ⟨List.mem_of_mem_take h1, ?_⟩
  obtain ⟨j, hj, e⟩ := List.getElem_of_mem h1
  rw [List.getElem_take] at e
  have hj2 : j < o.length := by rw [List.length_take] at hj; omega
  have h2 : o[j]? = some a.toNat := by rw [List.getElem?_eq_getElem hj2, e]
  rw [posN_of h.nd h2]
  rw [List.length_take] at hj
  omega
 refine ⟨hk.m, hk.ho, hk.wa, hk.fr, fun a ha => ?_, ?_⟩
 ·
  obtain ⟨b, hb, rfl⟩ := List.mem_map.1 ha
  have := (hmem b hb).2
  omega
 show (((tk ts x).af).map fun a => ((posN o a.toNat : Nat) : Int)).Nodup
 refine List.pairwise_map.2 (hk.nd.imp_of_mem fun {a b} ha hb hne e => hne ?_)
 have e' : posN o a.toNat = posN o b.toNat := by omega
 have h1 := posN_at (hmem a ha).1
 have h2 := posN_at (hmem b hb).1
 rw [e', h2] at h1
 have h3 := Option.some.inj h1
 have h4 := hk.af a ha
 have h5 := hk.af b hb
 omega
/-! ### all orders -/
def ords (ts : List Tsk) : Nat -> List Nat -> List (List Nat)
 | 0, now => [now]
 | f + 1, now => (List.range ts.length).flatMap fun k => if extB ts now k = true then ords ts f (now ++ [k]) else []
def ordK (ts : List Tsk) (f : Nat) (now : List Nat) (k : Nat) : List (List Nat) := (List.range k).flatMap fun q => if extB ts now q = true then ords ts f (now ++ [q]) else []
theorem ordK_all (ts : List Tsk) (f : Nat) (now : List Nat) : ordK ts f now ts.length = ords ts (f + 1) now := rfl
theorem ordK_yes {ts : List Tsk} {f : Nat} {now : List Nat} {k : Nat} (h : extB ts now k = true) : ordK ts f now (k + 1) = ordK ts f now k ++ ords ts f (now ++ [k]) := by
 unfold ordK
 rw [List.range_succ, List.flatMap_append]
 simp [h]
theorem ordK_no {ts : List Tsk} {f : Nat} {now : List Nat} {k : Nat} (h : extB ts now k = false) : ordK ts f now (k + 1) = ordK ts f now k := by
 unfold ordK
 rw [List.range_succ, List.flatMap_append]
 simp [h]
/-! ### the best one -/
def opO (ms : List Mch) (ts : List Tsk) (dl : List Wea) (o : List Nat) : Int := (caseOf true ms (ordT ts o) dl).opn ts.length
structure BS where
 found : Bool
 order : List Nat
 open_ : Int
def upB (ms : List Mch) (ts : List Tsk) (dl : List Wea) (s : BS) (o : List Nat) : BS := if s.found = false ∨ opO ms ts dl o < s.open_ then ⟨true, o, opO ms ts dl o⟩ else s
theorem upB_yes {ms : List Mch} {ts : List Tsk} {dl : List Wea} {s : BS} {o : List Nat} (h : s.found = false ∨ opO ms ts dl o < s.open_) : upB ms ts dl s o = ⟨true, o, opO ms ts dl o⟩ := if_pos h
theorem upB_no {ms : List Mch} {ts : List Tsk} {dl : List Wea} {s : BS} {o : List Nat} (h : ¬ (s.found = false ∨ opO ms ts dl o < s.open_)) : upB ms ts dl s o = s := if_neg h
def tryS (ms : List Mch) (ts : List Tsk) (dl : List Wea) (L : List (List Nat)) (s : BS) : BS := L.foldl (upB ms ts dl) s
theorem tryS_app (ms : List Mch) (ts : List Tsk) (dl : List Wea) (L L2 : List (List Nat)) (s : BS) : tryS ms ts dl (L ++ L2) s = tryS ms ts dl L2 (tryS ms ts dl L s) := List.foldl_append
def bestS (ms : List Mch) (ts : List Tsk) (dl : List Wea) : BS := tryS ms ts dl (ords ts ts.length []) ⟨false, [], 0⟩
end Go.Proofs.YtcoldeolmleeiaaGreat
