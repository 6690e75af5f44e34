/- build: jobs that are made: tasks whose slices are rows of their own; what has no error. -/
import Derived.Test.YtdgplekokdeafaaGreatPJ3
import Derived.Test.YtdgplekokdeafaaGreatPK1
set_option linter.unusedVariables false
set_option linter.unusedSimpArgs false
set_option linter.unnecessarySimpa false
namespace Go.Proofs.YtdgplekokdeafaaGreat
open Go.RowKit
set_option maxRecDepth 100000
theorem infoMch : (Tryz.prog.info? 94).map (fun i => (i.zero, i.size, i.bytes)) = some (some (.agg #[.int .i64 0, .int .i64 0, .int .i64 0]), 3, 24) := by kernel_rfl
theorem okMch : ElemOk Tryz.prog 40 94 3 24 mchEnc where
 under := Tryz.underlying40
 info := info5 infoMch rfl
 pos := by omega
 small := by omega
 len := fun _ => rfl
 one := fun x u hu => by
  simp [mchEnc] at hu
  rcases hu with rfl | rfl | rfl <;> rfl
def sliceB : Value -> Bool
 | .slice _ _ _ => true
 | _ => false
theorem infoTsk : (Tryz.prog.info? 54).map (fun i => (i.zero, i.size, i.bytes)) = some (some (.agg #[.int .i64 0, .int .i64 0, .int .i64 0, .int .i64 0, .int .i64 0, .int .i64 0, .int .i64 0, .slice none 0 0]), 8, 80) := by kernel_rfl
def tskEncS (t : Tsk) : List Value := [.int .i64 t.m, .int .i64 t.ho.lo, .int .i64 t.ho.hi, .int .i64 t.wa.lo, .int .i64 t.wa.hi, .int .i64 t.fr.lo, .int .i64 t.fr.hi, if sliceB t.av = true then t.av else .slice none 0 0]
theorem okTskS : ElemOk Tryz.prog 41 54 8 80 tskEncS where
 under := Tryz.underlying41
 info := info5 infoTsk rfl
 pos := by omega
 small := by omega
 len := fun _ => rfl
 one := fun x u hu => by
  simp only [tskEncS, List.mem_cons, List.not_mem_nil, or_false] at hu
  rcases hu with rfl | rfl | rfl | rfl | rfl | rfl | rfl | rfl
  all_goals first | rfl | skip
  cases hv : x.av <;> simp [sliceB] <;> rfl
theorem own_cap {α : Type} {enc : α -> List Value} {e : TypeId} {sz base : Nat} {w : World} {v : Value} {l : List α} (h : Own enc e sz base w v l) : CapOk v := by
 obtain ⟨h0, h2⟩ := h
 rcases h2 with ⟨e2, hn⟩ | ⟨g, cap, cur, e2, hb, hh, hnc, hcm, hcs, htk⟩
 · rw [e2]; exact Nat.le_refl _
 · rw [e2]; exact hnc
theorem encS {t : Tsk} (h : sliceB t.av = true) : tskEncS t = tskEnc t := by unfold tskEncS tskEnc; rw [if_pos h]
theorem Bus.nilrow {α : Type} (enc : α -> List Value) (e : TypeId) (sz : Nat) {w0 A : World} {sd : Nat} {L : List Res} (h : Bus w0 sd L A) : Bus w0 sd (rown enc e sz w0.heap.size (.slice none 0 0) [] :: L) A :=
 h.add (rown enc e sz w0.heap.size (.slice none 0 0) []) (gb_refl _ _) (Own.nil _ _ _ _ _) fun g e => by cases e
def rafo (base : Nat) (l : List Tsk) : Res :=
 ⟨true, fun x => ∃ t ∈ l, t.av.ownBlock = some x, fun w => ∀ t ∈ l, Own intEnc 3 1 base w t.av t.af, fun _ _ _ hg hr h t ht => Own.gb (h t ht) hg (fun k e e' => hr k e ⟨t, ht, e'⟩)⟩
section
variable {w0 A B : World} {L : List Res} {sd base : Nat}
theorem Bus.afo0 (h : Bus w0 sd L A) (base : Nat) : Bus w0 sd (rafo base [] :: L) A :=
 h.add (rafo base []) (gb_refl _ _) (fun t ht => by cases ht) (fun g ⟨t, ht, _⟩ => by cases ht)
theorem Bus.afo {l : List Tsk} {v : Value} {a : List Int} (t : Tsk) (h : Bus w0 sd (rown intEnc 3 1 base v a :: rafo base l :: L) A) (hv : t.av = v) (ha : t.af = a) : Bus w0 sd (rafo base (l ++ [t]) :: L) A := by
 have hd := h.dis
 rw [List.pairwise_cons, List.pairwise_cons] at hd
 have h1 : Own intEnc 3 1 base A v a := h.all _ (.head _)
 have h2 : ∀ t ∈ l, Own intEnc 3 1 base A t.av t.af := h.all _ (.tail _ (.head _))
 refine ⟨fun r hr => ?_, fun r hr g hx => ?_, ?_, h.gb⟩
 ·
  rcases List.mem_cons.1 hr with rfl | hr
  ·
   intro t' ht'
   rcases List.mem_append.1 ht' with h3 | h3
   · exact h2 t' h3
   obtain rfl := List.mem_singleton.1 h3
   rw [hv, ha]; exact h1
  · exact h.all r (.tail _ (.tail _ hr))
 ·
  rcases List.mem_cons.1 hr with rfl | hr
  ·
   obtain ⟨t', ht', e⟩ := hx
   rcases List.mem_append.1 ht' with h3 | h3
   · exact h.bd _ (.tail _ (.head _)) g ⟨t', h3, e⟩
   obtain rfl := List.mem_singleton.1 h3
   exact h.bd _ (.head _) g (by rw [hv] at e; exact e)
  · exact h.bd r (.tail _ (.tail _ hr)) g hx
 rw [List.pairwise_cons]
 refine ⟨fun x hx hm g ⟨t', ht', e⟩ hg => ?_, hd.2.2⟩
 rcases List.mem_append.1 ht' with h3 | h3
 · exact hd.2.1 x hx (.inl rfl) g ⟨t', h3, e⟩ hg
 obtain rfl := List.mem_singleton.1 h3
 exact hd.1 x (.tail _ hx) (.inl rfl) g (by rw [hv] at e; exact e) hg
end
section
variable {w0 A B : World} {L : List Res} {base : Nat}
theorem Bun.afo0 (h : Bun w0 L A) (base : Nat) : Bun w0 (rafo base [] :: L) A :=
 h.add (rafo base []) (gb_refl _ _) (fun t ht => by cases ht) (fun g ⟨t, ht, _⟩ => by cases ht)
theorem Bun.afo {l : List Tsk} {v : Value} {a : List Int} (t : Tsk) (h : Bun w0 (rown intEnc 3 1 base v a :: rafo base l :: L) A) (hv : t.av = v) (ha : t.af = a) : Bun w0 (rafo base (l ++ [t]) :: L) A := by
 have hd := h.dis
 rw [List.pairwise_cons, List.pairwise_cons] at hd
 have h1 : Own intEnc 3 1 base A v a := h.all _ (.head _)
 have h2 : ∀ t ∈ l, Own intEnc 3 1 base A t.av t.af := h.all _ (.tail _ (.head _))
 refine ⟨fun r hr => ?_, fun r hr g hx => ?_, ?_, h.gb⟩
 ·
  rcases List.mem_cons.1 hr with rfl | hr
  ·
   intro t' ht'
   rcases List.mem_append.1 ht' with h3 | h3
   · exact h2 t' h3
   obtain rfl := List.mem_singleton.1 h3
   rw [hv, ha]; exact h1
  · exact h.all r (.tail _ (.tail _ hr))
 ·
  rcases List.mem_cons.1 hr with rfl | hr
  ·
   obtain ⟨t', ht', e⟩ := hx
   rcases List.mem_append.1 ht' with h3 | h3
   · exact h.bd _ (.tail _ (.head _)) g ⟨t', h3, e⟩
   obtain rfl := List.mem_singleton.1 h3
   exact h.bd _ (.head _) g (by rw [hv] at e; exact e)
  · exact h.bd r (.tail _ (.tail _ hr)) g hx
 rw [List.pairwise_cons]
 refine ⟨fun x hx hm g ⟨t', ht', e⟩ hg => ?_, hd.2.2⟩
 rcases List.mem_append.1 ht' with h3 | h3
 · exact hd.2.1 x hx (.inl rfl) g ⟨t', h3, e⟩ hg
 obtain rfl := List.mem_singleton.1 h3
 exact hd.1 x (.tail _ hx) (.inl rfl) g (by rw [hv] at e; exact e) hg
end
theorem tsksErr_snoc {nm : Int} {t : Tsk} : ∀ {l : List Tsk} {i : Nat}, tsksErr nm i l = 0 -> tskErr nm ((i + l.length : Nat) : Int) t = 0 -> tsksErr nm i (l ++ [t]) = 0
 | [], i, _, h => by
  rw [List.length_nil, Nat.add_zero] at h
  show (if ¬ tskErr nm i t = 0 then tskErr nm i t else 0) = 0
  rw [if_neg (not_not_intro h)]
 | y :: l, i, h1, h2 => by
  rw [List.cons_append, tsksErr]
  rw [tsksErr] at h1
  split at h1
  · contradiction
  rename_i h3
  rw [if_neg h3]
  refine tsksErr_snoc h1 ?_
  rw [show i + 1 + l.length = i + (y :: l).length by simp; omega]
  exact h2
theorem mchsErr_snoc {x : Mch} : ∀ {l : List Mch}, mchsErr l = 0 -> mchErr x = 0 -> mchsErr (l ++ [x]) = 0
 | [], _, h => by
  show (if ¬ mchErr x = 0 then mchErr x else 0) = 0
  rw [if_neg (not_not_intro h)]
 | y :: l, h1, h2 => by
  rw [List.cons_append, mchsErr]
  rw [mchsErr] at h1
  split at h1
  · contradiction
  rename_i h3
  rw [if_neg h3]
  exact mchsErr_snoc h1 h2
theorem afErr_of {i : Int} : ∀ {l p : List Int}, (∀ a ∈ l, 0 <= a /\ a < i) -> (p ++ l).Nodup -> afErr i p l = 0
 | [], _, _, _ => rfl
 | a :: l, p, h, hn => by
  have ha := h a (.head _)
  rw [afErr, if_neg (by omega), if_neg]
  ·
   refine afErr_of (fun x hx => h x (.tail _ hx)) ?_
   rwa [List.append_assoc]
  intro hc
  have hm : a ∈ p := by simpa using hc
  rw [List.nodup_append] at hn
  exact hn.2.2 a hm a (.head _) rfl
def afS (j : Int) (l : List Int) : Prop := (∀ a ∈ l, 0 <= a /\ a < j) /\ l.Nodup
theorem afS.next {j : Int} {l : List Int} (h : afS j l) : afS (j + 1) l := ⟨fun a ha => by have := h.1 a ha; omega, h.2⟩
theorem afS.snoc {j : Int} {l : List Int} (h : afS j l) (hj : 0 <= j) : afS (j + 1) (l ++ [j]) := by
 refine ⟨fun a ha => ?_, ?_⟩
 ·
  rcases List.mem_append.1 ha with h1 | h1
  · have := h.1 a h1; omega
  · obtain rfl := List.mem_singleton.1 h1; omega
 rw [List.nodup_append]
 refine ⟨h.2, by simp, fun a ha b hb e => ?_⟩
 obtain rfl := List.mem_singleton.1 hb
 have := h.1 a ha
 omega
theorem afS.err {j i : Int} {l : List Int} (h : afS j l) (hj : j <= i) : afErr i [] l = 0 := afErr_of (fun a ha => by have := h.1 a ha; omega) (by simpa using h.2)
theorem tskErr_of {nm i : Int} {t : Tsk} (h1 : 0 <= t.m /\ t.m < nm) (h2 : 0 <= t.ho.lo /\ t.ho.lo <= t.ho.hi /\ t.ho.hi <= 2000) (h3 : 0 <= t.wa.lo /\ t.wa.lo <= t.wa.hi /\ t.wa.hi <= 2000) (h4 : 0 <= t.fr.lo /\ t.fr.lo <= t.fr.hi /\ t.fr.hi <= 2000) (h5 : afErr i [] t.af = 0) : tskErr nm i t = 0 := by
 have z : ∀ a b : Int, 0 <= a -> a <= b -> b <= 2000 -> spanErr a b 0 2000 = 0 := fun a b x y z => by unfold spanErr; rw [if_neg (by omega), if_neg (by omega)]
 unfold tskErr
 rw [if_neg (by omega), if_neg (not_not_intro (z _ _ h2.1 h2.2.1 h2.2.2)), if_neg (not_not_intro (z _ _ h3.1 h3.2.1 h3.2.2)), if_neg (not_not_intro (z _ _ h4.1 h4.2.1 h4.2.2)), h5]
theorem mchErr_of {x : Mch} (h1 : -1000 <= x.mild /\ x.mild <= x.hard /\ x.hard <= 1000) (h2 : 1 <= x.shift /\ x.shift <= 24) : mchErr x = 0 := by
 unfold mchErr
 rw [if_neg (by omega), if_neg (by omega), if_neg (by omega)]
theorem jobErr_of {ms : List Mch} {ts : List Tsk} (h1 : ms.length <= 10) (h2 : mchsErr ms = 0) (h3 : ts.length <= 30) (h4 : tsksErr ms.length 0 ts = 0) : jobErr ms ts = 0 := by
 unfold jobErr
 rw [if_neg (by omega), if_neg (not_not_intro h2), if_neg (by omega), h4]
theorem infoWea : (Tryz.prog.info? 51).map (fun i => (i.zero, i.size, i.bytes)) = some (some (.agg #[.int .i64 0, .int .i64 0, .int .i64 0, .int .i64 0, .int .i64 0, .bool false]), 6, 48) := by kernel_rfl
theorem okWea : ElemOk Tryz.prog 34 51 6 48 weaEnc where
 under := Tryz.underlying34
 info := info5 infoWea rfl
 pos := by omega
 small := by omega
 len := fun _ => rfl
 one := fun x u hu => by
  simp [weaEnc] at hu
  rcases hu with rfl | rfl | rfl | rfl | rfl | rfl <;> rfl
theorem daysErr_of : ∀ {l : List Wea}, (∀ d ∈ l, weaErr d = 0) -> daysErr l = 0
 | [], _ => rfl
 | d :: l, h => by rw [daysErr, if_neg (not_not_intro (h d (.head _)))]; exact daysErr_of fun x hx => h x (.tail _ hx)
theorem bothErr_of {ms : List Mch} {ts : List Tsk} {dl : List Wea} (h1 : jobErr ms ts = 0) (h2 : ∀ d ∈ dl, weaErr d = 0) (h3 : dl.length <= 400) : bothErr ms ts dl = 0 := by
 rw [bothErr, if_neg (not_not_intro h1), daysE, if_neg (by omega)]
 exact daysErr_of h2
theorem slS {lo hi : Nat} {w : World} {v : Value} {l : List Tsk} (h : Sl tskEncS 8 lo hi w v l) (hs : ∀ t ∈ l, sliceB t.av = true) : Sl tskEnc 8 lo hi w v l := by
 obtain ⟨h1, a, c, e, h2⟩ := h
 refine ⟨h1, a, c, e, ?_⟩
 rcases h2 with h2 | ⟨b, off, h3, h4, h5, h6⟩
 · exact .inl h2
 · exact .inr ⟨b, off, h3, h4, h5, fun i x hi j u hj => h6 i x hi j u (by rw [encS (hs x (List.mem_of_getElem? hi))]; exact hj)⟩
theorem capS {v : Value} (h : CapOk v) : sliceB v = true := by
 cases v <;> first | rfl | exact h.elim
theorem Afs.sl {lo hi : Nat} {w : World} {l : List Tsk} (h : Afs lo hi w l) : ∀ t ∈ l, sliceB t.av = true := fun t ht => capS (h t ht).2
def sameT (x y : Tsk) : Prop := x.m = y.m /\ x.ho = y.ho /\ x.wa = y.wa /\ x.fr = y.fr /\ x.af = y.af
def mixT (k : Nat) (a b : List Tsk) : Prop := a.length = b.length /\ (∀ (i : Nat) (x y : Tsk), a[i]? = some x -> b[i]? = some y -> sameT x y /\ (k <= i -> x.av = y.av)) /\ ∀ t ∈ a, sliceB t.av = true
theorem mixT.zero {l : List Tsk} (h : ∀ t ∈ l, sliceB t.av = true) : mixT 0 l l := ⟨rfl, fun i x y hx hy => by
 rw [hx] at hy; injection hy with hy; subst hy; exact ⟨⟨rfl, rfl, rfl, rfl, rfl⟩, fun _ => rfl⟩, h⟩
theorem mixT.next {k : Nat} {a b : List Tsk} {z : Tsk} {v : Value} (h : mixT k a b) (hz : a[k]? = some z) (hv : sliceB v = true) : mixT (k + 1) (a.set k ⟨z.m, z.ho, z.wa, z.fr, z.af, v⟩) b := by
 have hk := (List.getElem?_eq_some_iff.1 hz).1
 refine ⟨by rw [List.length_set]; exact h.1, fun i x y' hx hy => ?_, fun t ht => ?_⟩
 ·
  rw [List.getElem?_set] at hx
  by_cases e : k = i
  ·
   subst e
   rw [if_pos rfl, if_pos hk] at hx
   injection hx with hx
   subst hx
   obtain ⟨⟨h1, h2, h3, h4, h5⟩, _⟩ := h.2.1 k z y' hz hy
   exact ⟨⟨h1, h2, h3, h4, h5⟩, fun hlt => by omega⟩
  rw [if_neg e] at hx
  obtain ⟨h1, h2⟩ := h.2.1 i x y' hx hy
  exact ⟨h1, fun hlt => h2 (by omega)⟩
 rcases List.mem_or_eq_of_mem_set ht with h1 | h1
 · exact h.2.2 t h1
 · subst h1; exact hv
end Go.Proofs.YtdgplekokdeafaaGreat
