/- build: a case made of numbers, within what is known; what a call need not look at is put aside. -/
import Derived.Test.YtdgplekokdeafaaGreatPG4
import Derived.Test.YtdgplekokdeafaaGreatPE0
set_option linter.unusedVariables false
set_option linter.unusedSimpArgs false
set_option linter.unnecessarySimpa false
namespace Go.Proofs.YtdgplekokdeafaaGreat
open Go.RowKit
set_option maxRecDepth 100000
def rall (l : List Res) : Res := ⟨false, fun x => ∃ r ∈ l, r.X x, fun w => ∀ r ∈ l, r.P w, fun A B q hg hr h r hrl => r.st A B q hg (fun g e hx => hr g e ⟨r, hrl, hx⟩) (h r hrl)⟩
section
variable {w0 A B : World} {K l N : List Res}
theorem Bun.hide (h : Bun w0 (K ++ l) A) : Bun w0 (K ++ [rall l]) A := by
 have hd := List.pairwise_append.1 h.dis
 refine ⟨fun r hr => ?_, fun r hr g hx => ?_, ?_, h.gb⟩
 ·
  rcases List.mem_append.1 hr with hr | hr
  · exact h.all r (List.mem_append_left _ hr)
  obtain rfl := List.mem_singleton.1 hr
  exact fun r hr => h.all r (List.mem_append_right _ hr)
 ·
  rcases List.mem_append.1 hr with hr | hr
  · exact h.bd r (List.mem_append_left _ hr) g hx
  obtain rfl := List.mem_singleton.1 hr
  obtain ⟨r, hr, hx⟩ := hx
  exact ⟨(h.bd r (List.mem_append_right _ hr) g hx).1, fun hm => by cases hm⟩
 refine List.pairwise_append.2 ⟨hd.1, List.pairwise_singleton _ _, fun a ha b hb hm g hx hy => ?_⟩
 obtain rfl := List.mem_singleton.1 hb
 obtain ⟨r, hr, hy⟩ := hy
 have hm' : a.mine = true := by
  rcases hm with hm | hm
  · exact hm
  · cases hm
 exact hd.2.2 a ha r hr (.inl hm') g hx hy
theorem Bun.show (h0 : Bun w0 (K ++ l) A) (h : Bun w0 (N ++ (K ++ [rall l])) B) (hN : N.all (fun r => r.mine) = true) : Bun w0 (N ++ (K ++ l)) B := by
 have hd := List.pairwise_append.1 h.dis
 have hmem : rall l ∈ N ++ (K ++ [rall l]) := by simp
 have hP := h.all _ hmem
 refine ⟨fun r hr => ?_, fun r hr g hx => ?_, ?_, h.gb⟩
 ·
  rcases List.mem_append.1 hr with hr | hr
  · exact h.all r (List.mem_append_left _ hr)
  rcases List.mem_append.1 hr with hr | hr
  · exact h.all r (List.mem_append_right _ (List.mem_append_left _ hr))
  · exact hP r hr
 ·
  rcases List.mem_append.1 hr with hr | hr
  · exact h.bd r (List.mem_append_left _ hr) g hx
  rcases List.mem_append.1 hr with hr | hr
  · exact h.bd r (List.mem_append_right _ (List.mem_append_left _ hr)) g hx
  · exact ⟨(h.bd _ hmem g ⟨r, hr, hx⟩).1, (h0.bd r (List.mem_append_right _ hr) g hx).2⟩
 refine List.pairwise_append.2 ⟨hd.1, h0.dis, fun a ha b hb hm g hx hy => ?_⟩
 have ham : a.mine = true := by have := List.all_eq_true.1 hN a ha; simpa using this
 rcases List.mem_append.1 hb with hb | hb
 · exact hd.2.2 a ha b (List.mem_append_left _ hb) (.inl ham) g hx hy
 · exact hd.2.2 a ha (rall l) (by simp) (.inl ham) g hx ⟨b, hb, hy⟩
end
def insL (f : Tsk -> Sp) (ts : List Tsk) (k : Nat) (l : List Int) : Prop := l.length = k /\ ∀ i x, l[i]? = some x -> (f (tk ts i)).lo <= x /\ x <= (f (tk ts i)).hi
theorem insL.zero (f : Tsk -> Sp) (ts : List Tsk) : insL f ts 0 [] := ⟨rfl, fun i x h => by simp at h⟩
theorem insL.snoc {f : Tsk -> Sp} {ts : List Tsk} {k : Nat} {l : List Int} {z : Tsk} {x : Int} (h : insL f ts k l) (hz : ts[k]? = some z) (hx : (f z).lo <= x /\ x <= (f z).hi) : insL f ts (k + 1) (l ++ [x]) := by
 refine ⟨by rw [List.length_append, h.1]; rfl, fun i y hy => ?_⟩
 rcases Nat.lt_trichotomy i k with hi | rfl | hi
 ·
  rw [List.getElem?_append_left (by rw [h.1]; exact hi)] at hy
  exact h.2 i y hy
 ·
  rw [List.getElem?_append_right (by rw [h.1]; exact Nat.le_refl _), h.1, Nat.sub_self] at hy
  obtain rfl := Option.some.inj hy
  rw [tk_get hz]
  exact hx
 rw [List.getElem?_eq_none (by rw [List.length_append, h.1]; simp; omega)] at hy
 cases hy
def okB (x : Mch) (dl : List Wea) (d : Nat) (b : Bool) : Prop := (wkB true (wkV x (dy dl d)) = true -> b = true) /\ (b = true -> wkB false (wkV x (dy dl d)) = true)
def inR (x : Mch) (dl : List Wea) (d : Nat) (l : List Bool) : Prop := l.length = dl.length /\ ∀ j b, j < d -> l[j]? = some b -> okB x dl j b
theorem inR.zero (x : Mch) (dl : List Wea) : inR x dl 0 (List.replicate dl.length false) := ⟨by simp, fun j b h => absurd h (Nat.not_lt_zero _)⟩
theorem inR.set {x : Mch} {dl : List Wea} {d : Nat} {l : List Bool} {b : Bool} (h : inR x dl d l) (hb : okB x dl d b) : inR x dl (d + 1) (l.set d b) := by
 refine ⟨by rw [List.length_set, h.1], fun j c hj hc => ?_⟩
 rw [List.getElem?_set] at hc
 by_cases e : d = j
 ·
  subst e
  rw [if_pos rfl] at hc
  split at hc
  ·
   obtain rfl := Option.some.inj hc
   exact hb
  · cases hc
 rw [if_neg e] at hc
 exact h.2 j c (by omega) hc
theorem okB_1 {x : Mch} {dl : List Wea} {d : Nat} {z : Wea} (hz : dl[d]? = some z) (h : wkV x z = 1) : okB x dl d true := by
 unfold okB
 rw [dy_get hz, h]
 exact ⟨fun _ => rfl, fun _ => rfl⟩
theorem okB_3 {x : Mch} {dl : List Wea} {d : Nat} {z : Wea} {b : Bool} (hz : dl[d]? = some z) (h : wkV x z = 3) : okB x dl d b := by
 unfold okB
 rw [dy_get hz, h]
 exact ⟨fun h => (by cases h), fun _ => rfl⟩
theorem okB_2 {x : Mch} {dl : List Wea} {d : Nat} {z : Wea} (hz : dl[d]? = some z) (h : ¬ wkV x z = 1) : okB x dl d false := by
 unfold okB
 rw [dy_get hz]
 exact ⟨fun h2 => absurd (by simpa [wkB] using h2) h, fun h => (by cases h)⟩
def csOf (dl : List Wea) (ms : List Mch) (ts : List Tsk) (lh lw lf : List Int) (rl : List (List Bool)) : Cs :=
 ⟨dl.length, fun i => lh.getD i 0, fun i => lw.getD i 0, fun i => lf.getD i 0, fun i => (tk ts i).m, fun i => (tk ts i).af, fun m => (mc ms m.toNat).shift, fun m d => ((rl[m.toNat]?).bind (fun r => r[d]?)).getD (wkB true (wkV (mc ms m.toNat) (dy dl d)))⟩
structure KCase (c : Cs) (ms : List Mch) (ts : List Tsk) (dl : List Wea) (lh lw lf : List Int) (rows : List (List Bool)) : Prop where
 is : CsIs c ms ts lh lw lf rows
 lo : CsLe (caseOf false ms ts dl) c
 hi : CsLe c (caseOf true ms ts dl)
 ok : CsOk c
theorem insL.at_ {f : Tsk -> Sp} {ms : List Mch} {ts : List Tsk} {l : List Int} (h : insL f ts ts.length l) (hd : ∀ i, ts.length <= i -> f (tk ts i) = sp0) (i : Nat) : (f (tk ts i)).lo <= l.getD i 0 /\ l.getD i 0 <= (f (tk ts i)).hi := by
 rcases Nat.lt_or_ge i l.length with hi | hi
 ·
  rw [List.getD_eq_getElem?_getD, List.getElem?_eq_getElem hi]
  exact h.2 i _ (List.getElem?_eq_getElem hi)
 rw [List.getD_eq_getElem?_getD, List.getElem?_eq_none hi, hd i (by rw [← h.1]; exact hi)]
 exact ⟨Int.le_refl _, Int.le_refl _⟩
theorem tk_far {ts : List Tsk} {i : Nat} (h : ts.length <= i) : (tk ts i).ho = sp0 /\ (tk ts i).wa = sp0 /\ (tk ts i).fr = sp0 := by
 unfold tk
 rw [List.getD_eq_getElem?_getD, List.getElem?_eq_none h]
 exact ⟨rfl, rfl, rfl⟩
theorem insL.rng {f : Tsk -> Sp} {ts : List Tsk} {l : List Int} (h : insL f ts ts.length l) : l = (List.range ts.length).map fun i => l.getD i 0 := by
 refine List.ext_getElem? fun i => ?_
 by_cases hi : i < l.length
 ·
  have hi2 : i < ts.length := by rw [← h.1]; exact hi
  rw [List.getElem?_eq_getElem hi]
  simp [hi2, hi]
 · rw [List.getElem?_eq_none (by omega), List.getElem?_eq_none (by simp; rw [← h.1]; omega)]
theorem wkB_tf {v : Int} (h : wkB true v = true) : wkB false v = true := by
 have : v = 1 := by simpa [wkB] using h
 subst this
 rfl
theorem kcase_of {ms : List Mch} {ts : List Tsk} {dl : List Wea} {lh lw lf : List Int} {rl : List (List Bool)} (hok : JobOk ms ts) (hn : dl.length <= 400) (h1 : insL Tsk.ho ts ts.length lh) (h2 : insL Tsk.wa ts ts.length lw) (h3 : insL Tsk.fr ts ts.length lf) (h4 : rl.length = ms.length) (h5 : ∀ k r, rl[k]? = some r -> inR (mc ms k) dl dl.length r) :
  KCase (csOf dl ms ts lh lw lf rl) ms ts dl lh lw lf rl := by
 have b1 := insL.at_ (ms := ms) h1 (fun i hi => (tk_far hi).1)
 have b2 := insL.at_ (ms := ms) h2 (fun i hi => (tk_far hi).2.1)
 have b3 := insL.at_ (ms := ms) h3 (fun i hi => (tk_far hi).2.2)
 have hk := fun i => tk_ok hok i
 have hrow : ∀ (m d : Nat), ∃ b, ((rl[m]?).bind (fun r => r[d]?)).getD (wkB true (wkV (mc ms m) (dy dl d))) = b /\ okB (mc ms m) dl d b := by
  intro m d
  rcases hr : rl[m]? with _ | r
  · exact ⟨_, rfl, fun h => h, fun h => wkB_tf h⟩
  have hI := h5 m r hr
  rcases hb : r[d]? with _ | b
  ·
   refine ⟨_, rfl, ?_⟩
   simp only [Option.bind_some, hb, Option.getD_none]
   exact ⟨fun h => h, fun h => wkB_tf h⟩
  refine ⟨b, by simp [hb], hI.2 d b ?_ hb⟩
  rw [← hI.1]
  exact (List.getElem?_eq_some_iff.1 hb).1
 refine ⟨⟨h1.rng, h2.rng, h3.rng, fun _ => rfl, fun _ => rfl, fun _ => rfl, h4, fun k r hr => ⟨(h5 k r hr).1, fun d hd => ?_⟩⟩, ?_, ?_, ?_⟩
 ·
  show r.getD d false = ((rl[((k : Int)).toNat]?).bind (fun r => r[d]?)).getD _
  have hd2 : d < r.length := by rw [(h5 k r hr).1]; exact hd
  rw [Int.toNat_natCast, hr, List.getD_eq_getElem?_getD]
  simp [hd2]
 ·
  refine ⟨rfl, fun i => ?_, fun i => ?_, fun i => ?_, fun _ => rfl, fun _ => rfl, fun i => tk_aok hok i, fun _ => rfl, fun m d hx => ?_⟩
  · exact ⟨(hk i).1, (b1 i).1⟩
  · exact ⟨(hk i).2.2.2.1, (b2 i).1⟩
  · exact ⟨(hk i).2.2.2.2.2.2.1, (b3 i).1⟩
  obtain ⟨b, e, hb⟩ := hrow m.toNat d
  have hx' : ((rl[m.toNat]?).bind (fun r => r[d]?)).getD (wkB true (wkV (mc ms m.toNat) (dy dl d))) = true := hx
  rw [e] at hx'
  exact hb.2 hx'
 ·
  refine ⟨rfl, fun i => ?_, fun i => ?_, fun i => ?_, fun _ => rfl, fun _ => rfl, fun i => tk_aok hok i, fun _ => rfl, fun m d hx => ?_⟩
  ·
   have := hk i
   have := b1 i
   show 0 <= lh.getD i 0 /\ lh.getD i 0 <= (tk ts i).ho.hi
   omega
  ·
   have := hk i
   have := b2 i
   show 0 <= lw.getD i 0 /\ lw.getD i 0 <= (tk ts i).wa.hi
   omega
  ·
   have := hk i
   have := b3 i
   show 0 <= lf.getD i 0 /\ lf.getD i 0 <= (tk ts i).fr.hi
   omega
  obtain ⟨b, e, hb⟩ := hrow m.toNat d
  show ((rl[m.toNat]?).bind (fun r => r[d]?)).getD (wkB true (wkV (mc ms m.toNat) (dy dl d))) = true
  rw [e]
  exact hb.1 hx
 refine ⟨fun i => ?_, fun i => ?_, fun i => ?_, hn⟩
 ·
  have := hk i
  have := b1 i
  show 0 <= lh.getD i 0 /\ lh.getD i 0 <= 4000
  omega
 ·
  have := hk i
  have := b2 i
  show 0 <= lw.getD i 0 /\ lw.getD i 0 <= 4000
  omega
 have := hk i
 have := b3 i
 show 0 <= lf.getD i 0 /\ lf.getD i 0 <= 4000
 omega
theorem bothErr1 {x : Mch} {ms : List Mch} {ts : List Tsk} {dl : List Wea} (h : bothErr ms ts dl = 0) (hx : x ∈ ms) : bothErr [x] [] dl = 0 := by
 have hm := (bothOk h).1.mo x hx
 have e1 : mchErr x = 0 := by
  unfold mchErr
  rw [if_neg (by have := hm.mild; omega), if_neg (by have := hm.mild; omega), if_neg (by have := hm.shift; omega)]
 have e2 : jobErr [x] [] = 0 := by
  unfold jobErr
  rw [if_neg (by simp), show mchsErr [x] = 0 by rw [mchsErr, e1]; rfl]
  rfl
 unfold bothErr at h ⊢
 rw [e2]
 split at h
 · contradiction
 · simpa using h
theorem rbworks_ok (x : Mch) (lo2 hi2 : Nat) (vd : Value) (dl : List Wea) (w : World) (hd : Sl weaEnc 6 lo2 hi2 w vd dl) (h3 : hi2 <= w.heap.size) (h : bothErr [x] [] dl = 0) :
  Calls Tryz.prog 44 #[.agg #[.int .i64 x.mild, .int .i64 x.hard, .int .i64 x.shift], vd] w (fun e w' => ∃ (a : Option Addr) (cp lo hi : Nat), e = .returned (.tuple #[.slice a dl.length cp, .int .i64 0]) /\ (w.heap.size <= lo /\ hi <= w'.heap.size) /\ Sl intEnc 1 lo hi w' (.slice a dl.length cp) (wksN x dl dl.length) /\ w.grownBy w' none) := by
 refine (rbworks_c x lo2 hi2 vd dl w hd h3).mono ?_
 rintro e w' ⟨a, cp, lo, hi, he, h4, hs, hg⟩
 have e1 : wksOf x dl = wksN x dl dl.length := by rw [wksOf, if_pos h]
 rw [e1, wksN_len (Nat.le_refl _), h] at he
 rw [e1, wksN_len (Nat.le_refl _)] at hs
 exact ⟨a, cp, lo, hi, he, h4, hs, hg⟩
theorem wksN_get {x : Mch} {dl : List Wea} {d : Nat} {z : Wea} (h : dl[d]? = some z) : (wksN x dl dl.length)[d]? = some (wkV x z) := by rw [wksN, List.take_length, List.getElem?_map, h]; rfl
end Go.Proofs.YtdgplekokdeafaaGreat
