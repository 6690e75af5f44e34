/- the kit of build: jobs within jobs. -/
import Derived.Test.YtokelpmngahnoaaJK3
import Derived.Test.YtokelpmngahnoaaP1
import Derived.Test.YtokelpmngahnoaaK1
import Derived.Test.YtokelpmngahnoaaJ8
set_option linter.unusedVariables false
set_option linter.unusedSimpArgs false
set_option linter.unnecessarySimpa false
namespace Go.Proofs.Ytokelpmngahnoaa
open Go.RowKit
set_option maxRecDepth 100000
attribute [local go_sem] Oper.semAt_some
theorem af_few {ms : List Mch} {ts : List Tsk} (h : JobOk ms ts) : ∀ t ∈ ts, t.af.length ≤ 100000 := fun t ht => by
  obtain ⟨k, hk, rfl⟩ := List.getElem_of_mem ht
  have o := h.to_ k _ (List.getElem?_eq_getElem hk)
  have h1 : ts[k].af.length ≤ ((List.range k).map (fun (i : Nat) => (i : Int))).length := by
    refine List.Nodup.length_le_of_subset o.nd fun a ha => ?_
    have := o.af a ha
    rw [List.mem_map]
    exact ⟨a.toNat, by rw [List.mem_range]; omega, by omega⟩
  rw [List.length_map, List.length_range] at h1
  have := h.nt
  omega
theorem set_at {α : Type} {l : List α} {k : Nat} {y : α} (h : k < l.length) : (l.set k y)[k]? = some y := by rw [List.getElem?_set, if_pos rfl, if_pos h]
theorem Bus.joinB {w0 A B : World} {sd : Nat} {L L2 : List Res} (h : Bus w0 sd L A) (h2 : Bun A L2 B) (hm : L2.all (fun r => r.mine) = true) : Bus w0 sd (L2 ++ L) B := by
  have hnew : ∀ r ∈ L2, ∀ g, r.X g → A.heap.size ≤ g ∧ g < B.heap.size := fun r hr g hx => by
    obtain ⟨h3, h4⟩ := h2.bd r hr g hx
    exact ⟨h4 (by have := List.all_eq_true.1 hm r hr; simpa using this), h3⟩
  have hg := h.gn h2.gb
  refine ⟨fun r hr => ?_, fun r hr g hx => ?_, ?_, hg.gb⟩
  · rcases List.mem_append.1 hr with hr | hr
    · exact h2.all r hr
    · exact hg.all r hr
  · rcases List.mem_append.1 hr with hr | hr
    · exact ⟨(hnew r hr g hx).2, fun _ => .inl (Nat.le_trans h.gb.size (hnew r hr g hx).1)⟩
    · exact hg.bd r hr g hx
  · rw [List.pairwise_append]
    refine ⟨h2.dis, h.dis, fun a ha b hb _ g hx hy => ?_⟩
    have h3 := (hnew a ha g hx).1
    have h4 := (h.bd b hb g hy).1
    omega
theorem Bus.afoSet {w0 A : World} {sd base k : Nat} {L : List Res} {l : List Tsk} {z : Tsk} (y : Tsk) (h : Bus w0 sd (rafo base l :: L) A) (hz : l[k]? = some z) (hv : y.av = z.av) (ha : y.af = z.af) : Bus w0 sd (rafo base (l.set k y) :: L) A := by
  have hd := h.dis
  rw [List.pairwise_cons] at hd
  have h1 : ∀ t ∈ l, Own intEnc 3 1 base A t.av t.af := h.all _ (.head _)
  have hsub : ∀ t ∈ l.set k y, ∃ t' ∈ l, t.av = t'.av ∧ t.af = t'.af := fun t ht => by
    rcases List.mem_or_eq_of_mem_set ht with h2 | h2
    · exact ⟨t, h2, rfl, rfl⟩
    · subst h2; exact ⟨z, List.mem_of_getElem? hz, hv, ha⟩
  refine ⟨fun r hr => ?_, fun r hr g hx => ?_, ?_, h.gb⟩
  · rcases List.mem_cons.1 hr with rfl | hr
    · intro t ht
      obtain ⟨t', h2, e1, e2⟩ := hsub t ht
      rw [e1, e2]; exact h1 t' h2
    · exact h.all r (.tail _ hr)
  · rcases List.mem_cons.1 hr with rfl | hr
    · obtain ⟨t, ht, e⟩ := hx
      obtain ⟨t', h2, e1, e2⟩ := hsub t ht
      exact h.bd _ (.head _) g ⟨t', h2, by rw [← e1]; exact e⟩
    · exact h.bd r (.tail _ hr) g hx
  · rw [List.pairwise_cons]
    refine ⟨fun x hx hm g ⟨t, ht, e⟩ hg => ?_, hd.2⟩
    obtain ⟨t', h2, e1, e2⟩ := hsub t ht
    exact hd.1 x hx (.inl rfl) g ⟨t', h2, by rw [← e1]; exact e⟩ hg
theorem Sl.n {α : Type} {enc : α → List Value} {sz lo hi n c : Nat} {a : Option Addr} {w : World} {l : List α} (h : Sl enc sz lo hi w (.slice a n c) l) (hn : n = l.length) : Sl enc sz lo hi w (.slice a l.length c) l := hn ▸ h
theorem subS.refl {s : Sp} (h : s.lo ≤ s.hi) : subS s s := ⟨Int.le_refl _, h, Int.le_refl _⟩
theorem subTs_of_mix {ms : List Mch} {lt ts : List Tsk} {k : Nat} (h : mixT k lt ts) (ho : JobOk ms ts) : subTs lt ts := ⟨h.1, fun i x y hx hy => by
  obtain ⟨⟨h1, h2, h3, h4, h5⟩, _⟩ := h.2.1 i x y hx hy
  have t := ho.to_ i y hy
  refine ⟨h1, ?_, ?_, ?_, h5⟩
  · rw [h2]; exact subS.refl t.ho.2.1
  · rw [h3]; exact subS.refl t.wa.2.1
  · rw [h4]; exact subS.refl t.fr.2.1⟩
theorem subTs.set {lt ts : List Tsk} {k : Nat} {z y : Tsk} (h : subTs lt ts) (hz : lt[k]? = some z) (h1 : y.m = z.m) (h2 : subS y.ho z.ho) (h3 : subS y.wa z.wa) (h4 : subS y.fr z.fr) (h5 : y.af = z.af) : subTs (lt.set k y) ts := by
  have hk := (List.getElem?_eq_some_iff.1 hz).1
  refine ⟨by rw [List.length_set]; exact h.1, fun i x t hx ht => ?_⟩
  rw [List.getElem?_set] at hx
  by_cases e : k = i
  · subst e
    rw [if_pos rfl, if_pos hk] at hx
    injection hx with hx
    subst hx
    obtain ⟨a1, a2, a3, a4, a5⟩ := h.2 k z t hz ht
    unfold subS at *
    exact ⟨by rw [h1]; exact a1, by unfold subS; omega, by unfold subS; omega, by unfold subS; omega, by rw [h5]; exact a5⟩
  · rw [if_neg e] at hx
    exact h.2 i x t hx ht
theorem sl_set {lt : List Tsk} {k : Nat} {z y : Tsk} (h : ∀ t ∈ lt, sliceB t.av = true) (hz : lt[k]? = some z) (hv : y.av = z.av) : ∀ t ∈ lt.set k y, sliceB t.av = true := fun t ht => by
  rcases List.mem_or_eq_of_mem_set ht with h2 | h2
  · exact h t h2
  · subst h2; rw [hv]; exact h z (List.mem_of_getElem? hz)
theorem tsksErr_of {nm : Int} : ∀ {l : List Tsk} {i : Nat}, (∀ (k : Nat) (t : Tsk), l[k]? = some t → tskErr nm ((i + k : Nat) : Int) t = 0) → tsksErr nm i l = 0
  | [], _, _ => rfl
  | y :: l, i, h => by
    have h0 := h 0 y rfl
    rw [Nat.add_zero] at h0
    rw [tsksErr, if_neg (not_not_intro h0)]
    exact tsksErr_of fun k t hk => by
      have := h (k + 1) t (by simpa using hk)
      rwa [show i + (k + 1) = i + 1 + k by omega] at this
theorem jobErr_sub {ms : List Mch} {lt ts : List Tsk} (h : jobErr ms ts = 0) (hs : subTs lt ts) : jobErr ms lt = 0 := by
  have ho := jobOk h
  refine jobErr_of ho.nm ?_ (by rw [hs.1]; exact ho.nt) (tsksErr_of fun k t hk => ?_)
  · unfold jobErr at h
    split at h
    · cases h
    · split at h
      · contradiction
      · rename_i h1; exact Classical.not_not.1 h1
  · have hkl := (List.getElem?_eq_some_iff.1 hk).1
    have hy := tk_at (ts := ts) (k := k) (by rw [← hs.1]; exact hkl)
    obtain ⟨a1, a2, a3, a4, a5⟩ := hs.2 k t _ hk hy
    have o := ho.to_ k _ hy
    have o1 := o.m; have o2 := o.ho; have o3 := o.wa; have o4 := o.fr
    unfold subS at a2 a3 a4
    rw [Nat.zero_add]
    exact tskErr_of (by omega) (by omega) (by omega) (by omega) (by rw [a5]; exact afErr_of o.af (by simpa using o.nd))
def InnerJP (sb : Nat) (ms : List Mch) (ts : List Tsk) (w : World) : Ending → World → Prop := fun e w' => ∃ (lt : List Tsk) (a1 a2 : Option Addr) (c1 c2 lo hi : Nat), e = .returned (.agg #[.slice a1 ms.length c1, .slice a2 lt.length c2]) ∧ (w.heap.size ≤ lo ∧ hi ≤ w'.heap.size) ∧
  JobAt lo hi w' (.slice a1 ms.length c1) (.slice a2 lt.length c2) ms lt ∧ (subTs lt ts ∧ jobErr ms lt = 0) ∧ SeedAt w' sb ∧ w.grownBy w' (some sb)

set_option maxHeartbeats 16000000 in
theorem innerJob_c (sb lo hi : Nat) (vm vt : Value) (ms : List Mch) (ts : List Tsk) (w : World) (hs : SeedAt w sb) (hj : JobAt lo hi w vm vt ms ts) (h2 : hi ≤ w.heap.size) (hxs : ¬ (lo ≤ sb ∧ sb < hi)) (hje : jobErr ms ts = 0) :
    Calls Try.prog 29 #[.pointer (some ⟨sb, 0, none⟩), .agg #[vm, vt]] w (InnerJP sb ms ts w) := by
  have F1 : Bus w sb [rseed sb] w := Bus.ofSeed hs
  have hsl := hs.lt
  clear hs
  obtain ⟨hms, hts, haf⟩ := hj
  have hm_ms := hms.len
  unfold maxLen at hm_ms
  obtain ⟨aM, cM, rfl⟩ := hms.any
  have F2 := F1.sl0 hms h2 hxs (onlyS_seed _)
  clear F1
  clear hms
  have hm_ts := hts.len
  unfold maxLen at hm_ts
  obtain ⟨aT, cT, rfl⟩ := hts.any
  have F3 := F2.sl0 hts h2 hxs (onlyS_cons (onlyS_seed _) _ rfl)
  clear F2
  clear hts
  have HJE := Lib.hid hje
  have HOK := Lib.hid (jobOk hje)
  have HAF := Lib.hid haf
  clear hje haf
  go_enter Try.func29, Try.ntmps29
  go_wp2_with fail
  have F4 := F3.new 25 #[.slice aM ms.length cM, .slice aT ts.length cT] (n := w.heap.size) (by simp)
  clear F3
  have F5 := F4.new 25 #[.slice none 0 0, .slice none 0 0] (n := (w.heap.size + 1)) (by simp)
  clear F4
  obtain ⟨w6, hx7, F9, hxs8⟩ := (show Bus w sb [rbox (w.heap.size + 1) 25 #[.slice none 0 0, .slice none 0 0], rbox w.heap.size 25 #[.slice aM ms.length cM, .slice aT ts.length cT], rsl tskEnc 8 lo hi (.slice aT ts.length cT) ts, rsl mchEnc 3 lo hi (.slice aM ms.length cM) ms, rseed sb] _ from F5).name
  (try simp at hxs8)
  rw [hx7]
  clear hx7 F5
  refine (ownJob_c lo hi _ _ ms ts _ (JobAt.mk (F9.at 3 rfl : Sl mchEnc 3 lo hi _ (.slice aM ms.length cM) ms) (F9.at 2 rfl : Sl tskEnc 8 lo hi _ (.slice aT ts.length cT) ts) (Afs.gb HAF.out F9.gb (fun g e => by cases e; omega))) (Nat.le_trans h2 F9.gb.size) (by have := HOK.out.nm; omega) (by have := HOK.out.nt; omega) (af_few HOK.out)).mono ?_
  rintro e w10 ⟨v1, v2, lt0, rfl, hmx, hB11⟩
  have hB11s := hB11.gb.size
  (try simp at hB11s)
  have F12 := F9.joinB (L2 := [rown mchEnc 77 3 w6.heap.size v1 ms, rown tskEncS 79 8 w6.heap.size v2 lt0, rafo w6.heap.size lt0]) hB11 rfl
  clear F9
  clear hB11
  (try dsimp only [List.cons_append, List.nil_append] at F12)
  have hlt0 : lt0.length ≤ ts.length ∧ ts.length ≤ lt0.length := ⟨Nat.le_of_eq hmx.1, Nat.le_of_eq hmx.1.symm⟩
  have HMX := Lib.hid hmx
  clear hmx
  obtain ⟨oa1, oc1, e_⟩ := (Own.sl (F12.at 0 rfl : Own mchEnc 77 3 w6.heap.size _ v1 ms) (fun _ => rfl)).any
  subst e_
  obtain ⟨oa2, oc2, e_⟩ := (Own.sl (F12.at 1 rfl : Own tskEncS 79 8 w6.heap.size _ v2 lt0) (fun _ => rfl)).any
  subst e_
  (skip)
  go_wp2_with fail
  have F13 := F12.new 25 #[.slice oa1 ms.length oc1, .slice oa2 lt0.length oc2] (n := w10.heap.size) (by simp)
  clear F12
  have HST := Lib.hid (subTs_of_mix HMX.out HOK.out)
  have HSL := Lib.hid HMX.out.2.2
  obtain ⟨HI14_, HI140⟩ : ∃ I : (Nat → Value) → List Deferred → World → Prop, I = (fun t ds wr => ∃ (k : Nat) (lt : List Tsk), t 0 = .pointer (some ⟨sb, 0, none⟩) ∧ t 4 = .pointer (some ⟨w.heap.size + 1, 0, none⟩) ∧ t 5 = .pointer (some ⟨w10.heap.size, 0, none⟩) ∧ t 6 = .int .i64 (k : Int) ∧ (lt.length ≤ lt0.length ∧ lt0.length ≤ lt.length) ∧ k ≤ lt0.length ∧ Hid (subTs lt ts) ∧ Hid (∀ t ∈ lt, sliceB t.av = true) ∧ ds = [] ∧ w10.heap.size ≤ wr.heap.size ∧ Bus w sb [rbox w10.heap.size 25 #[.slice oa1 ms.length oc1, .slice oa2 lt0.length oc2], rown mchEnc 77 3 w6.heap.size (.slice oa1 ms.length oc1) ms, rown tskEncS 79 8 w6.heap.size (.slice oa2 lt0.length oc2) lt, rafo w6.heap.size lt, rbox (w.heap.size + 1) 25 #[.slice none 0 0, .slice none 0 0], rsl tskEnc 8 lo hi (.slice aT ts.length cT) ts, rsl mchEnc 3 lo hi (.slice aM ms.length cM) ms, rseed sb] wr) := ⟨_, rfl⟩
  have HI14 := Lib.hid HI140
  clear HI140
  refine wp_loopS 49 rfl HI14_ (fun t wr => lt0.length - (intOf (t 6)).toNat) ?atStart1 ?round1
  case round1 =>
    intro t ds wr hHid
    rw [HI14.out] at hHid
    obtain ⟨k, lt, e0, e4, e5, e6, hrel⟩ := hHid
    have e : ((List.range 49).map t).toArray = #[t 0, t 1, t 2, t 3, t 4, t 5, t 6, t 7, t 8, t 9, t 10, t 11, t 12, t 13, t 14, t 15, t 16, t 17, t 18, t 19, t 20, t 21, t 22, t 23, t 24, t 25, t 26, t 27, t 28, t 29, t 30, t 31, t 32, t 33, t 34, t 35, t 36, t 37, t 38, t 39, t 40, t 41, t 42, t 43, t 44, t 45, t 46, t 47, t 48] := rfl
    (try dsimp only at e)
    rw [e0, e4, e5, e6] at e
    rw [e]
    simp only [e6]
    clear e e0 e4 e5 e6
    obtain ⟨hltl, hk, HST, HSL, rfl, hs16, hF15⟩ := hrel
    clear F13
    obtain ⟨w17, rfl⟩ : ∃ x_ : World, x_ = wr := ⟨_, rfl⟩
    by_cases c18 : (k : Int) < (lt0.length : Int)
    · skip
      have c18H := Lib.hid c18
      obtain ⟨gT19, cT20, e_⟩ := Own.opn (hF15.at 2 rfl : Own tskEncS 79 8 w6.heap.size _ (.slice oa2 lt0.length oc2) lt) (by omega)
      injection e_ with e1_ _ _
      subst e1_
      have gT19l := (hF15.ltAt 2 rfl _ rfl).1
      obtain ⟨z, hz21_⟩ : ∃ z_, lt[k]? = some z_ := ⟨_, List.getElem?_eq_getElem (by omega)⟩
      have hz21 := Lib.hid hz21_
      clear hz21_
      have HZ0 := hz21
      have hzy := HST.out.2 k z _ hz21.out (tk_at (by omega))
      have hyo := HOK.out.to_ k _ (tk_at (ts := ts) (k := k) (by omega))
      have hy2 := hyo.ho
      have hy3 := hyo.wa
      have hy4 := hyo.fr
      obtain ⟨_, hz2, hz3, hz4, _⟩ := hzy
      unfold subS at hz2 hz3 hz4
      clear hyo
      have b31 := hF15.bx2 0 rfl
      go_wp2_with fail
      clear b31
      have F32 := hF15.drew
      clear hF15
      refine ru_begin (fun W => W.cell? ⟨gT19, k * 8 + 5, none⟩ = some (.int .i64 z.fr.lo) ∧ W.cell? ⟨gT19, k * 8 + 5 + 1, none⟩ = some (.int .i64 z.fr.hi)) 29 (by kernel_rfl) ?_ ?_
      · exact ⟨(by simpa using (Own.sl (F32.at 2 rfl : Own tskEncS 79 8 w6.heap.size _ (.slice (some ⟨gT19, 0, none⟩) lt0.length oc2) lt) (fun _ => rfl)).cells hz21.out 5 _ rfl), (by simpa using (Own.sl (F32.at 2 rfl : Own tskEncS 79 8 w6.heap.size _ (.slice (some ⟨gT19, 0, none⟩) lt0.length oc2) lt) (fun _ => rfl)).cells hz21.out 6 _ rfl)⟩
      obtain ⟨wd34, hwd_⟩ : ∃ x : World, w17.drew = x := ⟨_, rfl⟩
      rw [hwd_] at F32 ⊢
      have wd34s : w17.heap.size ≤ wd34.heap.size := by rw [← hwd_]; exact Nat.le_refl _
      clear hwd_
      have hS33 := (And.intro ((by simpa using (Own.sl (F32.at 2 rfl : Own tskEncS 79 8 w6.heap.size _ (.slice (some ⟨gT19, 0, none⟩) lt0.length oc2) lt) (fun _ => rfl)).cells hz21.out 5 _ rfl)) ((by simpa using (Own.sl (F32.at 2 rfl : Own tskEncS 79 8 w6.heap.size _ (.slice (some ⟨gT19, 0, none⟩) lt0.length oc2) lt) (fun _ => rfl)).cells hz21.out 6 _ rfl)))
      refine ru_t 0 [] ?_
      refine ru_t 1 [] ?_
      refine ru_t 2 [] ?_
      refine ru_t 3 [] ?_
      refine ru_t 4 [] ?_
      refine ru_t 5 [] ?_
      refine ru_t 6 [] ?_
      refine ru_t 9 [] ?_
      refine ru_t 10 [] ?_
      refine ru_t 11 [] ?_
      refine ru_t 12 [] ?_
      refine ru_t 15 [] ?_
      refine ru_t 16 [] ?_
      refine ru_t 17 [] ?_
      refine ru_t 18 [] ?_
      refine ru_t 19 [] ?_
      (try simp only [Act.put, List.setIfInBounds_toArray, List.set_cons_zero, List.set_cons_succ])
      clear hS33
      refine ru_two 7 13 rfl rfl (by kernel_rfl) ?_ ?_
      · intro K hK
        have kq0_ := (by simpa using (Own.sl (F32.at 2 rfl : Own tskEncS 79 8 w6.heap.size _ (.slice (some ⟨gT19, 0, none⟩) lt0.length oc2) lt) (fun _ => rfl)).cells hz21.out 1 _ rfl)
        have kq1_ := (by simpa using (Own.sl (F32.at 2 rfl : Own tskEncS 79 8 w6.heap.size _ (.slice (some ⟨gT19, 0, none⟩) lt0.length oc2) lt) (fun _ => rfl)).cells hz21.out 2 _ rfl)
        go_simp
        clear kq0_ kq1_
        refine ru_back hK (by exact ⟨(by simpa using (Own.sl (F32.at 2 rfl : Own tskEncS 79 8 w6.heap.size _ (.slice (some ⟨gT19, 0, none⟩) lt0.length oc2) lt) (fun _ => rfl)).cells hz21.out 5 _ rfl), (by simpa using (Own.sl (F32.at 2 rfl : Own tskEncS 79 8 w6.heap.size _ (.slice (some ⟨gT19, 0, none⟩) lt0.length oc2) lt) (fun _ => rfl)).cells hz21.out 6 _ rfl)⟩) (fun hHeld => ?_)
        clear hK K
        (try simp only [Act.put, List.setIfInBounds_toArray, List.set_cons_zero, List.set_cons_succ])
        refine ru_two 8 13 rfl rfl (by kernel_rfl) ?_ ?_
        · intro K hK
          go_simp
          refine (part_c sb z.ho.lo z.ho.hi _ (F32.at 7 rfl : SeedAt _ sb) (by omega) (by omega) (by omega)).mono ?_
          rintro e w40 ⟨_, rfl, ⟨lo35, hi36, rfl, hr37a, hr37b, hr37c⟩, hs39, hg38⟩
          have hg38s := hg38.size
          (try simp at hg38s)
          have F41 := F32.seedAt 7 rfl hg38 hs39
          clear F32
          refine ru_back hK (by exact ⟨(by simpa using (Own.sl (F41.at 2 rfl : Own tskEncS 79 8 w6.heap.size _ (.slice (some ⟨gT19, 0, none⟩) lt0.length oc2) lt) (fun _ => rfl)).cells hz21.out 5 _ rfl), (by simpa using (Own.sl (F41.at 2 rfl : Own tskEncS 79 8 w6.heap.size _ (.slice (some ⟨gT19, 0, none⟩) lt0.length oc2) lt) (fun _ => rfl)).cells hz21.out 6 _ rfl)⟩) (fun hHeld => ?_)
          clear hK K
          (try simp only [Act.put, List.setIfInBounds_toArray, List.set_cons_zero, List.set_cons_succ])
          refine ru_one 13 rfl (by kernel_rfl) (fun K hK => ?_)
          have kq0_ := (by simpa using (Own.sl (F41.at 2 rfl : Own tskEncS 79 8 w6.heap.size _ (.slice (some ⟨gT19, 0, none⟩) lt0.length oc2) lt) (fun _ => rfl)).cells hz21.out 3 _ rfl)
          have kq1_ := (by simpa using (Own.sl (F41.at 2 rfl : Own tskEncS 79 8 w6.heap.size _ (.slice (some ⟨gT19, 0, none⟩) lt0.length oc2) lt) (fun _ => rfl)).cells hz21.out 4 _ rfl)
          go_simp
          clear kq0_ kq1_
          refine ru_back hK (by exact ⟨(by simpa using (Own.sl (F41.at 2 rfl : Own tskEncS 79 8 w6.heap.size _ (.slice (some ⟨gT19, 0, none⟩) lt0.length oc2) lt) (fun _ => rfl)).cells hz21.out 5 _ rfl), (by simpa using (Own.sl (F41.at 2 rfl : Own tskEncS 79 8 w6.heap.size _ (.slice (some ⟨gT19, 0, none⟩) lt0.length oc2) lt) (fun _ => rfl)).cells hz21.out 6 _ rfl)⟩) (fun hHeld => ?_)
          clear hK K
          (try simp only [Act.put, List.setIfInBounds_toArray, List.set_cons_zero, List.set_cons_succ])
          refine ru_one 14 rfl (by kernel_rfl) (fun K hK => ?_)
          go_simp
          refine (part_c sb z.wa.lo z.wa.hi _ (F41.at 7 rfl : SeedAt _ sb) (by omega) (by omega) (by omega)).mono ?_
          rintro e w47 ⟨_, rfl, ⟨lo42, hi43, rfl, hr44a, hr44b, hr44c⟩, hs46, hg45⟩
          have hg45s := hg45.size
          (try simp at hg45s)
          have F48 := F41.seedAt 7 rfl hg45 hs46
          clear F41
          refine ru_back hK (by exact ⟨(by simpa using (Own.sl (F48.at 2 rfl : Own tskEncS 79 8 w6.heap.size _ (.slice (some ⟨gT19, 0, none⟩) lt0.length oc2) lt) (fun _ => rfl)).cells hz21.out 5 _ rfl), (by simpa using (Own.sl (F48.at 2 rfl : Own tskEncS 79 8 w6.heap.size _ (.slice (some ⟨gT19, 0, none⟩) lt0.length oc2) lt) (fun _ => rfl)).cells hz21.out 6 _ rfl)⟩) (fun hHeld => ?_)
          clear hK K
          (try simp only [Act.put, List.setIfInBounds_toArray, List.set_cons_zero, List.set_cons_succ])
          refine ru_one 20 rfl (by kernel_rfl) (fun K hK => ?_)
          go_simp
          refine (part_c sb z.fr.lo z.fr.hi _ (F48.at 7 rfl : SeedAt _ sb) (by omega) (by omega) (by omega)).mono ?_
          rintro e w54 ⟨_, rfl, ⟨lo49, hi50, rfl, hr51a, hr51b, hr51c⟩, hs53, hg52⟩
          have hg52s := hg52.size
          (try simp at hg52s)
          have F55 := F48.seedAt 7 rfl hg52 hs53
          clear F48
          refine ru_back hK (by exact ⟨(by simpa using (Own.sl (F55.at 2 rfl : Own tskEncS 79 8 w6.heap.size _ (.slice (some ⟨gT19, 0, none⟩) lt0.length oc2) lt) (fun _ => rfl)).cells hz21.out 5 _ rfl), (by simpa using (Own.sl (F55.at 2 rfl : Own tskEncS 79 8 w6.heap.size _ (.slice (some ⟨gT19, 0, none⟩) lt0.length oc2) lt) (fun _ => rfl)).cells hz21.out 6 _ rfl)⟩) (fun hHeld => ?_)
          clear hK K
          (try simp only [Act.put, List.setIfInBounds_toArray, List.set_cons_zero, List.set_cons_succ])
          refine ru_p 21 ?_
          (try simp only [Act.put, List.setIfInBounds_toArray, List.set_cons_zero, List.set_cons_succ])
          refine ru_p 22 ?_
          (try simp only [Act.put, List.setIfInBounds_toArray, List.set_cons_zero, List.set_cons_succ])
          refine ru_one 23 rfl (by kernel_rfl) (fun K hK => ?_)
          have kc0_ : World.cell? _ ⟨gT19, k * 8 + 1, none⟩ = some (.int .i64 z.ho.lo) := (by simpa using (Own.sl (F55.at 2 rfl : Own tskEncS 79 8 w6.heap.size _ (.slice (some ⟨gT19, 0, none⟩) lt0.length oc2) lt) (fun _ => rfl)).cells hz21.out 1 _ rfl)
          have kf0_ : World.frozen? _ ⟨gT19, k * 8 + 1, none⟩ = false := Own.live (F55.at 2 rfl : Own tskEncS 79 8 w6.heap.size _ (.slice (some ⟨gT19, 0, none⟩) lt0.length oc2) lt) _
          have kc1_ : World.cell? _ ⟨gT19, k * 8 + 1 + 1, none⟩ = some (.int .i64 z.ho.hi) := (by simpa using (Own.sl (F55.at 2 rfl : Own tskEncS 79 8 w6.heap.size _ (.slice (some ⟨gT19, 0, none⟩) lt0.length oc2) lt) (fun _ => rfl)).cells hz21.out 2 _ rfl)
          have kf1_ : World.frozen? _ ⟨gT19, k * 8 + 1 + 1, none⟩ = false := Own.live (F55.at 2 rfl : Own tskEncS 79 8 w6.heap.size _ (.slice (some ⟨gT19, 0, none⟩) lt0.length oc2) lt) _
          go_simp
          clear kc0_ kf0_ kc1_ kf1_
          have F56 := Bus.setOwn (sz := 8) (fun _ => rfl) (F55.front 2 rfl rfl) hz21.out (y := (⟨z.m, ⟨lo35, z.ho.hi⟩, ⟨z.wa.lo, z.wa.hi⟩, ⟨z.fr.lo, z.fr.hi⟩, z.af, z.av⟩)) (j := 1) (u := (.int .i64 lo35)) (k := (k * 8 + 1)) (by decide) rfl (by omega)
          clear F55
          have hz57 : Hid ((lt.set k (⟨z.m, ⟨lo35, z.ho.hi⟩, ⟨z.wa.lo, z.wa.hi⟩, ⟨z.fr.lo, z.fr.hi⟩, z.af, z.av⟩))[k]? = some (⟨z.m, ⟨lo35, z.ho.hi⟩, ⟨z.wa.lo, z.wa.hi⟩, ⟨z.fr.lo, z.fr.hi⟩, z.af, z.av⟩)) := Lib.hid (set_at (by omega))
          have F58 := Bus.setOwn (sz := 8) (fun _ => rfl) F56 hz57.out (y := (⟨z.m, ⟨lo35, hi36⟩, ⟨z.wa.lo, z.wa.hi⟩, ⟨z.fr.lo, z.fr.hi⟩, z.af, z.av⟩)) (j := 2) (u := (.int .i64 hi36)) (k := (k * 8 + 1 + 1)) (by decide) rfl (by omega)
          clear F56
          rw [List.set_set] at F58
          have hz59 : Hid ((lt.set k (⟨z.m, ⟨lo35, hi36⟩, ⟨z.wa.lo, z.wa.hi⟩, ⟨z.fr.lo, z.fr.hi⟩, z.af, z.av⟩))[k]? = some (⟨z.m, ⟨lo35, hi36⟩, ⟨z.wa.lo, z.wa.hi⟩, ⟨z.fr.lo, z.fr.hi⟩, z.af, z.av⟩)) := Lib.hid (set_at (by omega))
          refine ru_back hK (by exact ⟨(by simpa using (Own.sl (F58.at 0 rfl : Own tskEncS 79 8 w6.heap.size _ (.slice (some ⟨gT19, 0, none⟩) lt0.length oc2) (lt.set k (⟨z.m, ⟨lo35, hi36⟩, ⟨z.wa.lo, z.wa.hi⟩, ⟨z.fr.lo, z.fr.hi⟩, z.af, z.av⟩))) (fun _ => rfl)).cells hz59.out 5 _ rfl), (by simpa using (Own.sl (F58.at 0 rfl : Own tskEncS 79 8 w6.heap.size _ (.slice (some ⟨gT19, 0, none⟩) lt0.length oc2) (lt.set k (⟨z.m, ⟨lo35, hi36⟩, ⟨z.wa.lo, z.wa.hi⟩, ⟨z.fr.lo, z.fr.hi⟩, z.af, z.av⟩))) (fun _ => rfl)).cells hz59.out 6 _ rfl)⟩) (fun hHeld => ?_)
          clear hK K
          (try simp only [Act.put, List.setIfInBounds_toArray, List.set_cons_zero, List.set_cons_succ])
          refine ru_p 24 ?_
          (try simp only [Act.put, List.setIfInBounds_toArray, List.set_cons_zero, List.set_cons_succ])
          refine ru_p 25 ?_
          (try simp only [Act.put, List.setIfInBounds_toArray, List.set_cons_zero, List.set_cons_succ])
          refine ru_one 26 rfl (by kernel_rfl) (fun K hK => ?_)
          have kc0_ : World.cell? _ ⟨gT19, k * 8 + 3, none⟩ = some (.int .i64 z.wa.lo) := (by simpa using (Own.sl (F58.at 0 rfl : Own tskEncS 79 8 w6.heap.size _ (.slice (some ⟨gT19, 0, none⟩) lt0.length oc2) (lt.set k (⟨z.m, ⟨lo35, hi36⟩, ⟨z.wa.lo, z.wa.hi⟩, ⟨z.fr.lo, z.fr.hi⟩, z.af, z.av⟩))) (fun _ => rfl)).cells hz59.out 3 _ rfl)
          have kf0_ : World.frozen? _ ⟨gT19, k * 8 + 3, none⟩ = false := Own.live (F58.at 0 rfl : Own tskEncS 79 8 w6.heap.size _ (.slice (some ⟨gT19, 0, none⟩) lt0.length oc2) (lt.set k (⟨z.m, ⟨lo35, hi36⟩, ⟨z.wa.lo, z.wa.hi⟩, ⟨z.fr.lo, z.fr.hi⟩, z.af, z.av⟩))) _
          have kc1_ : World.cell? _ ⟨gT19, k * 8 + 3 + 1, none⟩ = some (.int .i64 z.wa.hi) := (by simpa using (Own.sl (F58.at 0 rfl : Own tskEncS 79 8 w6.heap.size _ (.slice (some ⟨gT19, 0, none⟩) lt0.length oc2) (lt.set k (⟨z.m, ⟨lo35, hi36⟩, ⟨z.wa.lo, z.wa.hi⟩, ⟨z.fr.lo, z.fr.hi⟩, z.af, z.av⟩))) (fun _ => rfl)).cells hz59.out 4 _ rfl)
          have kf1_ : World.frozen? _ ⟨gT19, k * 8 + 3 + 1, none⟩ = false := Own.live (F58.at 0 rfl : Own tskEncS 79 8 w6.heap.size _ (.slice (some ⟨gT19, 0, none⟩) lt0.length oc2) (lt.set k (⟨z.m, ⟨lo35, hi36⟩, ⟨z.wa.lo, z.wa.hi⟩, ⟨z.fr.lo, z.fr.hi⟩, z.af, z.av⟩))) _
          go_simp
          clear kc0_ kf0_ kc1_ kf1_
          have F60 := Bus.setOwn (sz := 8) (fun _ => rfl) F58 hz59.out (y := (⟨z.m, ⟨lo35, hi36⟩, ⟨lo42, z.wa.hi⟩, ⟨z.fr.lo, z.fr.hi⟩, z.af, z.av⟩)) (j := 3) (u := (.int .i64 lo42)) (k := (k * 8 + 3)) (by decide) rfl (by omega)
          clear F58
          rw [List.set_set] at F60
          have hz61 : Hid ((lt.set k (⟨z.m, ⟨lo35, hi36⟩, ⟨lo42, z.wa.hi⟩, ⟨z.fr.lo, z.fr.hi⟩, z.af, z.av⟩))[k]? = some (⟨z.m, ⟨lo35, hi36⟩, ⟨lo42, z.wa.hi⟩, ⟨z.fr.lo, z.fr.hi⟩, z.af, z.av⟩)) := Lib.hid (set_at (by omega))
          have F62 := Bus.setOwn (sz := 8) (fun _ => rfl) F60 hz61.out (y := (⟨z.m, ⟨lo35, hi36⟩, ⟨lo42, hi43⟩, ⟨z.fr.lo, z.fr.hi⟩, z.af, z.av⟩)) (j := 4) (u := (.int .i64 hi43)) (k := (k * 8 + 3 + 1)) (by decide) rfl (by omega)
          clear F60
          rw [List.set_set] at F62
          have hz63 : Hid ((lt.set k (⟨z.m, ⟨lo35, hi36⟩, ⟨lo42, hi43⟩, ⟨z.fr.lo, z.fr.hi⟩, z.af, z.av⟩))[k]? = some (⟨z.m, ⟨lo35, hi36⟩, ⟨lo42, hi43⟩, ⟨z.fr.lo, z.fr.hi⟩, z.af, z.av⟩)) := Lib.hid (set_at (by omega))
          refine ru_back hK (by exact ⟨(by simpa using (Own.sl (F62.at 0 rfl : Own tskEncS 79 8 w6.heap.size _ (.slice (some ⟨gT19, 0, none⟩) lt0.length oc2) (lt.set k (⟨z.m, ⟨lo35, hi36⟩, ⟨lo42, hi43⟩, ⟨z.fr.lo, z.fr.hi⟩, z.af, z.av⟩))) (fun _ => rfl)).cells hz63.out 5 _ rfl), (by simpa using (Own.sl (F62.at 0 rfl : Own tskEncS 79 8 w6.heap.size _ (.slice (some ⟨gT19, 0, none⟩) lt0.length oc2) (lt.set k (⟨z.m, ⟨lo35, hi36⟩, ⟨lo42, hi43⟩, ⟨z.fr.lo, z.fr.hi⟩, z.af, z.av⟩))) (fun _ => rfl)).cells hz63.out 6 _ rfl)⟩) (fun hHeld => ?_)
          clear hK K
          (try simp only [Act.put, List.setIfInBounds_toArray, List.set_cons_zero, List.set_cons_succ])
          refine ru_p 27 ?_
          (try simp only [Act.put, List.setIfInBounds_toArray, List.set_cons_zero, List.set_cons_succ])
          refine ru_p 28 ?_
          (try simp only [Act.put, List.setIfInBounds_toArray, List.set_cons_zero, List.set_cons_succ])
          refine ru_one 29 rfl (by kernel_rfl) (fun K hK => ?_)
          have kc0_ : World.cell? _ ⟨gT19, k * 8 + 5, none⟩ = some (.int .i64 z.fr.lo) := (by simpa using (Own.sl (F62.at 0 rfl : Own tskEncS 79 8 w6.heap.size _ (.slice (some ⟨gT19, 0, none⟩) lt0.length oc2) (lt.set k (⟨z.m, ⟨lo35, hi36⟩, ⟨lo42, hi43⟩, ⟨z.fr.lo, z.fr.hi⟩, z.af, z.av⟩))) (fun _ => rfl)).cells hz63.out 5 _ rfl)
          have kf0_ : World.frozen? _ ⟨gT19, k * 8 + 5, none⟩ = false := Own.live (F62.at 0 rfl : Own tskEncS 79 8 w6.heap.size _ (.slice (some ⟨gT19, 0, none⟩) lt0.length oc2) (lt.set k (⟨z.m, ⟨lo35, hi36⟩, ⟨lo42, hi43⟩, ⟨z.fr.lo, z.fr.hi⟩, z.af, z.av⟩))) _
          have kc1_ : World.cell? _ ⟨gT19, k * 8 + 5 + 1, none⟩ = some (.int .i64 z.fr.hi) := (by simpa using (Own.sl (F62.at 0 rfl : Own tskEncS 79 8 w6.heap.size _ (.slice (some ⟨gT19, 0, none⟩) lt0.length oc2) (lt.set k (⟨z.m, ⟨lo35, hi36⟩, ⟨lo42, hi43⟩, ⟨z.fr.lo, z.fr.hi⟩, z.af, z.av⟩))) (fun _ => rfl)).cells hz63.out 6 _ rfl)
          have kf1_ : World.frozen? _ ⟨gT19, k * 8 + 5 + 1, none⟩ = false := Own.live (F62.at 0 rfl : Own tskEncS 79 8 w6.heap.size _ (.slice (some ⟨gT19, 0, none⟩) lt0.length oc2) (lt.set k (⟨z.m, ⟨lo35, hi36⟩, ⟨lo42, hi43⟩, ⟨z.fr.lo, z.fr.hi⟩, z.af, z.av⟩))) _
          go_simp
          clear kc0_ kf0_ kc1_ kf1_
          have F64 := Bus.setOwn (sz := 8) (fun _ => rfl) F62 hz63.out (y := (⟨z.m, ⟨lo35, hi36⟩, ⟨lo42, hi43⟩, ⟨lo49, z.fr.hi⟩, z.af, z.av⟩)) (j := 5) (u := (.int .i64 lo49)) (k := (k * 8 + 5)) (by decide) rfl (by omega)
          clear F62
          rw [List.set_set] at F64
          have hz65 : Hid ((lt.set k (⟨z.m, ⟨lo35, hi36⟩, ⟨lo42, hi43⟩, ⟨lo49, z.fr.hi⟩, z.af, z.av⟩))[k]? = some (⟨z.m, ⟨lo35, hi36⟩, ⟨lo42, hi43⟩, ⟨lo49, z.fr.hi⟩, z.af, z.av⟩)) := Lib.hid (set_at (by omega))
          have F66 := Bus.setOwn (sz := 8) (fun _ => rfl) F64 hz65.out (y := (⟨z.m, ⟨lo35, hi36⟩, ⟨lo42, hi43⟩, ⟨lo49, hi50⟩, z.af, z.av⟩)) (j := 6) (u := (.int .i64 hi50)) (k := (k * 8 + 5 + 1)) (by decide) rfl (by omega)
          clear F64
          rw [List.set_set] at F66
          have hz67 : Hid ((lt.set k (⟨z.m, ⟨lo35, hi36⟩, ⟨lo42, hi43⟩, ⟨lo49, hi50⟩, z.af, z.av⟩))[k]? = some (⟨z.m, ⟨lo35, hi36⟩, ⟨lo42, hi43⟩, ⟨lo49, hi50⟩, z.af, z.av⟩)) := Lib.hid (set_at (by omega))
          refine ru_back_late hK (by kernel_rfl) ?_
          clear hK K
          (try simp only [Act.put, List.setIfInBounds_toArray, List.set_cons_zero, List.set_cons_succ])
          refine ru_done (by kernel_rfl) ?_
          obtain ⟨w68, hx69, F71, hxs70⟩ := (show Bus w sb [rown tskEncS 79 8 w6.heap.size (.slice (some ⟨gT19, 0, none⟩) lt0.length oc2) (lt.set k (⟨z.m, ⟨lo35, hi36⟩, ⟨lo42, hi43⟩, ⟨lo49, hi50⟩, z.af, z.av⟩)), rbox w10.heap.size 25 #[.slice oa1 ms.length oc1, .slice (some ⟨gT19, 0, none⟩) lt0.length oc2], rown mchEnc 77 3 w6.heap.size (.slice oa1 ms.length oc1) ms, rafo w6.heap.size lt, rbox (w.heap.size + 1) 25 #[.slice none 0 0, .slice none 0 0], rsl tskEnc 8 lo hi (.slice aT ts.length cT) ts, rsl mchEnc 3 lo hi (.slice aM ms.length cM) ms, rseed sb] _ from F66).name
          (try simp at hxs70)
          rw [hx69]
          clear hx69 F66
          go_wp2_with fail
          go_wp2_with fail
          have F72 : Bus w sb [rafo w6.heap.size lt, rown tskEncS 79 8 w6.heap.size (.slice (some ⟨gT19, 0, none⟩) lt0.length oc2) (lt.set k (⟨z.m, ⟨lo35, hi36⟩, ⟨lo42, hi43⟩, ⟨lo49, hi50⟩, z.af, z.av⟩)), rbox w10.heap.size 25 #[.slice oa1 ms.length oc1, .slice (some ⟨gT19, 0, none⟩) lt0.length oc2], rown mchEnc 77 3 w6.heap.size (.slice oa1 ms.length oc1) ms, rbox (w.heap.size + 1) 25 #[.slice none 0 0, .slice none 0 0], rsl tskEnc 8 lo hi (.slice aT ts.length cT) ts, rsl mchEnc 3 lo hi (.slice aM ms.length cM) ms, rseed sb] _ := F71.pick [3, 0, 1, 2, 4, 5, 6, 7] (by decide) rfl
          clear F71
          have F73 := F72.afoSet (⟨z.m, ⟨lo35, hi36⟩, ⟨lo42, hi43⟩, ⟨lo49, hi50⟩, z.af, z.av⟩ : Tsk) HZ0.out rfl rfl
          clear F72
          (skip)
          have F74 : Bus w sb [rbox w10.heap.size 25 #[.slice oa1 ms.length oc1, .slice (some ⟨gT19, 0, none⟩) lt0.length oc2], rown mchEnc 77 3 w6.heap.size (.slice oa1 ms.length oc1) ms, rown tskEncS 79 8 w6.heap.size (.slice (some ⟨gT19, 0, none⟩) lt0.length oc2) (lt.set k (⟨z.m, ⟨lo35, hi36⟩, ⟨lo42, hi43⟩, ⟨lo49, hi50⟩, z.af, z.av⟩)), rafo w6.heap.size (lt.set k (⟨z.m, ⟨lo35, hi36⟩, ⟨lo42, hi43⟩, ⟨lo49, hi50⟩, z.af, z.av⟩ : Tsk)), rbox (w.heap.size + 1) 25 #[.slice none 0 0, .slice none 0 0], rsl tskEnc 8 lo hi (.slice aT ts.length cT) ts, rsl mchEnc 3 lo hi (.slice aM ms.length cM) ms, rseed sb] _ := F73.pick [2, 3, 1, 0, 4, 5, 6, 7] (by decide) rfl
          clear F73
          (first | refine ⟨by kernel_rfl, ?_, ?_⟩ | refine ⟨rfl, ?_, ?_⟩ | refine ⟨?_, ?_⟩)
          · rw [HI14.out]; exact ⟨k + 1, _, (by first | kernel_rfl | rfl), (by first | kernel_rfl | rfl), (by first | kernel_rfl | rfl), (by show Value.int .i64 ((k : Int) + 1) = _; simp), (by simp; omega), (by omega), (Lib.hid (HST.out.set (y := ⟨z.m, ⟨lo35, hi36⟩, ⟨lo42, hi43⟩, ⟨lo49, hi50⟩, z.af, z.av⟩) HZ0.out rfl (by unfold subS; (try simp only); omega) (by unfold subS; (try simp only); omega) (by unfold subS; (try simp only); omega) rfl)), (Lib.hid (sl_set (y := ⟨z.m, ⟨lo35, hi36⟩, ⟨lo42, hi43⟩, ⟨lo49, hi50⟩, z.af, z.av⟩) HSL.out HZ0.out rfl)), (by first | rfl | simp), (by first | omega | (simp; done) | (simp; omega)), F74⟩
          · simp [slot, intOf]; omega
        · intro K hK
          have kq0_ := (by simpa using (Own.sl (F32.at 2 rfl : Own tskEncS 79 8 w6.heap.size _ (.slice (some ⟨gT19, 0, none⟩) lt0.length oc2) lt) (fun _ => rfl)).cells hz21.out 3 _ rfl)
          have kq1_ := (by simpa using (Own.sl (F32.at 2 rfl : Own tskEncS 79 8 w6.heap.size _ (.slice (some ⟨gT19, 0, none⟩) lt0.length oc2) lt) (fun _ => rfl)).cells hz21.out 4 _ rfl)
          go_simp
          clear kq0_ kq1_
          refine ru_back hK (by exact ⟨(by simpa using (Own.sl (F32.at 2 rfl : Own tskEncS 79 8 w6.heap.size _ (.slice (some ⟨gT19, 0, none⟩) lt0.length oc2) lt) (fun _ => rfl)).cells hz21.out 5 _ rfl), (by simpa using (Own.sl (F32.at 2 rfl : Own tskEncS 79 8 w6.heap.size _ (.slice (some ⟨gT19, 0, none⟩) lt0.length oc2) lt) (fun _ => rfl)).cells hz21.out 6 _ rfl)⟩) (fun hHeld => ?_)
          clear hK K
          (try simp only [Act.put, List.setIfInBounds_toArray, List.set_cons_zero, List.set_cons_succ])
          refine ru_one 8 rfl (by kernel_rfl) (fun K hK => ?_)
          go_simp
          refine (part_c sb z.ho.lo z.ho.hi _ (F32.at 7 rfl : SeedAt _ sb) (by omega) (by omega) (by omega)).mono ?_
          rintro e w80 ⟨_, rfl, ⟨lo75, hi76, rfl, hr77a, hr77b, hr77c⟩, hs79, hg78⟩
          have hg78s := hg78.size
          (try simp at hg78s)
          have F81 := F32.seedAt 7 rfl hg78 hs79
          clear F32
          refine ru_back hK (by exact ⟨(by simpa using (Own.sl (F81.at 2 rfl : Own tskEncS 79 8 w6.heap.size _ (.slice (some ⟨gT19, 0, none⟩) lt0.length oc2) lt) (fun _ => rfl)).cells hz21.out 5 _ rfl), (by simpa using (Own.sl (F81.at 2 rfl : Own tskEncS 79 8 w6.heap.size _ (.slice (some ⟨gT19, 0, none⟩) lt0.length oc2) lt) (fun _ => rfl)).cells hz21.out 6 _ rfl)⟩) (fun hHeld => ?_)
          clear hK K
          (try simp only [Act.put, List.setIfInBounds_toArray, List.set_cons_zero, List.set_cons_succ])
          refine ru_one 14 rfl (by kernel_rfl) (fun K hK => ?_)
          go_simp
          refine (part_c sb z.wa.lo z.wa.hi _ (F81.at 7 rfl : SeedAt _ sb) (by omega) (by omega) (by omega)).mono ?_
          rintro e w87 ⟨_, rfl, ⟨lo82, hi83, rfl, hr84a, hr84b, hr84c⟩, hs86, hg85⟩
          have hg85s := hg85.size
          (try simp at hg85s)
          have F88 := F81.seedAt 7 rfl hg85 hs86
          clear F81
          refine ru_back hK (by exact ⟨(by simpa using (Own.sl (F88.at 2 rfl : Own tskEncS 79 8 w6.heap.size _ (.slice (some ⟨gT19, 0, none⟩) lt0.length oc2) lt) (fun _ => rfl)).cells hz21.out 5 _ rfl), (by simpa using (Own.sl (F88.at 2 rfl : Own tskEncS 79 8 w6.heap.size _ (.slice (some ⟨gT19, 0, none⟩) lt0.length oc2) lt) (fun _ => rfl)).cells hz21.out 6 _ rfl)⟩) (fun hHeld => ?_)
          clear hK K
          (try simp only [Act.put, List.setIfInBounds_toArray, List.set_cons_zero, List.set_cons_succ])
          refine ru_one 20 rfl (by kernel_rfl) (fun K hK => ?_)
          go_simp
          refine (part_c sb z.fr.lo z.fr.hi _ (F88.at 7 rfl : SeedAt _ sb) (by omega) (by omega) (by omega)).mono ?_
          rintro e w94 ⟨_, rfl, ⟨lo89, hi90, rfl, hr91a, hr91b, hr91c⟩, hs93, hg92⟩
          have hg92s := hg92.size
          (try simp at hg92s)
          have F95 := F88.seedAt 7 rfl hg92 hs93
          clear F88
          refine ru_back hK (by exact ⟨(by simpa using (Own.sl (F95.at 2 rfl : Own tskEncS 79 8 w6.heap.size _ (.slice (some ⟨gT19, 0, none⟩) lt0.length oc2) lt) (fun _ => rfl)).cells hz21.out 5 _ rfl), (by simpa using (Own.sl (F95.at 2 rfl : Own tskEncS 79 8 w6.heap.size _ (.slice (some ⟨gT19, 0, none⟩) lt0.length oc2) lt) (fun _ => rfl)).cells hz21.out 6 _ rfl)⟩) (fun hHeld => ?_)
          clear hK K
          (try simp only [Act.put, List.setIfInBounds_toArray, List.set_cons_zero, List.set_cons_succ])
          refine ru_p 21 ?_
          (try simp only [Act.put, List.setIfInBounds_toArray, List.set_cons_zero, List.set_cons_succ])
          refine ru_p 22 ?_
          (try simp only [Act.put, List.setIfInBounds_toArray, List.set_cons_zero, List.set_cons_succ])
          refine ru_one 23 rfl (by kernel_rfl) (fun K hK => ?_)
          have kc0_ : World.cell? _ ⟨gT19, k * 8 + 1, none⟩ = some (.int .i64 z.ho.lo) := (by simpa using (Own.sl (F95.at 2 rfl : Own tskEncS 79 8 w6.heap.size _ (.slice (some ⟨gT19, 0, none⟩) lt0.length oc2) lt) (fun _ => rfl)).cells hz21.out 1 _ rfl)
          have kf0_ : World.frozen? _ ⟨gT19, k * 8 + 1, none⟩ = false := Own.live (F95.at 2 rfl : Own tskEncS 79 8 w6.heap.size _ (.slice (some ⟨gT19, 0, none⟩) lt0.length oc2) lt) _
          have kc1_ : World.cell? _ ⟨gT19, k * 8 + 1 + 1, none⟩ = some (.int .i64 z.ho.hi) := (by simpa using (Own.sl (F95.at 2 rfl : Own tskEncS 79 8 w6.heap.size _ (.slice (some ⟨gT19, 0, none⟩) lt0.length oc2) lt) (fun _ => rfl)).cells hz21.out 2 _ rfl)
          have kf1_ : World.frozen? _ ⟨gT19, k * 8 + 1 + 1, none⟩ = false := Own.live (F95.at 2 rfl : Own tskEncS 79 8 w6.heap.size _ (.slice (some ⟨gT19, 0, none⟩) lt0.length oc2) lt) _
          go_simp
          clear kc0_ kf0_ kc1_ kf1_
          have F96 := Bus.setOwn (sz := 8) (fun _ => rfl) (F95.front 2 rfl rfl) hz21.out (y := (⟨z.m, ⟨lo75, z.ho.hi⟩, ⟨z.wa.lo, z.wa.hi⟩, ⟨z.fr.lo, z.fr.hi⟩, z.af, z.av⟩)) (j := 1) (u := (.int .i64 lo75)) (k := (k * 8 + 1)) (by decide) rfl (by omega)
          clear F95
          have hz97 : Hid ((lt.set k (⟨z.m, ⟨lo75, z.ho.hi⟩, ⟨z.wa.lo, z.wa.hi⟩, ⟨z.fr.lo, z.fr.hi⟩, z.af, z.av⟩))[k]? = some (⟨z.m, ⟨lo75, z.ho.hi⟩, ⟨z.wa.lo, z.wa.hi⟩, ⟨z.fr.lo, z.fr.hi⟩, z.af, z.av⟩)) := Lib.hid (set_at (by omega))
          have F98 := Bus.setOwn (sz := 8) (fun _ => rfl) F96 hz97.out (y := (⟨z.m, ⟨lo75, hi76⟩, ⟨z.wa.lo, z.wa.hi⟩, ⟨z.fr.lo, z.fr.hi⟩, z.af, z.av⟩)) (j := 2) (u := (.int .i64 hi76)) (k := (k * 8 + 1 + 1)) (by decide) rfl (by omega)
          clear F96
          rw [List.set_set] at F98
          have hz99 : Hid ((lt.set k (⟨z.m, ⟨lo75, hi76⟩, ⟨z.wa.lo, z.wa.hi⟩, ⟨z.fr.lo, z.fr.hi⟩, z.af, z.av⟩))[k]? = some (⟨z.m, ⟨lo75, hi76⟩, ⟨z.wa.lo, z.wa.hi⟩, ⟨z.fr.lo, z.fr.hi⟩, z.af, z.av⟩)) := Lib.hid (set_at (by omega))
          refine ru_back hK (by exact ⟨(by simpa using (Own.sl (F98.at 0 rfl : Own tskEncS 79 8 w6.heap.size _ (.slice (some ⟨gT19, 0, none⟩) lt0.length oc2) (lt.set k (⟨z.m, ⟨lo75, hi76⟩, ⟨z.wa.lo, z.wa.hi⟩, ⟨z.fr.lo, z.fr.hi⟩, z.af, z.av⟩))) (fun _ => rfl)).cells hz99.out 5 _ rfl), (by simpa using (Own.sl (F98.at 0 rfl : Own tskEncS 79 8 w6.heap.size _ (.slice (some ⟨gT19, 0, none⟩) lt0.length oc2) (lt.set k (⟨z.m, ⟨lo75, hi76⟩, ⟨z.wa.lo, z.wa.hi⟩, ⟨z.fr.lo, z.fr.hi⟩, z.af, z.av⟩))) (fun _ => rfl)).cells hz99.out 6 _ rfl)⟩) (fun hHeld => ?_)
          clear hK K
          (try simp only [Act.put, List.setIfInBounds_toArray, List.set_cons_zero, List.set_cons_succ])
          refine ru_p 24 ?_
          (try simp only [Act.put, List.setIfInBounds_toArray, List.set_cons_zero, List.set_cons_succ])
          refine ru_p 25 ?_
          (try simp only [Act.put, List.setIfInBounds_toArray, List.set_cons_zero, List.set_cons_succ])
          refine ru_one 26 rfl (by kernel_rfl) (fun K hK => ?_)
          have kc0_ : World.cell? _ ⟨gT19, k * 8 + 3, none⟩ = some (.int .i64 z.wa.lo) := (by simpa using (Own.sl (F98.at 0 rfl : Own tskEncS 79 8 w6.heap.size _ (.slice (some ⟨gT19, 0, none⟩) lt0.length oc2) (lt.set k (⟨z.m, ⟨lo75, hi76⟩, ⟨z.wa.lo, z.wa.hi⟩, ⟨z.fr.lo, z.fr.hi⟩, z.af, z.av⟩))) (fun _ => rfl)).cells hz99.out 3 _ rfl)
          have kf0_ : World.frozen? _ ⟨gT19, k * 8 + 3, none⟩ = false := Own.live (F98.at 0 rfl : Own tskEncS 79 8 w6.heap.size _ (.slice (some ⟨gT19, 0, none⟩) lt0.length oc2) (lt.set k (⟨z.m, ⟨lo75, hi76⟩, ⟨z.wa.lo, z.wa.hi⟩, ⟨z.fr.lo, z.fr.hi⟩, z.af, z.av⟩))) _
          have kc1_ : World.cell? _ ⟨gT19, k * 8 + 3 + 1, none⟩ = some (.int .i64 z.wa.hi) := (by simpa using (Own.sl (F98.at 0 rfl : Own tskEncS 79 8 w6.heap.size _ (.slice (some ⟨gT19, 0, none⟩) lt0.length oc2) (lt.set k (⟨z.m, ⟨lo75, hi76⟩, ⟨z.wa.lo, z.wa.hi⟩, ⟨z.fr.lo, z.fr.hi⟩, z.af, z.av⟩))) (fun _ => rfl)).cells hz99.out 4 _ rfl)
          have kf1_ : World.frozen? _ ⟨gT19, k * 8 + 3 + 1, none⟩ = false := Own.live (F98.at 0 rfl : Own tskEncS 79 8 w6.heap.size _ (.slice (some ⟨gT19, 0, none⟩) lt0.length oc2) (lt.set k (⟨z.m, ⟨lo75, hi76⟩, ⟨z.wa.lo, z.wa.hi⟩, ⟨z.fr.lo, z.fr.hi⟩, z.af, z.av⟩))) _
          go_simp
          clear kc0_ kf0_ kc1_ kf1_
          have F100 := Bus.setOwn (sz := 8) (fun _ => rfl) F98 hz99.out (y := (⟨z.m, ⟨lo75, hi76⟩, ⟨lo82, z.wa.hi⟩, ⟨z.fr.lo, z.fr.hi⟩, z.af, z.av⟩)) (j := 3) (u := (.int .i64 lo82)) (k := (k * 8 + 3)) (by decide) rfl (by omega)
          clear F98
          rw [List.set_set] at F100
          have hz101 : Hid ((lt.set k (⟨z.m, ⟨lo75, hi76⟩, ⟨lo82, z.wa.hi⟩, ⟨z.fr.lo, z.fr.hi⟩, z.af, z.av⟩))[k]? = some (⟨z.m, ⟨lo75, hi76⟩, ⟨lo82, z.wa.hi⟩, ⟨z.fr.lo, z.fr.hi⟩, z.af, z.av⟩)) := Lib.hid (set_at (by omega))
          have F102 := Bus.setOwn (sz := 8) (fun _ => rfl) F100 hz101.out (y := (⟨z.m, ⟨lo75, hi76⟩, ⟨lo82, hi83⟩, ⟨z.fr.lo, z.fr.hi⟩, z.af, z.av⟩)) (j := 4) (u := (.int .i64 hi83)) (k := (k * 8 + 3 + 1)) (by decide) rfl (by omega)
          clear F100
          rw [List.set_set] at F102
          have hz103 : Hid ((lt.set k (⟨z.m, ⟨lo75, hi76⟩, ⟨lo82, hi83⟩, ⟨z.fr.lo, z.fr.hi⟩, z.af, z.av⟩))[k]? = some (⟨z.m, ⟨lo75, hi76⟩, ⟨lo82, hi83⟩, ⟨z.fr.lo, z.fr.hi⟩, z.af, z.av⟩)) := Lib.hid (set_at (by omega))
          refine ru_back hK (by exact ⟨(by simpa using (Own.sl (F102.at 0 rfl : Own tskEncS 79 8 w6.heap.size _ (.slice (some ⟨gT19, 0, none⟩) lt0.length oc2) (lt.set k (⟨z.m, ⟨lo75, hi76⟩, ⟨lo82, hi83⟩, ⟨z.fr.lo, z.fr.hi⟩, z.af, z.av⟩))) (fun _ => rfl)).cells hz103.out 5 _ rfl), (by simpa using (Own.sl (F102.at 0 rfl : Own tskEncS 79 8 w6.heap.size _ (.slice (some ⟨gT19, 0, none⟩) lt0.length oc2) (lt.set k (⟨z.m, ⟨lo75, hi76⟩, ⟨lo82, hi83⟩, ⟨z.fr.lo, z.fr.hi⟩, z.af, z.av⟩))) (fun _ => rfl)).cells hz103.out 6 _ rfl)⟩) (fun hHeld => ?_)
          clear hK K
          (try simp only [Act.put, List.setIfInBounds_toArray, List.set_cons_zero, List.set_cons_succ])
          refine ru_p 27 ?_
          (try simp only [Act.put, List.setIfInBounds_toArray, List.set_cons_zero, List.set_cons_succ])
          refine ru_p 28 ?_
          (try simp only [Act.put, List.setIfInBounds_toArray, List.set_cons_zero, List.set_cons_succ])
          refine ru_one 29 rfl (by kernel_rfl) (fun K hK => ?_)
          have kc0_ : World.cell? _ ⟨gT19, k * 8 + 5, none⟩ = some (.int .i64 z.fr.lo) := (by simpa using (Own.sl (F102.at 0 rfl : Own tskEncS 79 8 w6.heap.size _ (.slice (some ⟨gT19, 0, none⟩) lt0.length oc2) (lt.set k (⟨z.m, ⟨lo75, hi76⟩, ⟨lo82, hi83⟩, ⟨z.fr.lo, z.fr.hi⟩, z.af, z.av⟩))) (fun _ => rfl)).cells hz103.out 5 _ rfl)
          have kf0_ : World.frozen? _ ⟨gT19, k * 8 + 5, none⟩ = false := Own.live (F102.at 0 rfl : Own tskEncS 79 8 w6.heap.size _ (.slice (some ⟨gT19, 0, none⟩) lt0.length oc2) (lt.set k (⟨z.m, ⟨lo75, hi76⟩, ⟨lo82, hi83⟩, ⟨z.fr.lo, z.fr.hi⟩, z.af, z.av⟩))) _
          have kc1_ : World.cell? _ ⟨gT19, k * 8 + 5 + 1, none⟩ = some (.int .i64 z.fr.hi) := (by simpa using (Own.sl (F102.at 0 rfl : Own tskEncS 79 8 w6.heap.size _ (.slice (some ⟨gT19, 0, none⟩) lt0.length oc2) (lt.set k (⟨z.m, ⟨lo75, hi76⟩, ⟨lo82, hi83⟩, ⟨z.fr.lo, z.fr.hi⟩, z.af, z.av⟩))) (fun _ => rfl)).cells hz103.out 6 _ rfl)
          have kf1_ : World.frozen? _ ⟨gT19, k * 8 + 5 + 1, none⟩ = false := Own.live (F102.at 0 rfl : Own tskEncS 79 8 w6.heap.size _ (.slice (some ⟨gT19, 0, none⟩) lt0.length oc2) (lt.set k (⟨z.m, ⟨lo75, hi76⟩, ⟨lo82, hi83⟩, ⟨z.fr.lo, z.fr.hi⟩, z.af, z.av⟩))) _
          go_simp
          clear kc0_ kf0_ kc1_ kf1_
          have F104 := Bus.setOwn (sz := 8) (fun _ => rfl) F102 hz103.out (y := (⟨z.m, ⟨lo75, hi76⟩, ⟨lo82, hi83⟩, ⟨lo89, z.fr.hi⟩, z.af, z.av⟩)) (j := 5) (u := (.int .i64 lo89)) (k := (k * 8 + 5)) (by decide) rfl (by omega)
          clear F102
          rw [List.set_set] at F104
          have hz105 : Hid ((lt.set k (⟨z.m, ⟨lo75, hi76⟩, ⟨lo82, hi83⟩, ⟨lo89, z.fr.hi⟩, z.af, z.av⟩))[k]? = some (⟨z.m, ⟨lo75, hi76⟩, ⟨lo82, hi83⟩, ⟨lo89, z.fr.hi⟩, z.af, z.av⟩)) := Lib.hid (set_at (by omega))
          have F106 := Bus.setOwn (sz := 8) (fun _ => rfl) F104 hz105.out (y := (⟨z.m, ⟨lo75, hi76⟩, ⟨lo82, hi83⟩, ⟨lo89, hi90⟩, z.af, z.av⟩)) (j := 6) (u := (.int .i64 hi90)) (k := (k * 8 + 5 + 1)) (by decide) rfl (by omega)
          clear F104
          rw [List.set_set] at F106
          have hz107 : Hid ((lt.set k (⟨z.m, ⟨lo75, hi76⟩, ⟨lo82, hi83⟩, ⟨lo89, hi90⟩, z.af, z.av⟩))[k]? = some (⟨z.m, ⟨lo75, hi76⟩, ⟨lo82, hi83⟩, ⟨lo89, hi90⟩, z.af, z.av⟩)) := Lib.hid (set_at (by omega))
          refine ru_back_late hK (by kernel_rfl) ?_
          clear hK K
          (try simp only [Act.put, List.setIfInBounds_toArray, List.set_cons_zero, List.set_cons_succ])
          refine ru_done (by kernel_rfl) ?_
          obtain ⟨w108, hx109, F111, hxs110⟩ := (show Bus w sb [rown tskEncS 79 8 w6.heap.size (.slice (some ⟨gT19, 0, none⟩) lt0.length oc2) (lt.set k (⟨z.m, ⟨lo75, hi76⟩, ⟨lo82, hi83⟩, ⟨lo89, hi90⟩, z.af, z.av⟩)), rbox w10.heap.size 25 #[.slice oa1 ms.length oc1, .slice (some ⟨gT19, 0, none⟩) lt0.length oc2], rown mchEnc 77 3 w6.heap.size (.slice oa1 ms.length oc1) ms, rafo w6.heap.size lt, rbox (w.heap.size + 1) 25 #[.slice none 0 0, .slice none 0 0], rsl tskEnc 8 lo hi (.slice aT ts.length cT) ts, rsl mchEnc 3 lo hi (.slice aM ms.length cM) ms, rseed sb] _ from F106).name
          (try simp at hxs110)
          rw [hx109]
          clear hx109 F106
          go_wp2_with fail
          go_wp2_with fail
          have F112 : Bus w sb [rafo w6.heap.size lt, rown tskEncS 79 8 w6.heap.size (.slice (some ⟨gT19, 0, none⟩) lt0.length oc2) (lt.set k (⟨z.m, ⟨lo75, hi76⟩, ⟨lo82, hi83⟩, ⟨lo89, hi90⟩, z.af, z.av⟩)), rbox w10.heap.size 25 #[.slice oa1 ms.length oc1, .slice (some ⟨gT19, 0, none⟩) lt0.length oc2], rown mchEnc 77 3 w6.heap.size (.slice oa1 ms.length oc1) ms, rbox (w.heap.size + 1) 25 #[.slice none 0 0, .slice none 0 0], rsl tskEnc 8 lo hi (.slice aT ts.length cT) ts, rsl mchEnc 3 lo hi (.slice aM ms.length cM) ms, rseed sb] _ := F111.pick [3, 0, 1, 2, 4, 5, 6, 7] (by decide) rfl
          clear F111
          have F113 := F112.afoSet (⟨z.m, ⟨lo75, hi76⟩, ⟨lo82, hi83⟩, ⟨lo89, hi90⟩, z.af, z.av⟩ : Tsk) HZ0.out rfl rfl
          clear F112
          (skip)
          have F114 : Bus w sb [rbox w10.heap.size 25 #[.slice oa1 ms.length oc1, .slice (some ⟨gT19, 0, none⟩) lt0.length oc2], rown mchEnc 77 3 w6.heap.size (.slice oa1 ms.length oc1) ms, rown tskEncS 79 8 w6.heap.size (.slice (some ⟨gT19, 0, none⟩) lt0.length oc2) (lt.set k (⟨z.m, ⟨lo75, hi76⟩, ⟨lo82, hi83⟩, ⟨lo89, hi90⟩, z.af, z.av⟩)), rafo w6.heap.size (lt.set k (⟨z.m, ⟨lo75, hi76⟩, ⟨lo82, hi83⟩, ⟨lo89, hi90⟩, z.af, z.av⟩ : Tsk)), rbox (w.heap.size + 1) 25 #[.slice none 0 0, .slice none 0 0], rsl tskEnc 8 lo hi (.slice aT ts.length cT) ts, rsl mchEnc 3 lo hi (.slice aM ms.length cM) ms, rseed sb] _ := F113.pick [2, 3, 1, 0, 4, 5, 6, 7] (by decide) rfl
          clear F113
          (first | refine ⟨by kernel_rfl, ?_, ?_⟩ | refine ⟨rfl, ?_, ?_⟩ | refine ⟨?_, ?_⟩)
          · rw [HI14.out]; exact ⟨k + 1, _, (by first | kernel_rfl | rfl), (by first | kernel_rfl | rfl), (by first | kernel_rfl | rfl), (by show Value.int .i64 ((k : Int) + 1) = _; simp), (by simp; omega), (by omega), (Lib.hid (HST.out.set (y := ⟨z.m, ⟨lo75, hi76⟩, ⟨lo82, hi83⟩, ⟨lo89, hi90⟩, z.af, z.av⟩) HZ0.out rfl (by unfold subS; (try simp only); omega) (by unfold subS; (try simp only); omega) (by unfold subS; (try simp only); omega) rfl)), (Lib.hid (sl_set (y := ⟨z.m, ⟨lo75, hi76⟩, ⟨lo82, hi83⟩, ⟨lo89, hi90⟩, z.af, z.av⟩) HSL.out HZ0.out rfl)), (by first | rfl | simp), (by first | omega | (simp; done) | (simp; omega)), F114⟩
          · simp [slot, intOf]; omega
      · intro K hK
        have kq0_ := (by simpa using (Own.sl (F32.at 2 rfl : Own tskEncS 79 8 w6.heap.size _ (.slice (some ⟨gT19, 0, none⟩) lt0.length oc2) lt) (fun _ => rfl)).cells hz21.out 3 _ rfl)
        have kq1_ := (by simpa using (Own.sl (F32.at 2 rfl : Own tskEncS 79 8 w6.heap.size _ (.slice (some ⟨gT19, 0, none⟩) lt0.length oc2) lt) (fun _ => rfl)).cells hz21.out 4 _ rfl)
        go_simp
        clear kq0_ kq1_
        refine ru_back hK (by exact ⟨(by simpa using (Own.sl (F32.at 2 rfl : Own tskEncS 79 8 w6.heap.size _ (.slice (some ⟨gT19, 0, none⟩) lt0.length oc2) lt) (fun _ => rfl)).cells hz21.out 5 _ rfl), (by simpa using (Own.sl (F32.at 2 rfl : Own tskEncS 79 8 w6.heap.size _ (.slice (some ⟨gT19, 0, none⟩) lt0.length oc2) lt) (fun _ => rfl)).cells hz21.out 6 _ rfl)⟩) (fun hHeld => ?_)
        clear hK K
        (try simp only [Act.put, List.setIfInBounds_toArray, List.set_cons_zero, List.set_cons_succ])
        refine ru_one 7 rfl (by kernel_rfl) (fun K hK => ?_)
        have kq0_ := (by simpa using (Own.sl (F32.at 2 rfl : Own tskEncS 79 8 w6.heap.size _ (.slice (some ⟨gT19, 0, none⟩) lt0.length oc2) lt) (fun _ => rfl)).cells hz21.out 1 _ rfl)
        have kq1_ := (by simpa using (Own.sl (F32.at 2 rfl : Own tskEncS 79 8 w6.heap.size _ (.slice (some ⟨gT19, 0, none⟩) lt0.length oc2) lt) (fun _ => rfl)).cells hz21.out 2 _ rfl)
        go_simp
        clear kq0_ kq1_
        refine ru_back hK (by exact ⟨(by simpa using (Own.sl (F32.at 2 rfl : Own tskEncS 79 8 w6.heap.size _ (.slice (some ⟨gT19, 0, none⟩) lt0.length oc2) lt) (fun _ => rfl)).cells hz21.out 5 _ rfl), (by simpa using (Own.sl (F32.at 2 rfl : Own tskEncS 79 8 w6.heap.size _ (.slice (some ⟨gT19, 0, none⟩) lt0.length oc2) lt) (fun _ => rfl)).cells hz21.out 6 _ rfl)⟩) (fun hHeld => ?_)
        clear hK K
        (try simp only [Act.put, List.setIfInBounds_toArray, List.set_cons_zero, List.set_cons_succ])
        refine ru_one 8 rfl (by kernel_rfl) (fun K hK => ?_)
        go_simp
        refine (part_c sb z.ho.lo z.ho.hi _ (F32.at 7 rfl : SeedAt _ sb) (by omega) (by omega) (by omega)).mono ?_
        rintro e w120 ⟨_, rfl, ⟨lo115, hi116, rfl, hr117a, hr117b, hr117c⟩, hs119, hg118⟩
        have hg118s := hg118.size
        (try simp at hg118s)
        have F121 := F32.seedAt 7 rfl hg118 hs119
        clear F32
        refine ru_back hK (by exact ⟨(by simpa using (Own.sl (F121.at 2 rfl : Own tskEncS 79 8 w6.heap.size _ (.slice (some ⟨gT19, 0, none⟩) lt0.length oc2) lt) (fun _ => rfl)).cells hz21.out 5 _ rfl), (by simpa using (Own.sl (F121.at 2 rfl : Own tskEncS 79 8 w6.heap.size _ (.slice (some ⟨gT19, 0, none⟩) lt0.length oc2) lt) (fun _ => rfl)).cells hz21.out 6 _ rfl)⟩) (fun hHeld => ?_)
        clear hK K
        (try simp only [Act.put, List.setIfInBounds_toArray, List.set_cons_zero, List.set_cons_succ])
        refine ru_one 14 rfl (by kernel_rfl) (fun K hK => ?_)
        go_simp
        refine (part_c sb z.wa.lo z.wa.hi _ (F121.at 7 rfl : SeedAt _ sb) (by omega) (by omega) (by omega)).mono ?_
        rintro e w127 ⟨_, rfl, ⟨lo122, hi123, rfl, hr124a, hr124b, hr124c⟩, hs126, hg125⟩
        have hg125s := hg125.size
        (try simp at hg125s)
        have F128 := F121.seedAt 7 rfl hg125 hs126
        clear F121
        refine ru_back hK (by exact ⟨(by simpa using (Own.sl (F128.at 2 rfl : Own tskEncS 79 8 w6.heap.size _ (.slice (some ⟨gT19, 0, none⟩) lt0.length oc2) lt) (fun _ => rfl)).cells hz21.out 5 _ rfl), (by simpa using (Own.sl (F128.at 2 rfl : Own tskEncS 79 8 w6.heap.size _ (.slice (some ⟨gT19, 0, none⟩) lt0.length oc2) lt) (fun _ => rfl)).cells hz21.out 6 _ rfl)⟩) (fun hHeld => ?_)
        clear hK K
        (try simp only [Act.put, List.setIfInBounds_toArray, List.set_cons_zero, List.set_cons_succ])
        refine ru_one 20 rfl (by kernel_rfl) (fun K hK => ?_)
        go_simp
        refine (part_c sb z.fr.lo z.fr.hi _ (F128.at 7 rfl : SeedAt _ sb) (by omega) (by omega) (by omega)).mono ?_
        rintro e w134 ⟨_, rfl, ⟨lo129, hi130, rfl, hr131a, hr131b, hr131c⟩, hs133, hg132⟩
        have hg132s := hg132.size
        (try simp at hg132s)
        have F135 := F128.seedAt 7 rfl hg132 hs133
        clear F128
        refine ru_back hK (by exact ⟨(by simpa using (Own.sl (F135.at 2 rfl : Own tskEncS 79 8 w6.heap.size _ (.slice (some ⟨gT19, 0, none⟩) lt0.length oc2) lt) (fun _ => rfl)).cells hz21.out 5 _ rfl), (by simpa using (Own.sl (F135.at 2 rfl : Own tskEncS 79 8 w6.heap.size _ (.slice (some ⟨gT19, 0, none⟩) lt0.length oc2) lt) (fun _ => rfl)).cells hz21.out 6 _ rfl)⟩) (fun hHeld => ?_)
        clear hK K
        (try simp only [Act.put, List.setIfInBounds_toArray, List.set_cons_zero, List.set_cons_succ])
        refine ru_p 21 ?_
        (try simp only [Act.put, List.setIfInBounds_toArray, List.set_cons_zero, List.set_cons_succ])
        refine ru_p 22 ?_
        (try simp only [Act.put, List.setIfInBounds_toArray, List.set_cons_zero, List.set_cons_succ])
        refine ru_one 23 rfl (by kernel_rfl) (fun K hK => ?_)
        have kc0_ : World.cell? _ ⟨gT19, k * 8 + 1, none⟩ = some (.int .i64 z.ho.lo) := (by simpa using (Own.sl (F135.at 2 rfl : Own tskEncS 79 8 w6.heap.size _ (.slice (some ⟨gT19, 0, none⟩) lt0.length oc2) lt) (fun _ => rfl)).cells hz21.out 1 _ rfl)
        have kf0_ : World.frozen? _ ⟨gT19, k * 8 + 1, none⟩ = false := Own.live (F135.at 2 rfl : Own tskEncS 79 8 w6.heap.size _ (.slice (some ⟨gT19, 0, none⟩) lt0.length oc2) lt) _
        have kc1_ : World.cell? _ ⟨gT19, k * 8 + 1 + 1, none⟩ = some (.int .i64 z.ho.hi) := (by simpa using (Own.sl (F135.at 2 rfl : Own tskEncS 79 8 w6.heap.size _ (.slice (some ⟨gT19, 0, none⟩) lt0.length oc2) lt) (fun _ => rfl)).cells hz21.out 2 _ rfl)
        have kf1_ : World.frozen? _ ⟨gT19, k * 8 + 1 + 1, none⟩ = false := Own.live (F135.at 2 rfl : Own tskEncS 79 8 w6.heap.size _ (.slice (some ⟨gT19, 0, none⟩) lt0.length oc2) lt) _
        go_simp
        clear kc0_ kf0_ kc1_ kf1_
        have F136 := Bus.setOwn (sz := 8) (fun _ => rfl) (F135.front 2 rfl rfl) hz21.out (y := (⟨z.m, ⟨lo115, z.ho.hi⟩, ⟨z.wa.lo, z.wa.hi⟩, ⟨z.fr.lo, z.fr.hi⟩, z.af, z.av⟩)) (j := 1) (u := (.int .i64 lo115)) (k := (k * 8 + 1)) (by decide) rfl (by omega)
        clear F135
        have hz137 : Hid ((lt.set k (⟨z.m, ⟨lo115, z.ho.hi⟩, ⟨z.wa.lo, z.wa.hi⟩, ⟨z.fr.lo, z.fr.hi⟩, z.af, z.av⟩))[k]? = some (⟨z.m, ⟨lo115, z.ho.hi⟩, ⟨z.wa.lo, z.wa.hi⟩, ⟨z.fr.lo, z.fr.hi⟩, z.af, z.av⟩)) := Lib.hid (set_at (by omega))
        have F138 := Bus.setOwn (sz := 8) (fun _ => rfl) F136 hz137.out (y := (⟨z.m, ⟨lo115, hi116⟩, ⟨z.wa.lo, z.wa.hi⟩, ⟨z.fr.lo, z.fr.hi⟩, z.af, z.av⟩)) (j := 2) (u := (.int .i64 hi116)) (k := (k * 8 + 1 + 1)) (by decide) rfl (by omega)
        clear F136
        rw [List.set_set] at F138
        have hz139 : Hid ((lt.set k (⟨z.m, ⟨lo115, hi116⟩, ⟨z.wa.lo, z.wa.hi⟩, ⟨z.fr.lo, z.fr.hi⟩, z.af, z.av⟩))[k]? = some (⟨z.m, ⟨lo115, hi116⟩, ⟨z.wa.lo, z.wa.hi⟩, ⟨z.fr.lo, z.fr.hi⟩, z.af, z.av⟩)) := Lib.hid (set_at (by omega))
        refine ru_back hK (by exact ⟨(by simpa using (Own.sl (F138.at 0 rfl : Own tskEncS 79 8 w6.heap.size _ (.slice (some ⟨gT19, 0, none⟩) lt0.length oc2) (lt.set k (⟨z.m, ⟨lo115, hi116⟩, ⟨z.wa.lo, z.wa.hi⟩, ⟨z.fr.lo, z.fr.hi⟩, z.af, z.av⟩))) (fun _ => rfl)).cells hz139.out 5 _ rfl), (by simpa using (Own.sl (F138.at 0 rfl : Own tskEncS 79 8 w6.heap.size _ (.slice (some ⟨gT19, 0, none⟩) lt0.length oc2) (lt.set k (⟨z.m, ⟨lo115, hi116⟩, ⟨z.wa.lo, z.wa.hi⟩, ⟨z.fr.lo, z.fr.hi⟩, z.af, z.av⟩))) (fun _ => rfl)).cells hz139.out 6 _ rfl)⟩) (fun hHeld => ?_)
        clear hK K
        (try simp only [Act.put, List.setIfInBounds_toArray, List.set_cons_zero, List.set_cons_succ])
        refine ru_p 24 ?_
        (try simp only [Act.put, List.setIfInBounds_toArray, List.set_cons_zero, List.set_cons_succ])
        refine ru_p 25 ?_
        (try simp only [Act.put, List.setIfInBounds_toArray, List.set_cons_zero, List.set_cons_succ])
        refine ru_one 26 rfl (by kernel_rfl) (fun K hK => ?_)
        have kc0_ : World.cell? _ ⟨gT19, k * 8 + 3, none⟩ = some (.int .i64 z.wa.lo) := (by simpa using (Own.sl (F138.at 0 rfl : Own tskEncS 79 8 w6.heap.size _ (.slice (some ⟨gT19, 0, none⟩) lt0.length oc2) (lt.set k (⟨z.m, ⟨lo115, hi116⟩, ⟨z.wa.lo, z.wa.hi⟩, ⟨z.fr.lo, z.fr.hi⟩, z.af, z.av⟩))) (fun _ => rfl)).cells hz139.out 3 _ rfl)
        have kf0_ : World.frozen? _ ⟨gT19, k * 8 + 3, none⟩ = false := Own.live (F138.at 0 rfl : Own tskEncS 79 8 w6.heap.size _ (.slice (some ⟨gT19, 0, none⟩) lt0.length oc2) (lt.set k (⟨z.m, ⟨lo115, hi116⟩, ⟨z.wa.lo, z.wa.hi⟩, ⟨z.fr.lo, z.fr.hi⟩, z.af, z.av⟩))) _
        have kc1_ : World.cell? _ ⟨gT19, k * 8 + 3 + 1, none⟩ = some (.int .i64 z.wa.hi) := (by simpa using (Own.sl (F138.at 0 rfl : Own tskEncS 79 8 w6.heap.size _ (.slice (some ⟨gT19, 0, none⟩) lt0.length oc2) (lt.set k (⟨z.m, ⟨lo115, hi116⟩, ⟨z.wa.lo, z.wa.hi⟩, ⟨z.fr.lo, z.fr.hi⟩, z.af, z.av⟩))) (fun _ => rfl)).cells hz139.out 4 _ rfl)
        have kf1_ : World.frozen? _ ⟨gT19, k * 8 + 3 + 1, none⟩ = false := Own.live (F138.at 0 rfl : Own tskEncS 79 8 w6.heap.size _ (.slice (some ⟨gT19, 0, none⟩) lt0.length oc2) (lt.set k (⟨z.m, ⟨lo115, hi116⟩, ⟨z.wa.lo, z.wa.hi⟩, ⟨z.fr.lo, z.fr.hi⟩, z.af, z.av⟩))) _
        go_simp
        clear kc0_ kf0_ kc1_ kf1_
        have F140 := Bus.setOwn (sz := 8) (fun _ => rfl) F138 hz139.out (y := (⟨z.m, ⟨lo115, hi116⟩, ⟨lo122, z.wa.hi⟩, ⟨z.fr.lo, z.fr.hi⟩, z.af, z.av⟩)) (j := 3) (u := (.int .i64 lo122)) (k := (k * 8 + 3)) (by decide) rfl (by omega)
        clear F138
        rw [List.set_set] at F140
        have hz141 : Hid ((lt.set k (⟨z.m, ⟨lo115, hi116⟩, ⟨lo122, z.wa.hi⟩, ⟨z.fr.lo, z.fr.hi⟩, z.af, z.av⟩))[k]? = some (⟨z.m, ⟨lo115, hi116⟩, ⟨lo122, z.wa.hi⟩, ⟨z.fr.lo, z.fr.hi⟩, z.af, z.av⟩)) := Lib.hid (set_at (by omega))
        have F142 := Bus.setOwn (sz := 8) (fun _ => rfl) F140 hz141.out (y := (⟨z.m, ⟨lo115, hi116⟩, ⟨lo122, hi123⟩, ⟨z.fr.lo, z.fr.hi⟩, z.af, z.av⟩)) (j := 4) (u := (.int .i64 hi123)) (k := (k * 8 + 3 + 1)) (by decide) rfl (by omega)
        clear F140
        rw [List.set_set] at F142
        have hz143 : Hid ((lt.set k (⟨z.m, ⟨lo115, hi116⟩, ⟨lo122, hi123⟩, ⟨z.fr.lo, z.fr.hi⟩, z.af, z.av⟩))[k]? = some (⟨z.m, ⟨lo115, hi116⟩, ⟨lo122, hi123⟩, ⟨z.fr.lo, z.fr.hi⟩, z.af, z.av⟩)) := Lib.hid (set_at (by omega))
        refine ru_back hK (by exact ⟨(by simpa using (Own.sl (F142.at 0 rfl : Own tskEncS 79 8 w6.heap.size _ (.slice (some ⟨gT19, 0, none⟩) lt0.length oc2) (lt.set k (⟨z.m, ⟨lo115, hi116⟩, ⟨lo122, hi123⟩, ⟨z.fr.lo, z.fr.hi⟩, z.af, z.av⟩))) (fun _ => rfl)).cells hz143.out 5 _ rfl), (by simpa using (Own.sl (F142.at 0 rfl : Own tskEncS 79 8 w6.heap.size _ (.slice (some ⟨gT19, 0, none⟩) lt0.length oc2) (lt.set k (⟨z.m, ⟨lo115, hi116⟩, ⟨lo122, hi123⟩, ⟨z.fr.lo, z.fr.hi⟩, z.af, z.av⟩))) (fun _ => rfl)).cells hz143.out 6 _ rfl)⟩) (fun hHeld => ?_)
        clear hK K
        (try simp only [Act.put, List.setIfInBounds_toArray, List.set_cons_zero, List.set_cons_succ])
        refine ru_p 27 ?_
        (try simp only [Act.put, List.setIfInBounds_toArray, List.set_cons_zero, List.set_cons_succ])
        refine ru_p 28 ?_
        (try simp only [Act.put, List.setIfInBounds_toArray, List.set_cons_zero, List.set_cons_succ])
        refine ru_one 29 rfl (by kernel_rfl) (fun K hK => ?_)
        have kc0_ : World.cell? _ ⟨gT19, k * 8 + 5, none⟩ = some (.int .i64 z.fr.lo) := (by simpa using (Own.sl (F142.at 0 rfl : Own tskEncS 79 8 w6.heap.size _ (.slice (some ⟨gT19, 0, none⟩) lt0.length oc2) (lt.set k (⟨z.m, ⟨lo115, hi116⟩, ⟨lo122, hi123⟩, ⟨z.fr.lo, z.fr.hi⟩, z.af, z.av⟩))) (fun _ => rfl)).cells hz143.out 5 _ rfl)
        have kf0_ : World.frozen? _ ⟨gT19, k * 8 + 5, none⟩ = false := Own.live (F142.at 0 rfl : Own tskEncS 79 8 w6.heap.size _ (.slice (some ⟨gT19, 0, none⟩) lt0.length oc2) (lt.set k (⟨z.m, ⟨lo115, hi116⟩, ⟨lo122, hi123⟩, ⟨z.fr.lo, z.fr.hi⟩, z.af, z.av⟩))) _
        have kc1_ : World.cell? _ ⟨gT19, k * 8 + 5 + 1, none⟩ = some (.int .i64 z.fr.hi) := (by simpa using (Own.sl (F142.at 0 rfl : Own tskEncS 79 8 w6.heap.size _ (.slice (some ⟨gT19, 0, none⟩) lt0.length oc2) (lt.set k (⟨z.m, ⟨lo115, hi116⟩, ⟨lo122, hi123⟩, ⟨z.fr.lo, z.fr.hi⟩, z.af, z.av⟩))) (fun _ => rfl)).cells hz143.out 6 _ rfl)
        have kf1_ : World.frozen? _ ⟨gT19, k * 8 + 5 + 1, none⟩ = false := Own.live (F142.at 0 rfl : Own tskEncS 79 8 w6.heap.size _ (.slice (some ⟨gT19, 0, none⟩) lt0.length oc2) (lt.set k (⟨z.m, ⟨lo115, hi116⟩, ⟨lo122, hi123⟩, ⟨z.fr.lo, z.fr.hi⟩, z.af, z.av⟩))) _
        go_simp
        clear kc0_ kf0_ kc1_ kf1_
        have F144 := Bus.setOwn (sz := 8) (fun _ => rfl) F142 hz143.out (y := (⟨z.m, ⟨lo115, hi116⟩, ⟨lo122, hi123⟩, ⟨lo129, z.fr.hi⟩, z.af, z.av⟩)) (j := 5) (u := (.int .i64 lo129)) (k := (k * 8 + 5)) (by decide) rfl (by omega)
        clear F142
        rw [List.set_set] at F144
        have hz145 : Hid ((lt.set k (⟨z.m, ⟨lo115, hi116⟩, ⟨lo122, hi123⟩, ⟨lo129, z.fr.hi⟩, z.af, z.av⟩))[k]? = some (⟨z.m, ⟨lo115, hi116⟩, ⟨lo122, hi123⟩, ⟨lo129, z.fr.hi⟩, z.af, z.av⟩)) := Lib.hid (set_at (by omega))
        have F146 := Bus.setOwn (sz := 8) (fun _ => rfl) F144 hz145.out (y := (⟨z.m, ⟨lo115, hi116⟩, ⟨lo122, hi123⟩, ⟨lo129, hi130⟩, z.af, z.av⟩)) (j := 6) (u := (.int .i64 hi130)) (k := (k * 8 + 5 + 1)) (by decide) rfl (by omega)
        clear F144
        rw [List.set_set] at F146
        have hz147 : Hid ((lt.set k (⟨z.m, ⟨lo115, hi116⟩, ⟨lo122, hi123⟩, ⟨lo129, hi130⟩, z.af, z.av⟩))[k]? = some (⟨z.m, ⟨lo115, hi116⟩, ⟨lo122, hi123⟩, ⟨lo129, hi130⟩, z.af, z.av⟩)) := Lib.hid (set_at (by omega))
        refine ru_back_late hK (by kernel_rfl) ?_
        clear hK K
        (try simp only [Act.put, List.setIfInBounds_toArray, List.set_cons_zero, List.set_cons_succ])
        refine ru_done (by kernel_rfl) ?_
        obtain ⟨w148, hx149, F151, hxs150⟩ := (show Bus w sb [rown tskEncS 79 8 w6.heap.size (.slice (some ⟨gT19, 0, none⟩) lt0.length oc2) (lt.set k (⟨z.m, ⟨lo115, hi116⟩, ⟨lo122, hi123⟩, ⟨lo129, hi130⟩, z.af, z.av⟩)), rbox w10.heap.size 25 #[.slice oa1 ms.length oc1, .slice (some ⟨gT19, 0, none⟩) lt0.length oc2], rown mchEnc 77 3 w6.heap.size (.slice oa1 ms.length oc1) ms, rafo w6.heap.size lt, rbox (w.heap.size + 1) 25 #[.slice none 0 0, .slice none 0 0], rsl tskEnc 8 lo hi (.slice aT ts.length cT) ts, rsl mchEnc 3 lo hi (.slice aM ms.length cM) ms, rseed sb] _ from F146).name
        (try simp at hxs150)
        rw [hx149]
        clear hx149 F146
        go_wp2_with fail
        go_wp2_with fail
        have F152 : Bus w sb [rafo w6.heap.size lt, rown tskEncS 79 8 w6.heap.size (.slice (some ⟨gT19, 0, none⟩) lt0.length oc2) (lt.set k (⟨z.m, ⟨lo115, hi116⟩, ⟨lo122, hi123⟩, ⟨lo129, hi130⟩, z.af, z.av⟩)), rbox w10.heap.size 25 #[.slice oa1 ms.length oc1, .slice (some ⟨gT19, 0, none⟩) lt0.length oc2], rown mchEnc 77 3 w6.heap.size (.slice oa1 ms.length oc1) ms, rbox (w.heap.size + 1) 25 #[.slice none 0 0, .slice none 0 0], rsl tskEnc 8 lo hi (.slice aT ts.length cT) ts, rsl mchEnc 3 lo hi (.slice aM ms.length cM) ms, rseed sb] _ := F151.pick [3, 0, 1, 2, 4, 5, 6, 7] (by decide) rfl
        clear F151
        have F153 := F152.afoSet (⟨z.m, ⟨lo115, hi116⟩, ⟨lo122, hi123⟩, ⟨lo129, hi130⟩, z.af, z.av⟩ : Tsk) HZ0.out rfl rfl
        clear F152
        (skip)
        have F154 : Bus w sb [rbox w10.heap.size 25 #[.slice oa1 ms.length oc1, .slice (some ⟨gT19, 0, none⟩) lt0.length oc2], rown mchEnc 77 3 w6.heap.size (.slice oa1 ms.length oc1) ms, rown tskEncS 79 8 w6.heap.size (.slice (some ⟨gT19, 0, none⟩) lt0.length oc2) (lt.set k (⟨z.m, ⟨lo115, hi116⟩, ⟨lo122, hi123⟩, ⟨lo129, hi130⟩, z.af, z.av⟩)), rafo w6.heap.size (lt.set k (⟨z.m, ⟨lo115, hi116⟩, ⟨lo122, hi123⟩, ⟨lo129, hi130⟩, z.af, z.av⟩ : Tsk)), rbox (w.heap.size + 1) 25 #[.slice none 0 0, .slice none 0 0], rsl tskEnc 8 lo hi (.slice aT ts.length cT) ts, rsl mchEnc 3 lo hi (.slice aM ms.length cM) ms, rseed sb] _ := F153.pick [2, 3, 1, 0, 4, 5, 6, 7] (by decide) rfl
        clear F153
        (first | refine ⟨by kernel_rfl, ?_, ?_⟩ | refine ⟨rfl, ?_, ?_⟩ | refine ⟨?_, ?_⟩)
        · rw [HI14.out]; exact ⟨k + 1, _, (by first | kernel_rfl | rfl), (by first | kernel_rfl | rfl), (by first | kernel_rfl | rfl), (by show Value.int .i64 ((k : Int) + 1) = _; simp), (by simp; omega), (by omega), (Lib.hid (HST.out.set (y := ⟨z.m, ⟨lo115, hi116⟩, ⟨lo122, hi123⟩, ⟨lo129, hi130⟩, z.af, z.av⟩) HZ0.out rfl (by unfold subS; (try simp only); omega) (by unfold subS; (try simp only); omega) (by unfold subS; (try simp only); omega) rfl)), (Lib.hid (sl_set (y := ⟨z.m, ⟨lo115, hi116⟩, ⟨lo122, hi123⟩, ⟨lo129, hi130⟩, z.af, z.av⟩) HSL.out HZ0.out rfl)), (by first | rfl | simp), (by first | omega | (simp; done) | (simp; omega)), F154⟩
        · simp [slot, intOf]; omega
    · skip
      have c18H := Lib.hid c18
      have c18a : decide ((k : Int) < (lt0.length : Int)) = false := dec_f c18
      have b155 := hF15.bx2 0 rfl
      have b156 := hF15.bx2 4 rfl
      go_wp2_with fail
      clear b155 b156
      have F157 := (hF15.front 4 rfl rfl).pt2 (.slice oa1 ms.length oc1) (.slice oa2 lt0.length oc2)
      clear hF15
      have kb158 := F157.bx2 0 rfl
      go_wp2_with fail
      exact bodyPost_ret (v := .agg #[.slice oa1 ms.length oc1, .slice oa2 lt0.length oc2]) (by simp [results, Try.results29, go_sem, kb158]) rfl ((by have e_ : lt0.length = lt.length := (by omega); have s_ := slS (Own.sl (F157.at 3 rfl : Own tskEncS 79 8 w6.heap.size _ (.slice oa2 lt0.length oc2) lt) (fun _ => rfl)) HSL.out; have s2_ := Sl.n s_ e_; have hlw_ : w.heap.size ≤ w6.heap.size := (by omega); exact ⟨lt, _, _, _, _, w.heap.size, _, (by rw [e_]), ⟨Nat.le_refl _, Nat.le_refl _⟩, ⟨(Own.sl (F157.at 2 rfl : Own mchEnc 77 3 w6.heap.size _ (.slice oa1 ms.length oc1) ms) (fun _ => rfl)).wide hlw_ (Nat.le_refl _), s2_.wide hlw_ (Nat.le_refl _), (fun t_ h_ => ⟨(Own.sl ((F157.at 4 rfl : ∀ t ∈ lt, Own intEnc 3 1 w6.heap.size _ t.av t.af) t_ h_) (fun _ => rfl)).wide hlw_ (Nat.le_refl _), own_cap ((F157.at 4 rfl : ∀ t ∈ lt, Own intEnc 3 1 w6.heap.size _ t.av t.af) t_ h_)⟩)⟩, ⟨HST.out, jobErr_sub HJE.out HST.out⟩, (F157.at 7 rfl : SeedAt _ sb), F157.gb⟩))
  case atStart1 =>
    rw [HI14.out]
    exact ⟨0, lt0, (by first | kernel_rfl | rfl), (by first | kernel_rfl | rfl), (by first | kernel_rfl | rfl), rfl, ⟨Nat.le_refl _, Nat.le_refl _⟩, Nat.zero_le _, HST, HSL, rfl, (by first | exact Nat.le_refl _ | omega | (simp; done) | (simp; omega)), (F13.drop 5 rfl)⟩

end Go.Proofs.Ytokelpmngahnoaa
