/- the kit of build: copies of jobs. -/
import Derived.Test.YtokelpmngahnoaaUJK
import Derived.Test.YtokelpmngahnoaaUKC
import Derived.Test.YtokelpmngahnoaaUK1
set_option linter.unusedVariables false
set_option linter.unusedSimpArgs false
set_option linter.unnecessarySimpa false
namespace Go.Proofs.Ytokelpmngahnoaa
open Go.RowKit
set_option maxRecDepth 100000
attribute [local go_sem] Oper.semAt_some
def OwnP (b0 : Nat) (l : List Int) (w : World) : Ending -> World -> Prop := fun e w' => ∃ (a : Option Addr) (c : Nat), e = .returned (.slice a l.length c) /\ Own intEnc 3 1 b0 w' (.slice a l.length c) l /\ (∀ g, (Value.slice a l.length c).ownBlock = some g -> w.heap.size <= g /\ g < w'.heap.size) /\ w.grownBy w' none
theorem Own.low {α : Type} {enc : α -> List Value} {e : TypeId} {sz base base' : Nat} {w : World} {v : Value} {l : List α} (h : Own enc e sz base w v l) (hb : base' <= base) : Own enc e sz base' w v l := by
 obtain ⟨h0, h2⟩ := h
 refine ⟨h0, ?_⟩
 rcases h2 with h2 | ⟨g, cap, cur, e2, hb2, h3⟩
 · exact .inl h2
 · exact .inr ⟨g, cap, cur, e2, Nat.le_trans hb hb2, h3⟩
def OwnJ (ms : List Mch) (ts : List Tsk) (w : World) : Ending -> World -> Prop := fun e w' => ∃ (v1 v2 : Value) (lt : List Tsk), e = .returned (.agg #[v1, v2]) /\ mixT ts.length lt ts /\ Bun w [rown mchEnc 77 3 w.heap.size v1 ms, rown tskEncS 79 8 w.heap.size v2 lt, rafo w.heap.size lt] w'
set_option maxHeartbeats 4000000 in
theorem ownI_c (lo hi b0 : Nat) (v : Value) (l : List Int) (w : World) (hl : Sl intEnc 1 lo hi w v l) (h2 : hi <= w.heap.size) (hs : l.length <= 100000) (hb0 : b0 <= w.heap.size) :
  Calls Try.prog 61 #[v] w (OwnP b0 l w) := by
 have F1 : Bun w [] w := Bun.nil _
 have hm_l := hl.len
 unfold maxLen at hm_l
 obtain ⟨a, c, rfl⟩ := hl.any
 replace F1 := F1.sl0 hl h2 rfl
 clear hl
 go_enter Try.func61, Try.ntmps61
 go_wp2_with (at_builtin; refine wpList_copyB okInt rfl _ _ rfl w.heap.size w.heap.size rfl (F1.new 3 #[] (n := w.heap.size) (by simp)) (by first | omega | (simp; omega)) lo hi (.slice a l.length c) l rfl ((F1.new 3 #[] (n := w.heap.size) (by simp)).at 1 rfl) (by omega) ?_; intro vc3 w4 hB5 hs6; refine Hid.out ?_)
 refine lhd ?_
 (try simp at hs6)
 have F7 := hB5
 clear F1
 obtain ⟨ca8, cap9, e_⟩ := (Own.sl (F7.at 0 rfl : Own intEnc 3 1 w.heap.size _ vc3 l) (fun _ => rfl)).any
 subst e_
 go_wp2_with fail
 exact bodyPost_ret (v := .slice ca8 l.length cap9) (by simp [results, Try.results61, go_sem]) rfl (⟨_, _, rfl, Own.low (F7.at 0 rfl : Own intEnc 3 1 w.heap.size _ (.slice ca8 l.length cap9) l) hb0, (fun g hx => ⟨(F7.ltAt 0 rfl g hx).2 rfl, (F7.ltAt 0 rfl g hx).1⟩), F7.gb⟩)
set_option maxHeartbeats 8000000 in
theorem ownJob_c (lo hi : Nat) (vm vt : Value) (ms : List Mch) (ts : List Tsk) (w : World) (hj : JobAt lo hi w vm vt ms ts) (h2 : hi <= w.heap.size) (hml : ms.length <= 100000) (htl : ts.length <= 100000) (hafs : ∀ t ∈ ts, t.af.length <= 100000) :
  Calls Try.prog 19 #[.agg #[vm, vt]] w (OwnJ ms ts w) := by
 have F1 : Bun w [] w := Bun.nil _
 obtain ⟨hms, hts, haf⟩ := hj
 have hm_ms := hms.len
 unfold maxLen at hm_ms
 obtain ⟨aM, cM, rfl⟩ := hms.any
 replace F1 := F1.sl0 hms h2 rfl
 clear hms
 have hm_ts := hts.len
 unfold maxLen at hm_ts
 obtain ⟨aT, cT, rfl⟩ := hts.any
 replace F1 := F1.sl0 hts h2 rfl
 clear hts
 replace F1 := F1.non0 (rafs lo hi ts) haf (fun _ h_ => Nat.lt_of_lt_of_le h_.2 h2) rfl rfl
 clear haf
 have HAS := lhd (Afs.sl (F1.at 0 rfl : Afs lo hi _ ts))
 replace F1 := F1.more 1 (rsl tskEncS 8 lo hi (.slice aT ts.length cT) ts) rfl rfl rfl (fun _ h_ => h_) (slS2 (F1.at 1 rfl : Sl tskEnc 8 lo hi _ (.slice aT ts.length cT) ts) HAS.out)
 have HFS : Hid (∀ (k : Nat) (y : Tsk), ts[k]? = some y -> y.af.length <= 100000) := lhd (fun k y h => hafs y (List.mem_of_getElem? h))
 clear hafs
 go_enter Try.func19, Try.ntmps19
 replace F1 := F1.new 25 #[.slice aM ms.length cM, .slice aT ts.length cT] (n := w.heap.size) (by simp)
 replace F1 := F1.new 25 #[.slice none 0 0, .slice none 0 0] (n := (w.heap.size + 1)) (by simp)
 go_wp2_with (at_builtin; refine wpList_copyB okMch rfl _ _ rfl w.heap.size (w.heap.size + 2) rfl (F1.new 77 #[] (n := (w.heap.size + 2)) (by simp)) (by first | omega | (simp; omega)) lo hi (.slice aM ms.length cM) ms rfl ((F1.new 77 #[] (n := (w.heap.size + 2)) (by simp)).at 6 rfl) (by omega) ?_; intro vc8 w9 hB10 hs11; refine Hid.out ?_)
 refine lhd ?_
 (try simp at hs11)
 have F12 := hB10
 clear F1
 obtain ⟨ca13, cap14, e_⟩ := (Own.sl (F12.at 0 rfl : Own mchEnc 77 3 w.heap.size _ vc8 ms) (fun _ => rfl)).any
 subst e_
 have b15 := F12.bx2 2 rfl
 have F16 := ((F12.front 2 rfl rfl).set 0 (.slice ca13 ms.length cap14)).nf #[.slice ca13 ms.length cap14, .slice aT ts.length cT] rfl
 clear F12
 go_wp2_with (at_builtin; refine wpList_copyB okTskS rfl _ _ rfl w.heap.size w9.heap.size rfl (F16.new 79 #[] (n := w9.heap.size) (by simp)) (by first | omega | (simp; omega)) lo hi (.slice aT ts.length cT) ts rfl ((F16.new 79 #[] (n := w9.heap.size) (by simp)).at 4 rfl) (by omega) ?_; intro vc17 w18 hB19 hs20; refine Hid.out ?_)
 refine lhd ?_
 (try simp at hs20)
 clear b15
 have F21 := hB19
 clear F16
 obtain ⟨ca22, cap23, e_⟩ := (Own.sl (F21.at 0 rfl : Own tskEncS 79 8 w.heap.size _ vc17 ts) (fun _ => rfl)).any
 subst e_
 have b24 := F21.bx2 1 rfl
 go_wp2_with fail
 clear b24
 have F25 := ((F21.front 1 rfl rfl).set 1 (.slice ca22 ts.length cap23)).nf #[.slice ca13 ms.length cap14, .slice ca22 ts.length cap23] rfl
 clear F21
 replace F25 := F25.afo0 w.heap.size
 have HM0 := lhd (mixT.zero HAS.out)
 obtain ⟨HI27_, HI270⟩ : ∃ I : RelT, I = (fun t ds wr => ∃ (k : Nat) (lt : List Tsk), t 1 = .pointer (some ⟨w.heap.size, 0, none⟩) /\ t 2 = .pointer (some ⟨w.heap.size + 1, 0, none⟩) /\ t 3 = .int .i64 (k : Int) /\ k <= ts.length /\ Hid (mixT k lt ts) /\ ds = [] /\ w18.heap.size <= wr.heap.size /\ Bun w [rafo w.heap.size (lt.take k), rbox w.heap.size 25 #[.slice ca13 ms.length cap14, .slice ca22 ts.length cap23], rown tskEncS 79 8 w.heap.size (.slice ca22 ts.length cap23) lt, rown mchEnc 77 3 w.heap.size (.slice ca13 ms.length cap14) ms, rbox (w.heap.size + 1) 25 #[.slice none 0 0, .slice none 0 0], rsl tskEncS 8 lo hi (.slice aT ts.length cT) ts, rafs lo hi ts, rsl tskEnc 8 lo hi (.slice aT ts.length cT) ts, rsl mchEnc 3 lo hi (.slice aM ms.length cM) ms] wr) := ⟨_, rfl⟩
 have HI27 := lhd HI270
 clear HI270
 refine wp_loopS 34 rfl HI27_ (fun t wr => ts.length - (intOf (t 3)).toNat) ?atStart1 ?round1
 case round1 =>
  intro t ds wr hHid
  rw [HI27.out] at hHid
  obtain ⟨k, lt, e1, e2, e3, hrel⟩ := hHid
  have e : ((List.range 34).map t).toArray = #[t 0, t 1, t 2, t 3, t 4, t 5, t 6, t 7, t 8, t 9, t 10, t 11, t 12, t 13, t 14, t 15, t 16, t 17, t 18, t 19, t 20, t 21, t 22, t 23, t 24, t 25, t 26, t 27, t 28, t 29, t 30, t 31, t 32, t 33] := rfl
  (try dsimp only at e)
  rw [e1, e2, e3] at e
  rw [e]
  simp only [e3]
  clear e e1 e2 e3
  obtain ⟨hk, HMX, rfl, hs29, hF28⟩ := hrel
  clear F25
  obtain ⟨w30, rfl⟩ : ∃ x_ : World, x_ = wr := ⟨_, rfl⟩
  by_cases c31 : (k : Int) < (ts.length : Int)
  ·
   have c31H := lhd c31
   have hltl : lt.length <= ts.length /\ ts.length <= lt.length := ⟨Nat.le_of_eq HMX.out.1, Nat.le_of_eq HMX.out.1.symm⟩
   obtain ⟨gT32, cT33, e_⟩ := Own.opn (hF28.at 2 rfl : Own tskEncS 79 8 w.heap.size _ (.slice ca22 ts.length cap23) lt) (by omega)
   injection e_ with e1_ _ _
   subst e1_
   have gT32l := (hF28.ltAt 2 rfl _ rfl).1
   obtain ⟨y, hy⟩ : ∃ y_, ts[k]? = some y_ := ⟨_, List.getElem?_eq_getElem (by omega)⟩
   obtain ⟨a_y, c_y, hav, hcap, hsl⟩ := Afs.open (hF28.at 6 rfl : Afs lo hi _ ts) hy
   have hys := HFS.out k y hy
   obtain ⟨z, hz34_⟩ : ∃ z_, lt[k]? = some z_ := ⟨_, List.getElem?_eq_getElem (by omega)⟩
   have hz34 := lhd hz34_
   clear hz34_
   obtain ⟨hsT, hsV⟩ := HMX.out.2.1 k z y hz34.out hy
   have HAZ : Hid ((if sliceB z.av = true then z.av else .slice none 0 0) = .slice a_y y.af.length c_y) := lhd (by rw [hsV (Nat.le_refl _), hav]; rfl)
   have HAF := lhd hsT.2.2.2.2
   clear hav hsV hsT hy
   have F35 := hF28.more 6 (rsl intEnc 1 lo hi (.slice a_y y.af.length c_y) y.af) rfl rfl rfl (fun _ h_ => h_) hsl
   clear hF28
   have hm_y := (F35.at 0 rfl : Sl intEnc 1 lo hi _ (.slice a_y y.af.length c_y) y.af).len
   unfold maxLen at hm_y
   (skip)
   have b36 := F35.bx2 2 rfl
   go_wp2_with fail
   clear b36
   replace F35 := F35.drew
   refine ru_begin (fun W => W.cell? ⟨w.heap.size, 1, none⟩ = some (.slice (some ⟨gT32, 0, none⟩) ts.length cap23) /\ W.cell? ⟨gT32, k * 8 + 7, none⟩ = some (.slice a_y y.af.length c_y)) 12 (by kernel_rfl) ?_ ?_
   · exact ⟨F35.q 2 1, (by have h_ := (Own.sl (F35.at 3 rfl : Own tskEncS 79 8 w.heap.size _ (.slice (some ⟨gT32, 0, none⟩) ts.length cap23) lt) (fun _ => rfl)).cells hz34.out 7 _ rfl; rw [HAZ.out] at h_; simpa using h_)⟩
   obtain ⟨wd39, hwd_⟩ : ∃ x : World, w30.drew = x := ⟨_, rfl⟩
   rw [hwd_] at F35 ⊢
   have wd39s : w30.heap.size <= wd39.heap.size := by rw [← hwd_]; exact Nat.le_refl _
   clear hwd_
   have hS38 := (And.intro (F35.q 2 1) ((by have h_ := (Own.sl (F35.at 3 rfl : Own tskEncS 79 8 w.heap.size _ (.slice (some ⟨gT32, 0, none⟩) ts.length cap23) lt) (fun _ => rfl)).cells hz34.out 7 _ rfl; rw [HAZ.out] at h_; simpa using h_)))
   refine ru_t 0 [] ?_
   refine ru_t 1 [] ?_
   refine ru_t 2 [] ?_
   refine ru_t 3 [] ?_
   refine ru_t 4 [] ?_
   refine ru_t 5 [] ?_
   refine ru_t 6 [] ?_
   refine ru_t 7 [] ?_
   refine ru_t 8 [] ?_
   (try simp only [lpX])
   clear hS38
   refine ru_one 9 rfl (by kernel_rfl) (fun K hK => ?_)
   go_simp
   refine (ownI_c lo hi w.heap.size _ y.af _ (F35.at 0 rfl : Sl intEnc 1 lo hi _ (.slice a_y y.af.length c_y) y.af) (Nat.le_trans h2 F35.gb.size) hys F35.gb.size).mono ?_
   rintro e w42 ⟨oa, oc, rfl, hoo, hox, hg40⟩
   have hg40s := hg40.size
   (try simp at hg40s)
   replace F35 := F35.add (rown intEnc 3 1 w.heap.size (.slice oa y.af.length oc) y.af) hg40 (hoo) (fun g e => hox g e)
   refine ru_back hK (by exact ⟨F35.q 3 1, (by have h_ := (Own.sl (F35.at 4 rfl : Own tskEncS 79 8 w.heap.size _ (.slice (some ⟨gT32, 0, none⟩) ts.length cap23) lt) (fun _ => rfl)).cells hz34.out 7 _ rfl; rw [HAZ.out] at h_; simpa using h_)⟩) (fun _ => ?_)
   clear hK K
   (try simp only [lpX])
   refine ru_p 10 ?_
   (try simp only [lpX])
   refine ru_p 11 ?_
   (try simp only [lpX])
   refine ru_one 12 rfl (by kernel_rfl) (fun K hK => ?_)
   have kc_ : World.cell? _ ⟨gT32, k * 8 + 7, none⟩ = some (.slice a_y y.af.length c_y) := (by have h_ := (Own.sl (F35.at 4 rfl : Own tskEncS 79 8 w.heap.size _ (.slice (some ⟨gT32, 0, none⟩) ts.length cap23) lt) (fun _ => rfl)).cells hz34.out 7 _ rfl; rw [HAZ.out] at h_; simpa using h_)
   have kf_ : World.frozen? _ ⟨gT32, k * 8 + 7, none⟩ = false := Own.live (F35.at 4 rfl : Own tskEncS 79 8 w.heap.size _ (.slice (some ⟨gT32, 0, none⟩) ts.length cap23) lt) _
   go_simp
   clear kc_ kf_
   have F44 := Bun.setOwn (sz := 8) (fun _ => rfl) (F35.front 4 rfl rfl) hz34.out (y := (⟨z.m, z.ho, z.wa, z.fr, z.af, .slice oa y.af.length oc⟩)) (j := 7) (u := (.slice oa y.af.length oc)) (k := (k * 8 + 7)) (by decide) rfl rfl
   clear F35
   refine ru_back_late hK (by kernel_rfl) ?_
   clear hK K
   (try simp only [lpX])
   refine ru_done (by kernel_rfl) ?_
   obtain ⟨w45, hx46, F48, hxs47⟩ := (show Bun w [rown tskEncS 79 8 w.heap.size (.slice (some ⟨gT32, 0, none⟩) ts.length cap23) (lt.set k (⟨z.m, z.ho, z.wa, z.fr, z.af, .slice oa y.af.length oc⟩)), rown intEnc 3 1 w.heap.size (.slice oa y.af.length oc) y.af, rsl intEnc 1 lo hi (.slice a_y y.af.length c_y) y.af, rafo w.heap.size (lt.take k), rbox w.heap.size 25 #[.slice ca13 ms.length cap14, .slice (some ⟨gT32, 0, none⟩) ts.length cap23], rown mchEnc 77 3 w.heap.size (.slice ca13 ms.length cap14) ms, rbox (w.heap.size + 1) 25 #[.slice none 0 0, .slice none 0 0], rsl tskEncS 8 lo hi (.slice aT ts.length cT) ts, rafs lo hi ts, rsl tskEnc 8 lo hi (.slice aT ts.length cT) ts, rsl mchEnc 3 lo hi (.slice aM ms.length cM) ms] _ from F44).name
   (try simp at hxs47)
   rw [hx46]
   clear hx46 F44
   go_wp2_with fail
   go_wp2_with fail
   have F49 : Bun w [rown intEnc 3 1 w.heap.size (.slice oa y.af.length oc) y.af, rafo w.heap.size (lt.take k), rown tskEncS 79 8 w.heap.size (.slice (some ⟨gT32, 0, none⟩) ts.length cap23) (lt.set k (⟨z.m, z.ho, z.wa, z.fr, z.af, .slice oa y.af.length oc⟩)), rsl intEnc 1 lo hi (.slice a_y y.af.length c_y) y.af, rbox w.heap.size 25 #[.slice ca13 ms.length cap14, .slice (some ⟨gT32, 0, none⟩) ts.length cap23], rown mchEnc 77 3 w.heap.size (.slice ca13 ms.length cap14) ms, rbox (w.heap.size + 1) 25 #[.slice none 0 0, .slice none 0 0], rsl tskEncS 8 lo hi (.slice aT ts.length cT) ts, rafs lo hi ts, rsl tskEnc 8 lo hi (.slice aT ts.length cT) ts, rsl mchEnc 3 lo hi (.slice aM ms.length cM) ms] _ := F48.pick [1, 3, 0, 2, 4, 5, 6, 7, 8, 9, 10] (by decide) rfl
   clear F48
   replace F49 := F49.afo (⟨z.m, z.ho, z.wa, z.fr, z.af, .slice oa y.af.length oc⟩ : Tsk) rfl HAF.out
   (skip)
   have F51 : Bun w [rafo w.heap.size ((lt.take k) ++ [(⟨z.m, z.ho, z.wa, z.fr, z.af, .slice oa y.af.length oc⟩ : Tsk)]), rbox w.heap.size 25 #[.slice ca13 ms.length cap14, .slice (some ⟨gT32, 0, none⟩) ts.length cap23], rown tskEncS 79 8 w.heap.size (.slice (some ⟨gT32, 0, none⟩) ts.length cap23) (lt.set k (⟨z.m, z.ho, z.wa, z.fr, z.af, .slice oa y.af.length oc⟩)), rown mchEnc 77 3 w.heap.size (.slice ca13 ms.length cap14) ms, rbox (w.heap.size + 1) 25 #[.slice none 0 0, .slice none 0 0], rsl tskEncS 8 lo hi (.slice aT ts.length cT) ts, rafs lo hi ts, rsl tskEnc 8 lo hi (.slice aT ts.length cT) ts, rsl mchEnc 3 lo hi (.slice aM ms.length cM) ms] _ := F49.pick [0, 3, 1, 4, 5, 6, 7, 8, 9] (by decide) rfl
   clear F49
   (first | refine ⟨rfl, ?_, ?_⟩ | refine ⟨?_, ?_⟩)
   · rw [HI27.out]; exact ⟨k + 1, _, rfl, rfl, (by show Value.int .i64 ((k : Int) + 1) = _; simp), (by omega), (lhd (HMX.out.next hz34.out rfl)), (by first | rfl | simp), (by first | omega | (simp; done) | (simp; omega)), (by rw [take_set (by omega)]; exact F51)⟩
   · simp [slot, intOf]; omega
  have c31H := lhd c31
  have c31a : decide ((k : Int) < (ts.length : Int)) = false := dec_f c31
  have b52 := hF28.bx2 1 rfl
  have b53 := hF28.bx2 4 rfl
  go_wp2_with fail
  clear b52 b53
  have F54 := (hF28.front 4 rfl rfl).pt2 (.slice ca13 ms.length cap14) (.slice ca22 ts.length cap23)
  clear hF28
  have kb55 := F54.bx2 0 rfl
  go_wp2_with fail
  have F56 : Bun w [rown mchEnc 77 3 w.heap.size (.slice ca13 ms.length cap14) ms, rown tskEncS 79 8 w.heap.size (.slice ca22 ts.length cap23) lt, rafo w.heap.size (lt.take k)] _ := F54.pick [4, 3, 1] (by decide) rfl
  clear F54
  exact bodyPost_ret (v := .agg #[.slice ca13 ms.length cap14, .slice ca22 ts.length cap23]) (by simp [results, Try.results19, go_sem, kb55]) rfl ((by obtain rfl : k = ts.length := (by omega); have h_ := F56; rw [List.take_of_length_le (Nat.le_of_eq HMX.out.1)] at h_; exact ⟨_, _, lt, rfl, HMX.out, h_⟩))
 case atStart1 =>
  rw [HI27.out]
  exact ⟨0, ts, rfl, rfl, rfl, Nat.zero_le _, HM0, rfl, (by first | exact Nat.le_refl _ | omega | (simp; done) | (simp; omega)), F25⟩
end Go.Proofs.Ytokelpmngahnoaa
