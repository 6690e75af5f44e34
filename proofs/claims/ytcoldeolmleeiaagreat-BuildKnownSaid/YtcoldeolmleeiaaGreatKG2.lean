/- build: what holds the road up. -/
import Derived.Test.YtcoldeolmleeiaaGreatKJ10
import Derived.Test.YtcoldeolmleeiaaGreatKGG6
import Derived.Test.YtcoldeolmleeiaaGreatKKC
set_option linter.unusedVariables false
set_option linter.unusedSimpArgs false
set_option linter.unnecessarySimpa false
namespace Go.Proofs.YtcoldeolmleeiaaGreat
open Go.RowKit
set_option maxRecDepth 100000
attribute [local go_sem] Oper.semAt_some
attribute [local go_sem] run_store_fn
theorem rgG2118 (t : Nat -> Value) : ((List.range 118).map t).toArray = #[t 0, t 1, t 2, t 3, t 4, t 5, t 6, t 7, t 8, t 9, t 10, t 11, t 12, t 13, t 14, t 15, t 16, t 17, t 18, t 19, t 20, t 21, t 22, t 23, t 24, t 25, t 26, t 27, t 28, t 29, t 30, t 31, t 32, t 33, t 34, t 35, t 36, t 37, t 38, t 39, t 40, t 41, t 42, t 43, t 44, t 45, t 46, t 47, t 48, t 49, t 50, t 51, t 52, t 53, t 54, t 55, t 56, t 57, t 58, t 59, t 60, t 61, t 62, t 63, t 64, t 65, t 66, t 67, t 68, t 69, t 70, t 71, t 72, t 73, t 74, t 75, t 76, t 77, t 78, t 79, t 80, t 81, t 82, t 83, t 84, t 85, t 86, t 87, t 88, t 89, t 90, t 91, t 92, t 93, t 94, t 95, t 96, t 97, t 98, t 99, t 100, t 101, t 102, t 103, t 104, t 105, t 106, t 107, t 108, t 109, t 110, t 111, t 112, t 113, t 114, t 115, t 116, t 117] := rfl
theorem Bun.litOwn {x : Int} {w0 A : World} {L : List Res} {g b : Nat} (h : Bun w0 (rbox g 3 #[.int .i64 x] :: L) A) (hb : b <= g) : Bun w0 (rown intEnc 3 1 b (.slice (some ⟨g, 0, none⟩) 1 1) [x] :: L) A := by
 have hk : Bk A g 3 #[.int .i64 x] := h.all _ (.head _)
 have ho : Own intEnc 3 1 b A (.slice (some ⟨g, 0, none⟩) 1 1) [x] := ⟨rfl, .inr ⟨g, 1, _, rfl, hb, hk, Nat.le_refl _, by unfold maxLen; omega, rfl, rfl⟩⟩
 have hd := h.dis
 rw [List.pairwise_cons] at hd
 have hX : ∀ y, (rown intEnc 3 1 b (.slice (some ⟨g, 0, none⟩) 1 1) [x]).X y -> y = g := fun y hy => by
  have hy' : some g = some y := hy
  injection hy' with e
  exact e.symm
 refine ⟨fun r hr => ?_, fun r hr y hy => ?_, ?_, h.gb⟩
 ·
  rcases List.mem_cons.1 hr with rfl | hr
  · exact ho
  · exact h.all r (.tail _ hr)
 ·
  rcases List.mem_cons.1 hr with rfl | hr
  · exact h.bd _ (.head _) y (hX y hy)
  · exact h.bd r (.tail _ hr) y hy
 rw [List.pairwise_cons]
 exact ⟨fun r hr _ y hy => hd.1 r hr (.inl rfl) y (hX y hy), hd.2⟩
theorem Bun.slY {α : Type} {enc : α -> List Value} {sz lo hi : Nat} {v : Value} {l : List α} {w0 A : World} {L : List Res} (i : Nat) (h : Bun w0 L A) (hi_ : L[i]? = some (rsl enc sz lo hi v l)) : Sl enc sz 0 A.heap.size A v l := by
 have hP : Sl enc sz lo hi A v l := h.at i hi_
 have hb := fun g hx => (h.ltAt i hi_ g hx).1
 obtain ⟨hm, a, c, hv, h2⟩ := hP
 refine ⟨hm, a, c, hv, ?_⟩
 rcases h2 with h2 | ⟨b, off, ha, h3, h4, h5⟩
 · exact .inl h2
 · exact .inr ⟨b, off, ha, Nat.zero_le _, hb b ⟨h3, h4⟩, h5⟩
def ints (r : List Nat) : List Int := r.map fun (x : Nat) => (x : Int)
theorem ints_len (r : List Nat) : (ints r).length = r.length := by simp [ints]
theorem ints_snoc (r : List Nat) (x : Nat) : ints (r ++ [x]) = ints r ++ [(x : Int)] := by simp [ints]
theorem ints_rev (r : List Nat) : (ints r).reverse = ints r.reverse := by simp [ints]
def chnE (ms : List Mch) (ts : List Tsk) (dl : List Wea) : Int := if ¬ bothErr ms ts dl = 0 then bothErr ms ts dl else if ts.length = 0 then 7 else if (caseOf true ms ts dl).opn ts.length = 24 * (dl.length : Int) + 1 then 13 else 0
def chnC (ms : List Mch) (ts : List Tsk) (dl : List Wea) : List Nat := if chnE ms ts dl = 0 then (caseOf true ms ts dl).chn ts.length ((caseOf true ms ts dl).opr ts.length) else []
def ChainR (ms : List Mch) (ts : List Tsk) (dl : List Wea) (w : World) : Ending -> World -> Prop := fun e w' => ∃ (a : Option Addr) (cp lo hi : Nat), e = .returned (.tuple #[.slice a (chnC ms ts dl).length cp, .int .i64 (chnE ms ts dl)]) /\ (w.heap.size <= lo /\ hi <= w'.heap.size) /\ Sl intEnc 1 lo hi w' (.slice a (chnC ms ts dl).length cp) (ints (chnC ms ts dl)) /\ w.grownBy w' none
theorem ChainR.no {ms : List Mch} {ts : List Tsk} {dl : List Wea} {w w' : World} {e : Ending} {x : Int} (h : chnE ms ts dl = x) (h0 : ¬ x = 0) (hg : w.grownBy w' none) (he : e = .returned (.tuple #[.slice none 0 0, .int .i64 x])) : ChainR ms ts dl w e w' := by
 have e1 : chnC ms ts dl = [] := by rw [chnC, if_neg (by rw [h]; exact h0)]
 unfold ChainR
 rw [e1, h]
 exact ⟨none, 0, w.heap.size, w.heap.size, he, ⟨Nat.le_refl _, hg.size⟩, Sl.of_nil _ _, hg⟩
theorem ChainR.yes {ms : List Mch} {ts : List Tsk} {dl : List Wea} {w w' : World} {e : Ending} {v : Value} {l : List Nat} {b : Nat} (h : chnE ms ts dl = 0) (hl : (caseOf true ms ts dl).chn ts.length ((caseOf true ms ts dl).opr ts.length) = l) (ho : Own intEnc 3 1 b w' v (ints l)) (hb : w.heap.size <= b) (hg : w.grownBy w' none) (he : e = .returned (.tuple #[v, .int .i64 0])) : ChainR ms ts dl w e w' := by
 have e1 : chnC ms ts dl = l := by rw [chnC, if_pos h, hl]
 obtain ⟨a, cp, rfl, hs⟩ := Own.slN ho (fun _ => rfl) (ints_len l)
 unfold ChainR
 rw [e1, h]
 exact ⟨a, cp, _, _, he, ⟨hb, Nat.le_refl _⟩, hs, hg⟩
theorem chn_step {c : Cs} {N q : Nat} {r : List Nat} {C : List Nat} (H : SiteOk c N) (hq : q < N) (hf : ¬ c.bgI N q = c.fr q) (hp : c.bgI N q < c.past) (h : C = c.pre N q q ++ r.reverse) : C = c.pre N (c.cause N q) (c.cause N q) ++ (r ++ [c.cause N q]).reverse := by
 rw [h, H.pre_next hq hf hp]
 unfold Cs.chn
 simp
theorem rng_bchain_c (t : Nat -> Value) : ((List.range 118).map t).toArray = List.toArray [t 0, t 1, t 2, t 3, t 4, t 5, t 6, t 7, t 8, t 9, t 10, t 11, t 12, t 13, t 14, t 15, t 16, t 17, t 18, t 19, t 20, t 21, t 22, t 23, t 24, t 25, t 26, t 27, t 28, t 29, t 30, t 31, t 32, t 33, t 34, t 35, t 36, t 37, t 38, t 39, t 40, t 41, t 42, t 43, t 44, t 45, t 46, t 47, t 48, t 49, t 50, t 51, t 52, t 53, t 54, t 55, t 56, t 57, t 58, t 59, t 60, t 61, t 62, t 63, t 64, t 65, t 66, t 67, t 68, t 69, t 70, t 71, t 72, t 73, t 74, t 75, t 76, t 77, t 78, t 79, t 80, t 81, t 82, t 83, t 84, t 85, t 86, t 87, t 88, t 89, t 90, t 91, t 92, t 93, t 94, t 95, t 96, t 97, t 98, t 99, t 100, t 101, t 102, t 103, t 104, t 105, t 106, t 107, t 108, t 109, t 110, t 111, t 112, t 113, t 114, t 115, t 116, t 117] := rfl
set_option maxHeartbeats 32000000 in
theorem bchain_c (lo hi : Nat) (vm vt : Value) (ms : List Mch) (ts : List Tsk) (lo2 hi2 : Nat) (vd : Value) (dl : List Wea) (w : World) (hj : JobAt lo hi w vm vt ms ts) (h2 : hi <= w.heap.size) (hd : Sl weaEnc 6 lo2 hi2 w vd dl) (h3 : hi2 <= w.heap.size) :
  Calls Tryz.prog 24 #[.agg #[vm, vt], vd] w (ChainR ms ts dl w) := by
 have F1 : Bun w [] w := Bun.nil _
 obtain ⟨hms, hts, haf⟩ := hj
 have hm_ms := hms.len
 unfold maxLen at hm_ms
 obtain ⟨aM, cM, rfl⟩ := hms.any
 replace F1 := F1.sl0 hms h2 rfl
 clear hms
 have hm_ts := hts.len
 unfold maxLen at hm_ts
 obtain ⟨aT, cT, rfl⟩ := hts.any
 replace F1 := F1.sl0 hts h2 rfl
 clear hts
 replace F1 := F1.non0 (rafs lo hi ts) haf (fun _ h_ => Nat.lt_of_lt_of_le h_.2 h2) rfl rfl
 clear haf
 have hm_ds := hd.len
 unfold maxLen at hm_ds
 obtain ⟨ad, cd, rfl⟩ := hd.any
 replace F1 := F1.sl0 hd h3 rfl
 clear hd
 go_enter Tryz.func24, Tryz.ntmps24
 go_wp2_with fail
 replace F1 := F1.new 25 #[.slice aM ms.length cM, .slice aT ts.length cT] (n := w.heap.size) (by simp)
 refine (bcheckAll_c lo hi _ _ ms ts lo2 hi2 _ dl _ (JobAt.mk (F1.s 4 rfl) (F1.s 3 rfl) (F1.at 2 rfl : Afs lo hi _ ts)) (Nat.le_trans h2 F1.gb.size) (F1.s 1 rfl) (Nat.le_trans h3 F1.gb.size)).mono ?_
 rintro e w9 ⟨rfl, hg7⟩
 have hg7s := hg7.size
 (try simp at hg7s)
 replace F1 := F1.gn hg7
 clear hg7
 by_cases c11 : bothErr ms ts dl = 0
 ·
  obtain ⟨c11a, c11b⟩ := bqt c11
  have c11H := lhd c11
  clear c11
  have HOK := lhd (bothOk c11H.out)
  have hnt := HOK.out.1.nt
  have hnd := HOK.out.2
  by_cases c12 : (ts.length : Int) = 0
  ·
   obtain ⟨c12a, c12b⟩ := bqt c12
   have c12H := lhd c12
   clear c12
   have b13 := F1.bx2 0 rfl
   go_wp2_with fail
   clear b13
   exact bodyPost_ret (v := .tuple #[.slice none 0 0, .int .i64 7]) (by simp [results, Tryz.results24, go_sem]) rfl ((ChainR.no (by unfold chnE; rw [if_neg (not_not_intro c11H.out), if_pos (by have h_ := c12H.out; omega)]) (by decide) F1.gb rfl))
  obtain ⟨c12a, c12b⟩ := bqf c12
  have c12H := lhd c12
  clear c12
  have b14 := F1.bx2 0 rfl
  go_wp2_with fail
  clear b14
  replace F1 := F1.drew
  refine ru_begin (fun W => C2 W w.heap.size (.slice aM ms.length cM) (.slice aT ts.length cT)) 5 (by kernel_rfl) ?_ ?_
  · exact (F1.c2 0)
  obtain ⟨wd17, hwd_⟩ : ∃ x : World, w9.drew = x := ⟨_, rfl⟩
  rw [hwd_] at F1 ⊢
  have wd17s : w9.heap.size <= wd17.heap.size := by rw [← hwd_]; exact Nat.le_refl _
  clear hwd_
  have hS16 := (F1.c2 0)
  refine ru_t 1 [] ?_
  refine ru_t 2 [] ?_
  (try simp only [lpX])
  clear hS16
  refine ru_state 118 (fun t w_ => ∃ (yg4 : Nat), t 2 = .pointer (some ⟨w.heap.size, 0, none⟩) /\ t 7 = .pointer (some ⟨yg4, 0, none⟩) /\ w9.heap.size <= w_.heap.size /\ Bun w [rbox yg4 69 #[.func (.func 43) #[] #[], .func (.func 44) #[] #[], .slice aM ms.length cM, .slice aT ts.length cT, .slice ad dl.length cd], rbox w.heap.size 25 #[.slice aM ms.length cM, .slice aT ts.length cT], rsl weaEnc 6 lo2 hi2 (.slice ad dl.length cd) dl, rafs lo hi ts, rsl tskEnc 8 lo hi (.slice aT ts.length cT) ts, rsl mchEnc 3 lo hi (.slice aM ms.length cM) ms] w_) #[true, true, true, true, true, true] 0 ?st18 ?nx18
  case st18 =>
   rintro t w19 ⟨yg4, e2, e7, hsz18, F20⟩
   clear F1
   rw [rng_bchain_c t, e2, e7]
   clear e2 e7
   have hws18 := F20.gb.size
   have yg4l := F20.ltAt 0 rfl yg4 rfl
   have yg4b := yg4l.2 rfl
   refine ru_done (by kernel_rfl) ?_
   obtain ⟨w21, hx22, F24, hxs23⟩ := F20.name
   (try simp at hxs23)
   rw [hx22]
   clear hx22 F20
   have b25 := F24.bx5 0 rfl
   go_wp2_with fail
   clear b25
   refine (timesw_b lo hi _ _ ms ts lo2 hi2 _ dl _ (JobAt.mk (F24.s 5 rfl) (F24.s 4 rfl) (F24.at 3 rfl : Afs lo hi _ ts)) (Nat.le_trans h2 F24.gb.size) (F24.s 2 rfl) (Nat.le_trans h3 F24.gb.size) HOK.out.1 HOK.out.2).mono ?_
   rintro e w26 ⟨opw, a1w, a2w, c1w, c2w, low, hiw, rfl, hlw, how, hB27⟩
   have hB27s := hB27.gb.size
   (try simp at hB27s)
   replace F24 := F24.joinV (L2 := [rsl intEnc 1 low hiw (.slice a1w ts.length c1w) (bgL (caseOf true ms ts dl) ts.length), rsl intEnc 1 low hiw (.slice a2w ts.length c2w) (enL (caseOf true ms ts dl) ts.length)]) hB27 (lfm ⟨fun g hx => Nat.le_trans hlw hx.1, lfm ⟨fun g hx => Nat.le_trans hlw hx.1, fun _ h => by cases h⟩⟩)
   clear hB27
   (try dsimp only [List.cons_append, List.nil_append] at F24)
   obtain ⟨c, hc_⟩ : ∃ c_, c_ = caseOf true ms ts dl := ⟨_, rfl⟩
   have HC : Hid (c = caseOf true ms ts dl) := lhd hc_
   rw [← hc_] at F24 how
   clear hc_
   have HCO : Hid (CsOk c) := lhd (HC.out ▸ caseOk HOK.out.1 HOK.out.2)
   have HSO : Hid (SiteOk c ts.length) := lhd (SiteOk.of HCO.out (fun i hi a ha => by rw [HC.out] at ha; exact tk_aok HOK.out.1 i a ha))
   have HP : Hid (c.past = 24 * (dl.length : Int) + 1) := lhd (by rw [HC.out]; rfl)
   have HOW := lhd how
   clear how
   have b29 := F24.bx5 2 rfl
   go_wp2_with fail
   clear b29
   refine (past_c (.func (.func 43) #[] #[]) (.func (.func 44) #[] #[]) (.slice aM ms.length cM) (.slice aT ts.length cT) ad cd _ _ (by omega)).mono ?_
   rintro e w32 ⟨rfl, hg30⟩
   have hg30s := hg30.size
   (try simp at hg30s)
   replace F24 := F24.gn hg30
   clear hg30
   by_cases c34 : opw = 24 * (dl.length : Int) + 1
   ·
    obtain ⟨c34a, c34b⟩ := bqt c34
    have c34H := lhd c34
    clear c34
    go_wp2_with fail
    exact bodyPost_ret (v := .tuple #[.slice none 0 0, .int .i64 13]) (by simp [results, Tryz.results24, go_sem]) rfl ((ChainR.no (by unfold chnE; rw [if_neg (not_not_intro c11H.out), if_neg (by have h_ := c12H.out; omega), if_pos (by rw [← HC.out, HOW.out]; exact c34H.out)]) (by decide) F24.gb rfl))
   obtain ⟨c34a, c34b⟩ := bqf c34
   have c34H := lhd c34
   clear c34
   have hpos : 0 < ts.length := by have h_ := c12H.out; omega
   have hlt : c.opn ts.length < c.past := by have h_ := c.opn_bd (fun i => (HCO.out.fr i).1) (fun i => (HCO.out.wa i).1) ts.length; have h2_ := c34H.out; have h3_ := HOW.out; have h4_ := HP.out; omega
   have HOP := lhd (HSO.out.opr_ok hpos hlt)
   have hopb := HOP.out.1
   have HE0 : Hid (chnE ms ts dl = 0) := lhd (by unfold chnE; rw [if_neg (not_not_intro c11H.out), if_neg (by omega), if_neg (by rw [← HC.out, HOW.out]; exact c34H.out)])
   clear hlt
   go_wp2_with fail
   obtain ⟨HI35_, HI350⟩ : ∃ I : RelT, I = (fun t ds wr => ∃ (q : Nat), t 2 = .pointer (some ⟨w.heap.size, 0, none⟩) /\ t 7 = .pointer (some ⟨yg4, 0, none⟩) /\ t 8 = .slice a1w ts.length c1w /\ t 9 = .slice a2w ts.length c2w /\ t 10 = .int .i64 opw /\ t 11 = .int .i64 (q : Int) /\ q <= c.opr ts.length /\ ds = [] /\ w32.heap.size <= wr.heap.size /\ Bun w [rsl intEnc 1 low hiw (.slice a1w ts.length c1w) (bgL c ts.length), rsl intEnc 1 low hiw (.slice a2w ts.length c2w) (enL c ts.length), rbox yg4 69 #[.func (.func 43) #[] #[], .func (.func 44) #[] #[], .slice aM ms.length cM, .slice aT ts.length cT, .slice ad dl.length cd], rbox w.heap.size 25 #[.slice aM ms.length cM, .slice aT ts.length cT], rsl weaEnc 6 lo2 hi2 (.slice ad dl.length cd) dl, rafs lo hi ts, rsl tskEnc 8 lo hi (.slice aT ts.length cT) ts, rsl mchEnc 3 lo hi (.slice aM ms.length cM) ms] wr) := ⟨_, rfl⟩
   have HI35 := lhd HI350
   clear HI350
   refine wp_loopS 118 rfl HI35_ (fun t wr => c.opr ts.length - (intOf (t 11)).toNat) ?atStart1 ?round1
   case round1 =>
    intro t ds wr hHid
    rw [HI35.out] at hHid
    obtain ⟨q, e2, e7, e8, e9, e10, e11, hrel⟩ := hHid
    have e := rgG2118 t
    (try dsimp only at e)
    rw [e2, e7, e8, e9, e10, e11] at e
    rw [e]
    simp only [e11]
    clear e e2 e7 e8 e9 e10 e11
    obtain ⟨hq_, rfl, hs37, hF36⟩ := hrel
    clear F24
    obtain ⟨w38, rfl⟩ : ∃ x_ : World, x_ = wr := ⟨_, rfl⟩
    have hqt : q < ts.length := by omega
    have b39 := hF36.bx5 2 rfl
    go_wp2_with fail
    clear b39
    refine (readyw_e lo hi _ ms ts dl 0 _ _ ts.length q (.func (.func 44) #[] #[]) (.slice aM ms.length cM) (.slice ad dl.length cd) c HC _ (hF36.s 6 rfl) (Nat.le_trans h2 hF36.gb.size) (hF36.slY 1 rfl) (Nat.le_refl _) HOK.out.1 HOK.out.2 (by omega) (by omega)).mono ?_
    rintro e w42 ⟨rfl, hg40⟩
    have hg40s := hg40.size
    (try simp at hg40s)
    have F43 := hF36.gn hg40
    clear hF36
    clear hg40
    by_cases c44 : enAt (c.plan ts.length) q + c.wa q = opw
    ·
     obtain ⟨c44a, c44b⟩ := bqt c44
     have c44H := lhd c44
     clear c44
     go_wp2_with fail
     replace F43 := F43.new 3 #[.int .i64 (q : Int)] (n := w42.heap.size) (by simp)
     obtain rfl : q = c.opr ts.length := Nat.le_antisymm hq_ (fndN_lt (Nat.zero_le q) (by omega) (decide_eq_true (by have h_ := c44H.out; rw [← HOW.out] at h_; exact h_)))
     replace F43 := F43.litOwn (b := w.heap.size) (by have h_ := F43.gb.size; first | omega | (simp at h_; omega))
     (skip)
     obtain ⟨HI47_, HI470⟩ : ∃ I : RelT, I = (fun t ds wr => ∃ (q : Nat) (vo : Value) (r : List Nat), t 2 = .pointer (some ⟨w.heap.size, 0, none⟩) /\ t 7 = .pointer (some ⟨yg4, 0, none⟩) /\ t 8 = .slice a1w ts.length c1w /\ t 9 = .slice a2w ts.length c2w /\ t 11 = .int .i64 (q : Int) /\ t 12 = vo /\ q < ts.length /\ Hid (c.bgI ts.length q < c.past) /\ Hid (c.chn ts.length (c.opr ts.length) = c.pre ts.length q q ++ r.reverse) /\ (1 <= r.length /\ r.length + q <= ts.length) /\ ds = [] /\ w42.heap.size <= wr.heap.size /\ Bun w [rown intEnc 3 1 w.heap.size vo (ints r), rsl intEnc 1 low hiw (.slice a1w ts.length c1w) (bgL c ts.length), rsl intEnc 1 low hiw (.slice a2w ts.length c2w) (enL c ts.length), rbox yg4 69 #[.func (.func 43) #[] #[], .func (.func 44) #[] #[], .slice aM ms.length cM, .slice aT ts.length cT, .slice ad dl.length cd], rbox w.heap.size 25 #[.slice aM ms.length cM, .slice aT ts.length cT], rsl weaEnc 6 lo2 hi2 (.slice ad dl.length cd) dl, rafs lo hi ts, rsl tskEnc 8 lo hi (.slice aT ts.length cT) ts, rsl mchEnc 3 lo hi (.slice aM ms.length cM) ms] wr) := ⟨_, rfl⟩
     have HI47 := lhd HI470
     clear HI470
     refine wp_loopS 118 rfl HI47_ (fun t wr => (intOf (t 11)).toNat) ?atStart2 ?round2
     case round2 =>
      intro t ds wr hHid
      rw [HI47.out] at hHid
      obtain ⟨q, vo, r, e2, e7, e8, e9, e11, e12, hrel⟩ := hHid
      have e := rgG2118 t
      (try dsimp only at e)
      rw [e2, e7, e8, e9, e11, e12] at e
      rw [e]
      simp only [e11]
      clear e e2 e7 e8 e9 e11 e12
      obtain ⟨hq_, HQP, HCH, hrl, rfl, hs49, hF48⟩ := hrel
      clear F43
      obtain ⟨w50, rfl⟩ : ∃ x_ : World, x_ = wr := ⟨_, rfl⟩
      obtain ⟨x51, o52, e_⟩ := Sl.addr (hF48.s 7 rfl) (by omega)
      subst e_
      obtain ⟨z, hz53_⟩ : ∃ z_, ts[q]? = some z_ := ⟨_, List.getElem?_eq_getElem (by omega)⟩
      have hz53 := lhd hz53_
      clear hz53_
      obtain ⟨a_z, c_z, hav_z, hcap_z, hsl_z⟩ := Afs.open (hF48.at 6 rfl : Afs lo hi _ ts) hz53.out
      have HAV_z := lhd hav_z
      clear hav_z
      have F54 := hF48.more 6 (rsl intEnc 1 lo hi (.slice a_z z.af.length c_z) z.af) rfl rfl rfl (fun _ h_ => h_) hsl_z
      clear hF48
      have hm_z := (F54.s 0 rfl).len
      unfold maxLen at hm_z
      obtain ⟨x55, o56, e_⟩ := Sl.addr (F54.s 2 rfl) (by rw [bgL_len]; omega)
      subst e_
      have hz57 : Hid ((bgL c ts.length)[q]? = some (bgAt (c.plan ts.length) q)) := lhd (bgL_get _ (by omega))
      obtain ⟨ez1, ez2, ez3, ez4, ez5⟩ := casew HC hz53.out
      have HZF := lhd ez4
      have HZA := lhd ez5
      clear ez1 ez2 ez3 ez4 ez5
      have hqi : (q : Int) < (ts.length : Int) := by omega
      have hqr : r.length <= ts.length := by omega
      go_wp2_with fail
      replace F54 := F54.drew
      refine ru_begin (fun W => W.cell? ⟨x55, o56 + q, none⟩ = some (.int .i64 (bgAt (c.plan ts.length) q)) /\ W.cell? ⟨yg4, 0, none⟩ = some (.func (.func 43) #[] #[]) /\ W.cell? ⟨w.heap.size, 1, none⟩ = some (.slice (some ⟨x51, o52, none⟩) ts.length cT) /\ W.cell? ⟨x51, o52 + q * 8 + 5, none⟩ = some (.int .i64 z.fr.lo) /\ W.cell? ⟨x51, o52 + q * 8 + 5 + 1, none⟩ = some (.int .i64 z.fr.hi)) 14 (by kernel_rfl) ?_ ?_
      · exact ⟨(by have h_ := Sl.cells (F54.at 2 rfl) hz57.out 0 _ rfl; simpa using h_), F54.q 4 0, F54.q 5 1, (Sl.cells (F54.at 8 rfl) hz53.out 5 _ rfl), (Sl.cells (F54.at 8 rfl) hz53.out 6 _ rfl)⟩
      obtain ⟨wd60, hwd_⟩ : ∃ x : World, w50.drew = x := ⟨_, rfl⟩
      rw [hwd_] at F54 ⊢
      have wd60s : w50.heap.size <= wd60.heap.size := by rw [← hwd_]; exact Nat.le_refl _
      clear hwd_
      have hS59 := (And.intro ((by have h_ := Sl.cells (F54.at 2 rfl) hz57.out 0 _ rfl; simpa using h_)) (And.intro (F54.q 4 0) (And.intro (F54.q 5 1) (And.intro ((Sl.cells (F54.at 8 rfl) hz53.out 5 _ rfl)) ((Sl.cells (F54.at 8 rfl) hz53.out 6 _ rfl))))))
      refine ru_t 0 [3, 2] ?_
      refine ru_t 1 [3, 2] ?_
      refine ru_t 2 [3] ?_
      refine ru_t 3 [] ?_
      refine ru_t 4 [13, 6, 5] ?_
      refine ru_t 5 [13, 6] ?_
      refine ru_t 6 [13] ?_
      refine ru_t 7 [13, 12, 11, 10, 8] ?_
      refine ru_t 8 [13, 12, 11, 10] ?_
      refine ru_t 9 [13, 12, 11, 10] ?_
      refine ru_t 10 [13, 12, 11] ?_
      refine ru_t 11 [13, 12] ?_
      refine ru_t 12 [13] ?_
      (try simp only [lpX])
      clear hS59
      refine ru_o 13 fun K hK => ?_
      go_simp
      refine (pickw_n _ _ _).mono ?_
      rintro e w63 ⟨rfl, hg61⟩
      have hg61s := hg61.size
      (try simp at hg61s)
      replace F54 := F54.gn hg61
      refine ru_back hK (by exact ⟨(by have h_ := Sl.cells (F54.at 2 rfl) hz57.out 0 _ rfl; simpa using h_), F54.q 4 0, F54.q 5 1, (Sl.cells (F54.at 8 rfl) hz53.out 5 _ rfl), (Sl.cells (F54.at 8 rfl) hz53.out 6 _ rfl)⟩) (fun _ => ?_)
      clear hK K
      (try simp only [lpX])
      refine ru_o 14 fun K hK => ?_
      go_simp
      refine ru_back_late hK (by kernel_rfl) ?_
      clear hK K
      (try simp only [lpX])
      refine ru_done (by kernel_rfl) ?_
      have Fn_ := F54
      (try dsimp only [lpF, lpG] at Fn_)
      obtain ⟨w65, hx66, F68, hxs67⟩ := Fn_.name
      (try simp at hxs67)
      rw [hx66]
      clear hx66 F54 Fn_
      by_cases c69 : bgAt (c.plan ts.length) q = z.fr.hi
      ·
       obtain ⟨c69a, c69b⟩ := bqt c69
       have c69H := lhd c69
       clear c69
       go_wp2_with fail
       obtain ⟨w70, hx71, F73, hxs72⟩ := F68.name
       (try simp at hxs72)
       rw [hx71]
       clear hx71 F68
       have HFR : Hid (c.chn ts.length (c.opr ts.length) = r.reverse) := lhd (by rw [HCH.out, SiteOk.pre_yes (show c.bgI ts.length q = c.fr q by rw [← HZF.out]; exact c69H.out)]; rfl)
       obtain ⟨gO74, cO75, e_⟩ := Own.opn (F73.o 1 rfl) (by rw [ints_len]; omega)
       subst e_
       have F76 : Bun w [rown intEnc 3 1 w.heap.size (.slice (some ⟨gO74, 0, none⟩) (ints r).length cO75) (ints r), rsl intEnc 1 lo hi (.slice a_z z.af.length c_z) z.af, rsl intEnc 1 low hiw (.slice (some ⟨x55, o56, none⟩) ts.length c1w) (bgL c ts.length), rsl intEnc 1 low hiw (.slice a2w ts.length c2w) (enL c ts.length), rbox yg4 69 #[.func (.func 43) #[] #[], .func (.func 44) #[] #[], .slice aM ms.length cM, .slice (some ⟨x51, o52, none⟩) ts.length cT, .slice ad dl.length cd], rbox w.heap.size 25 #[.slice aM ms.length cM, .slice (some ⟨x51, o52, none⟩) ts.length cT], rsl weaEnc 6 lo2 hi2 (.slice ad dl.length cd) dl, rafs lo hi ts, rsl tskEnc 8 lo hi (.slice (some ⟨x51, o52, none⟩) ts.length cT) ts, rsl mchEnc 3 lo hi (.slice aM ms.length cM) ms] _ := F73.pick [1, 0, 2, 3, 4, 5, 6, 7, 8, 9] (by decide) rfl
       clear F73
       refine (reverse_c w w.heap.size gO74 cO75 (ints r) [rsl intEnc 1 lo hi (.slice a_z z.af.length c_z) z.af, rsl intEnc 1 low hiw (.slice (some ⟨x55, o56, none⟩) ts.length c1w) (bgL c ts.length), rsl intEnc 1 low hiw (.slice a2w ts.length c2w) (enL c ts.length), rbox yg4 69 #[.func (.func 43) #[] #[], .func (.func 44) #[] #[], .slice aM ms.length cM, .slice (some ⟨x51, o52, none⟩) ts.length cT, .slice ad dl.length cd], rbox w.heap.size 25 #[.slice aM ms.length cM, .slice (some ⟨x51, o52, none⟩) ts.length cT], rsl weaEnc 6 lo2 hi2 (.slice ad dl.length cd) dl, rafs lo hi ts, rsl tskEnc 8 lo hi (.slice (some ⟨x51, o52, none⟩) ts.length cT) ts, rsl mchEnc 3 lo hi (.slice aM ms.length cM) ms] _ (Bun.hide (K := [rown intEnc 3 1 w.heap.size (.slice (some ⟨gO74, 0, none⟩) (ints r).length cO75) (ints r)]) (l := [rsl intEnc 1 lo hi (.slice a_z z.af.length c_z) z.af, rsl intEnc 1 low hiw (.slice (some ⟨x55, o56, none⟩) ts.length c1w) (bgL c ts.length), rsl intEnc 1 low hiw (.slice a2w ts.length c2w) (enL c ts.length), rbox yg4 69 #[.func (.func 43) #[] #[], .func (.func 44) #[] #[], .slice aM ms.length cM, .slice (some ⟨x51, o52, none⟩) ts.length cT, .slice ad dl.length cd], rbox w.heap.size 25 #[.slice aM ms.length cM, .slice (some ⟨x51, o52, none⟩) ts.length cT], rsl weaEnc 6 lo2 hi2 (.slice ad dl.length cd) dl, rafs lo hi ts, rsl tskEnc 8 lo hi (.slice (some ⟨x51, o52, none⟩) ts.length cT) ts, rsl mchEnc 3 lo hi (.slice aM ms.length cM) ms]) F76) (by rw [ints_len]; omega) (by rw [ints_len]; omega)).mono ?_
       rintro e w78 ⟨rfl, Fr_⟩
       rw [ints_rev] at Fr_
       have F77 : Bun w [rown intEnc 3 1 w.heap.size (.slice (some ⟨gO74, 0, none⟩) (ints r).length cO75) (ints r.reverse), rsl intEnc 1 lo hi (.slice a_z z.af.length c_z) z.af, rsl intEnc 1 low hiw (.slice (some ⟨x55, o56, none⟩) ts.length c1w) (bgL c ts.length), rsl intEnc 1 low hiw (.slice a2w ts.length c2w) (enL c ts.length), rbox yg4 69 #[.func (.func 43) #[] #[], .func (.func 44) #[] #[], .slice aM ms.length cM, .slice (some ⟨x51, o52, none⟩) ts.length cT, .slice ad dl.length cd], rbox w.heap.size 25 #[.slice aM ms.length cM, .slice (some ⟨x51, o52, none⟩) ts.length cT], rsl weaEnc 6 lo2 hi2 (.slice ad dl.length cd) dl, rafs lo hi ts, rsl tskEnc 8 lo hi (.slice (some ⟨x51, o52, none⟩) ts.length cT) ts, rsl mchEnc 3 lo hi (.slice aM ms.length cM) ms] w78 := Bun.show (K := []) (l := [rsl intEnc 1 lo hi (.slice a_z z.af.length c_z) z.af, rsl intEnc 1 low hiw (.slice (some ⟨x55, o56, none⟩) ts.length c1w) (bgL c ts.length), rsl intEnc 1 low hiw (.slice a2w ts.length c2w) (enL c ts.length), rbox yg4 69 #[.func (.func 43) #[] #[], .func (.func 44) #[] #[], .slice aM ms.length cM, .slice (some ⟨x51, o52, none⟩) ts.length cT, .slice ad dl.length cd], rbox w.heap.size 25 #[.slice aM ms.length cM, .slice (some ⟨x51, o52, none⟩) ts.length cT], rsl weaEnc 6 lo2 hi2 (.slice ad dl.length cd) dl, rafs lo hi ts, rsl tskEnc 8 lo hi (.slice (some ⟨x51, o52, none⟩) ts.length cT) ts, rsl mchEnc 3 lo hi (.slice aM ms.length cM) ms]) (N := [rown intEnc 3 1 w.heap.size (.slice (some ⟨gO74, 0, none⟩) (ints r).length cO75) (ints r.reverse)]) (F76.drop 0 rfl) Fr_ rfl
       clear Fr_ F76
       go_wp2_with fail
       exact bodyPost_ret (v := .tuple #[.slice (some ⟨gO74, 0, none⟩) ((ints r).length) cO75, .int .i64 0]) (by simp [results, Tryz.results24, go_sem]) rfl ((ChainR.yes HE0.out (by rw [← HC.out]; exact HFR.out) (F77.o 0 rfl) (Nat.le_refl _) F77.gb rfl))
      obtain ⟨c69a, c69b⟩ := bqf c69
      have c69H := lhd c69
      clear c69
      have HNF : Hid (¬ c.bgI ts.length q = c.fr q) := lhd (by rw [← HZF.out]; exact c69H.out)
      have HCA := lhd (HSO.out.has_cause hq_ HNF.out HQP.out)
      have hca := HCA.out.1
      have ge79 : World.cell? _ ⟨x55, o56 + q, none⟩ = some (.int .i64 (bgAt (c.plan ts.length) q)) := (by have h_ := Sl.cells (F68.at 2 rfl) hz57.out 0 _ rfl; simpa using h_)
      have gl80 := cell_lt ge79
      go_wp2_with fail
      clear ge79 gl80
      obtain ⟨HI81_, HI810⟩ : ∃ I : RelT, I = (fun t ds wr => ∃ (k : Nat) (nx : Int), t 2 = .pointer (some ⟨w.heap.size, 0, none⟩) /\ t 7 = .pointer (some ⟨yg4, 0, none⟩) /\ t 8 = .slice (some ⟨x55, o56, none⟩) ts.length c1w /\ t 9 = .slice a2w ts.length c2w /\ t 11 = .int .i64 (q : Int) /\ t 12 = vo /\ t 13 = .int .i64 (bgAt (c.plan ts.length) q) /\ t 14 = .int .i64 nx /\ t 15 = .int .i64 (k : Int) /\ k <= q /\ Hid ((nx = -1 /\ ∀ j, j < k -> c.cz ts.length q j = false) ∨ nx = (c.cause ts.length q : Int)) /\ (-1 <= nx /\ nx <= 1000) /\ ds = [] /\ w65.heap.size <= wr.heap.size /\ Bun w [rsl intEnc 1 lo hi (.slice a_z z.af.length c_z) z.af, rown intEnc 3 1 w.heap.size vo (ints r), rsl intEnc 1 low hiw (.slice (some ⟨x55, o56, none⟩) ts.length c1w) (bgL c ts.length), rsl intEnc 1 low hiw (.slice a2w ts.length c2w) (enL c ts.length), rbox yg4 69 #[.func (.func 43) #[] #[], .func (.func 44) #[] #[], .slice aM ms.length cM, .slice (some ⟨x51, o52, none⟩) ts.length cT, .slice ad dl.length cd], rbox w.heap.size 25 #[.slice aM ms.length cM, .slice (some ⟨x51, o52, none⟩) ts.length cT], rsl weaEnc 6 lo2 hi2 (.slice ad dl.length cd) dl, rafs lo hi ts, rsl tskEnc 8 lo hi (.slice (some ⟨x51, o52, none⟩) ts.length cT) ts, rsl mchEnc 3 lo hi (.slice aM ms.length cM) ms] wr) := ⟨_, rfl⟩
      have HI81 := lhd HI810
      clear HI810
      refine wp_loopS 118 rfl HI81_ (fun t wr => q - (intOf (t 15)).toNat) ?atStart3 ?round3
      case round3 =>
       intro t ds wr hHid
       rw [HI81.out] at hHid
       obtain ⟨k, nx, e2, e7, e8, e9, e11, e12, e13, e14, e15, hrel⟩ := hHid
       have e := rgG2118 t
       (try dsimp only at e)
       rw [e2, e7, e8, e9, e11, e12, e13, e14, e15] at e
       rw [e]
       simp only [e15]
       clear e e2 e7 e8 e9 e11 e12 e13 e14 e15
       obtain ⟨hk_, HNX, hnx, rfl, hs83, hF82⟩ := hrel
       clear F68
       obtain ⟨w84, rfl⟩ : ∃ x_ : World, x_ = wr := ⟨_, rfl⟩
       by_cases c85 : (k : Int) < (q : Int)
       ·
        have c85H := lhd c85
        obtain ⟨x86, o87, e_⟩ := Sl.addr (hF82.s 3 rfl) (by rw [enL_len]; omega)
        subst e_
        have hz88 : Hid ((enL c ts.length)[k]? = some (enAt (c.plan ts.length) k)) := lhd (enL_get _ (by omega))
        by_cases c89 : nx < 0
        ·
         have c89H := lhd c89
         have HNX0 := lhd c89
         have b90 := hF82.bx2 5 rfl
         have ge91 : World.cell? _ ⟨x51, o52 + q * 8 + 7, none⟩ = some (.slice a_z z.af.length c_z) := (HAV_z.out ▸ (Sl.cells (hF82.at 8 rfl) hz53.out 7 _ rfl))
         have gl92 := cell_lt ge91
         go_wp2_with fail
         clear b90 ge91 gl92
         refine (contains_c lo hi _ z.af (k : Int) _ (hF82.s 0 rfl) (Nat.le_trans h2 hF82.gb.size)).mono ?_
         rintro e w95 ⟨rfl, hg93⟩
         have hg93s := hg93.size
         (try simp at hg93s)
         have F96 := hF82.gn hg93
         clear hF82
         clear hg93
         cases c97 : hasI z.af (k : Int)
         ·
          have c97H := lhd c97
          have b98 := F96.bx5 4 rfl
          go_wp2_with fail
          clear b98
          refine (before_e lo hi _ ts q z (.func (.func 43) #[] #[]) (.func (.func 44) #[] #[]) (.slice aM ms.length cM) (.slice ad dl.length cd) true ms dl c HC _ (F96.s 8 rfl) (Nat.le_trans h2 F96.gb.size) hz53.out).mono ?_
          rintro e w101 ⟨rfl, hg99⟩
          have hg99s := hg99.size
          (try simp at hg99s)
          replace F96 := F96.gn hg99
          clear hg99
          by_cases c103 : (k : Int) = c.bef (c.m q) q
          ·
           obtain ⟨c103a, c103b⟩ := bqt c103
           have c103H := lhd c103
           clear c103
           by_cases c104 : enAt (c.plan ts.length) k = bgAt (c.plan ts.length) q
           ·
            obtain ⟨c104a, c104b⟩ := bqt c104
            have c104H := lhd c104
            clear c104
            have ge105 : World.cell? _ ⟨x86, o87 + k, none⟩ = some (.int .i64 (enAt (c.plan ts.length) k)) := (by have h_ := Sl.cells (F96.at 3 rfl) hz88.out 0 _ rfl; simpa using h_)
            have gl106 := cell_lt ge105
            go_wp2_with fail
            clear ge105 gl106
            (first | refine ⟨by kernel_rfl, ?_, ?_⟩ | refine ⟨rfl, ?_, ?_⟩ | refine ⟨?_, ?_⟩)
            · rw [HI81.out]; exact ⟨k + 1, (k : Int), by (iterate 8 refine ⟨by kernel_rfl, ?_⟩); exact ⟨(by show Value.int .i64 ((k : Int) + 1) = _; simp), (by omega), (lhd (.inr (by rw [show c.cause ts.length q = k from fndN_at (fun j hj => (HNX.out.resolve_right (by have h_ := HNX0.out; omega)).2 j hj) (by omega) (by unfold Cs.cz Cs.czM; rw [decide_eq_true (show c.bef (c.m q) q = (k : Int) from c103H.out.symm), decide_eq_true (show c.enI ts.length k = c.bgI ts.length q from c104H.out)]; simp)]))), (by omega), (by first | rfl | simp), (by first | omega | (simp; done) | (simp; omega)), F96⟩⟩
            · simp [slot, intOf]; omega
           obtain ⟨c104a, c104b⟩ := bqf c104
           have c104H := lhd c104
           clear c104
           have ge107 : World.cell? _ ⟨x86, o87 + k, none⟩ = some (.int .i64 (enAt (c.plan ts.length) k)) := (by have h_ := Sl.cells (F96.at 3 rfl) hz88.out 0 _ rfl; simpa using h_)
           have gl108 := cell_lt ge107
           go_wp2_with fail
           clear ge107 gl108
           (first | refine ⟨by kernel_rfl, ?_, ?_⟩ | refine ⟨rfl, ?_, ?_⟩ | refine ⟨?_, ?_⟩)
           · rw [HI81.out]; exact ⟨k + 1, nx, by (iterate 8 refine ⟨by kernel_rfl, ?_⟩); exact ⟨(by show Value.int .i64 ((k : Int) + 1) = _; simp), (by omega), (lhd (.inl ⟨(HNX.out.resolve_right (by have h_ := HNX0.out; omega)).1, fun j hj => by rcases Nat.lt_succ_iff_lt_or_eq.1 hj with h_ | e_; exact (HNX.out.resolve_right (by have h_ := HNX0.out; omega)).2 j h_; rw [e_]; exact (by unfold Cs.cz Cs.czA Cs.czM; rw [← HZA.out]; rw [(show z.af.contains (k : Int) = false from c97H.out)]; simp only [Bool.false_and]; rw [decide_eq_false (show ¬ c.enI ts.length k = c.bgI ts.length q from c104H.out)]; simp)⟩)), (by omega), (by first | rfl | simp), (by first | omega | (simp; done) | (simp; omega)), F96⟩⟩
           · simp [slot, intOf]; omega
          obtain ⟨c103a, c103b⟩ := bqf c103
          have c103H := lhd c103
          clear c103
          go_wp2_with fail
          (first | refine ⟨by kernel_rfl, ?_, ?_⟩ | refine ⟨rfl, ?_, ?_⟩ | refine ⟨?_, ?_⟩)
          · rw [HI81.out]; exact ⟨k + 1, nx, by (iterate 8 refine ⟨by kernel_rfl, ?_⟩); exact ⟨(by show Value.int .i64 ((k : Int) + 1) = _; simp), (by omega), (lhd (.inl ⟨(HNX.out.resolve_right (by have h_ := HNX0.out; omega)).1, fun j hj => by rcases Nat.lt_succ_iff_lt_or_eq.1 hj with h_ | e_; exact (HNX.out.resolve_right (by have h_ := HNX0.out; omega)).2 j h_; rw [e_]; exact (by unfold Cs.cz Cs.czA Cs.czM; rw [← HZA.out]; rw [(show z.af.contains (k : Int) = false from c97H.out)]; simp only [Bool.false_and]; rw [decide_eq_false (show ¬ c.bef (c.m q) q = (k : Int) from fun e_ => c103H.out e_.symm)]; rfl)⟩)), (by omega), (by first | rfl | simp), (by first | omega | (simp; done) | (simp; omega)), F96⟩⟩
          · simp [slot, intOf]; omega
         have c97H := lhd c97
         have b109 := F96.bx5 4 rfl
         go_wp2_with fail
         clear b109
         refine (readyw_e lo hi _ ms ts dl 0 _ _ ts.length k (.func (.func 44) #[] #[]) (.slice aM ms.length cM) (.slice ad dl.length cd) c HC _ (F96.s 8 rfl) (Nat.le_trans h2 F96.gb.size) (F96.slY 3 rfl) (Nat.le_refl _) HOK.out.1 HOK.out.2 (by omega) (by omega)).mono ?_
         rintro e w112 ⟨rfl, hg110⟩
         have hg110s := hg110.size
         (try simp at hg110s)
         replace F96 := F96.gn hg110
         clear hg110
         by_cases c114 : enAt (c.plan ts.length) k + c.wa k = bgAt (c.plan ts.length) q
         ·
          obtain ⟨c114a, c114b⟩ := bqt c114
          have c114H := lhd c114
          clear c114
          go_wp2_with fail
          (first | refine ⟨by kernel_rfl, ?_, ?_⟩ | refine ⟨rfl, ?_, ?_⟩ | refine ⟨?_, ?_⟩)
          · rw [HI81.out]; exact ⟨k + 1, (k : Int), by (iterate 8 refine ⟨by kernel_rfl, ?_⟩); exact ⟨(by show Value.int .i64 ((k : Int) + 1) = _; simp), (by omega), (lhd (.inr (by rw [show c.cause ts.length q = k from fndN_at (fun j hj => (HNX.out.resolve_right (by have h_ := HNX0.out; omega)).2 j hj) (by omega) (by unfold Cs.cz Cs.czA; rw [← HZA.out, show z.af.contains (k : Int) = true from c97H.out, decide_eq_true (show c.enI ts.length k + c.wa k = c.bgI ts.length q from c114H.out)]; rfl)]))), (by omega), (by first | rfl | simp), (by first | omega | (simp; done) | (simp; omega)), F96⟩⟩
          · simp [slot, intOf]; omega
         obtain ⟨c114a, c114b⟩ := bqf c114
         have c114H := lhd c114
         clear c114
         have b115 := F96.bx5 4 rfl
         go_wp2_with fail
         clear b115
         refine (before_e lo hi _ ts q z (.func (.func 43) #[] #[]) (.func (.func 44) #[] #[]) (.slice aM ms.length cM) (.slice ad dl.length cd) true ms dl c HC _ (F96.s 8 rfl) (Nat.le_trans h2 F96.gb.size) hz53.out).mono ?_
         rintro e w118 ⟨rfl, hg116⟩
         have hg116s := hg116.size
         (try simp at hg116s)
         replace F96 := F96.gn hg116
         clear hg116
         by_cases c120 : (k : Int) = c.bef (c.m q) q
         ·
          obtain ⟨c120a, c120b⟩ := bqt c120
          have c120H := lhd c120
          clear c120
          by_cases c121 : enAt (c.plan ts.length) k = bgAt (c.plan ts.length) q
          ·
           obtain ⟨c121a, c121b⟩ := bqt c121
           have c121H := lhd c121
           clear c121
           have ge122 : World.cell? _ ⟨x86, o87 + k, none⟩ = some (.int .i64 (enAt (c.plan ts.length) k)) := (by have h_ := Sl.cells (F96.at 3 rfl) hz88.out 0 _ rfl; simpa using h_)
           have gl123 := cell_lt ge122
           go_wp2_with fail
           clear ge122 gl123
           (first | refine ⟨by kernel_rfl, ?_, ?_⟩ | refine ⟨rfl, ?_, ?_⟩ | refine ⟨?_, ?_⟩)
           · rw [HI81.out]; exact ⟨k + 1, (k : Int), by (iterate 8 refine ⟨by kernel_rfl, ?_⟩); exact ⟨(by show Value.int .i64 ((k : Int) + 1) = _; simp), (by omega), (lhd (.inr (by rw [show c.cause ts.length q = k from fndN_at (fun j hj => (HNX.out.resolve_right (by have h_ := HNX0.out; omega)).2 j hj) (by omega) (by unfold Cs.cz Cs.czM; rw [decide_eq_true (show c.bef (c.m q) q = (k : Int) from c120H.out.symm), decide_eq_true (show c.enI ts.length k = c.bgI ts.length q from c121H.out)]; simp)]))), (by omega), (by first | rfl | simp), (by first | omega | (simp; done) | (simp; omega)), F96⟩⟩
           · simp [slot, intOf]; omega
          obtain ⟨c121a, c121b⟩ := bqf c121
          have c121H := lhd c121
          clear c121
          have ge124 : World.cell? _ ⟨x86, o87 + k, none⟩ = some (.int .i64 (enAt (c.plan ts.length) k)) := (by have h_ := Sl.cells (F96.at 3 rfl) hz88.out 0 _ rfl; simpa using h_)
          have gl125 := cell_lt ge124
          go_wp2_with fail
          clear ge124 gl125
          (first | refine ⟨by kernel_rfl, ?_, ?_⟩ | refine ⟨rfl, ?_, ?_⟩ | refine ⟨?_, ?_⟩)
          · rw [HI81.out]; exact ⟨k + 1, nx, by (iterate 8 refine ⟨by kernel_rfl, ?_⟩); exact ⟨(by show Value.int .i64 ((k : Int) + 1) = _; simp), (by omega), (lhd (.inl ⟨(HNX.out.resolve_right (by have h_ := HNX0.out; omega)).1, fun j hj => by rcases Nat.lt_succ_iff_lt_or_eq.1 hj with h_ | e_; exact (HNX.out.resolve_right (by have h_ := HNX0.out; omega)).2 j h_; rw [e_]; exact (by unfold Cs.cz Cs.czA Cs.czM; rw [← HZA.out]; rw [decide_eq_false (show ¬ c.enI ts.length k + c.wa k = c.bgI ts.length q from c114H.out)]; simp only [Bool.and_false]; rw [decide_eq_false (show ¬ c.enI ts.length k = c.bgI ts.length q from c121H.out)]; simp)⟩)), (by omega), (by first | rfl | simp), (by first | omega | (simp; done) | (simp; omega)), F96⟩⟩
          · simp [slot, intOf]; omega
         obtain ⟨c120a, c120b⟩ := bqf c120
         have c120H := lhd c120
         clear c120
         go_wp2_with fail
         (first | refine ⟨by kernel_rfl, ?_, ?_⟩ | refine ⟨rfl, ?_, ?_⟩ | refine ⟨?_, ?_⟩)
         · rw [HI81.out]; exact ⟨k + 1, nx, by (iterate 8 refine ⟨by kernel_rfl, ?_⟩); exact ⟨(by show Value.int .i64 ((k : Int) + 1) = _; simp), (by omega), (lhd (.inl ⟨(HNX.out.resolve_right (by have h_ := HNX0.out; omega)).1, fun j hj => by rcases Nat.lt_succ_iff_lt_or_eq.1 hj with h_ | e_; exact (HNX.out.resolve_right (by have h_ := HNX0.out; omega)).2 j h_; rw [e_]; exact (by unfold Cs.cz Cs.czA Cs.czM; rw [← HZA.out]; rw [decide_eq_false (show ¬ c.enI ts.length k + c.wa k = c.bgI ts.length q from c114H.out)]; simp only [Bool.and_false]; rw [decide_eq_false (show ¬ c.bef (c.m q) q = (k : Int) from fun e_ => c120H.out e_.symm)]; rfl)⟩)), (by omega), (by first | rfl | simp), (by first | omega | (simp; done) | (simp; omega)), F96⟩⟩
         · simp [slot, intOf]; omega
        have c89H := lhd c89
        have c89a := dec_f c89
        have hnq : nx = (c.cause ts.length q : Int) := by rcases HNX.out with ⟨e_, h_⟩ | h_; exact absurd HCA.out.2 (by rw [h_ _ (by have h2_ := HCA.out.1; omega)]; simp); exact h_
        subst hnq
        go_wp2_with (at_builtin; refine wpList_app _ okInt rfl _ _ rfl w.heap.size vo (ints r) [(c.cause ts.length q : Int)] rfl (by exact ((hF82.o 1 rfl)).alloc _) ⟨_, 0, none⟩ 1 1 rfl rfl (by decide) (news_of (Bk.newAt _ _ _ (by simp))) (r.length + 1) (by rw [ints_len]) (by omega) (by first | omega | (simp; omega)) _ rfl ?_; intro g126 cap127 w128 hp129; refine Hid.out ?_)
        refine lhd ?_
        have hp129s := hp129.gb.size
        (try simp at hp129s)
        have F130 := ((hF82.alloc (.cells #[.int .i64 (c.cause ts.length q : Int)] 3)).front 1 rfl rfl).app hp129 (by simp)
        clear hF82
        go_wp2_with fail
        have F131 : Bun w [rown intEnc 3 1 w.heap.size (.slice (some ⟨g126, 0, none⟩) (r.length + 1) cap127) (ints r ++ [(c.cause ts.length q : Int)]), rsl intEnc 1 low hiw (.slice (some ⟨x55, o56, none⟩) ts.length c1w) (bgL c ts.length), rsl intEnc 1 low hiw (.slice (some ⟨x86, o87, none⟩) ts.length c2w) (enL c ts.length), rbox yg4 69 #[.func (.func 43) #[] #[], .func (.func 44) #[] #[], .slice aM ms.length cM, .slice (some ⟨x51, o52, none⟩) ts.length cT, .slice ad dl.length cd], rbox w.heap.size 25 #[.slice aM ms.length cM, .slice (some ⟨x51, o52, none⟩) ts.length cT], rsl weaEnc 6 lo2 hi2 (.slice ad dl.length cd) dl, rafs lo hi ts, rsl tskEnc 8 lo hi (.slice (some ⟨x51, o52, none⟩) ts.length cT) ts, rsl mchEnc 3 lo hi (.slice aM ms.length cM) ms] _ := F130.pick [0, 2, 3, 4, 5, 6, 7, 8, 9] (by decide) rfl
        clear F130
        (first | refine ⟨by kernel_rfl, ?_, ?_⟩ | refine ⟨rfl, ?_, ?_⟩ | refine ⟨?_, ?_⟩)
        · rw [HI47.out]; exact ⟨c.cause ts.length q, _, r ++ [c.cause ts.length q], (by kernel_rfl), (by kernel_rfl), (by kernel_rfl), (by kernel_rfl), rfl, (by kernel_rfl), (by omega), (lhd (by have h_ := HSO.out.cz_bd hq_ HCA.out.1 HCA.out.2; have h2_ := HQP.out; omega)), (lhd (chn_step HSO.out hq_ HNF.out HQP.out HCH.out)), (by simp; omega), (by first | rfl | simp), (by first | omega | (simp; done) | (simp; omega)), (by rw [ints_snoc]; exact F131)⟩
        · simp [slot, intOf]; omega
       have c85H := lhd c85
       have c85a := dec_f c85
       have hnq : nx = (c.cause ts.length q : Int) := by rcases HNX.out with ⟨e_, h_⟩ | h_; exact absurd HCA.out.2 (by rw [h_ _ (by have h2_ := HCA.out.1; omega)]; simp); exact h_
       subst hnq
       go_wp2_with (at_builtin; refine wpList_app _ okInt rfl _ _ rfl w.heap.size vo (ints r) [(c.cause ts.length q : Int)] rfl (by exact ((hF82.o 1 rfl)).alloc _) ⟨_, 0, none⟩ 1 1 rfl rfl (by decide) (news_of (Bk.newAt _ _ _ (by simp))) (r.length + 1) (by rw [ints_len]) (by omega) (by first | omega | (simp; omega)) _ rfl ?_; intro g132 cap133 w134 hp135; refine Hid.out ?_)
       refine lhd ?_
       have hp135s := hp135.gb.size
       (try simp at hp135s)
       have F136 := ((hF82.alloc (.cells #[.int .i64 (c.cause ts.length q : Int)] 3)).front 1 rfl rfl).app hp135 (by simp)
       clear hF82
       go_wp2_with fail
       have F137 : Bun w [rown intEnc 3 1 w.heap.size (.slice (some ⟨g132, 0, none⟩) (r.length + 1) cap133) (ints r ++ [(c.cause ts.length q : Int)]), rsl intEnc 1 low hiw (.slice (some ⟨x55, o56, none⟩) ts.length c1w) (bgL c ts.length), rsl intEnc 1 low hiw (.slice a2w ts.length c2w) (enL c ts.length), rbox yg4 69 #[.func (.func 43) #[] #[], .func (.func 44) #[] #[], .slice aM ms.length cM, .slice (some ⟨x51, o52, none⟩) ts.length cT, .slice ad dl.length cd], rbox w.heap.size 25 #[.slice aM ms.length cM, .slice (some ⟨x51, o52, none⟩) ts.length cT], rsl weaEnc 6 lo2 hi2 (.slice ad dl.length cd) dl, rafs lo hi ts, rsl tskEnc 8 lo hi (.slice (some ⟨x51, o52, none⟩) ts.length cT) ts, rsl mchEnc 3 lo hi (.slice aM ms.length cM) ms] _ := F136.pick [0, 2, 3, 4, 5, 6, 7, 8, 9] (by decide) rfl
       clear F136
       (first | refine ⟨by kernel_rfl, ?_, ?_⟩ | refine ⟨rfl, ?_, ?_⟩ | refine ⟨?_, ?_⟩)
       · rw [HI47.out]; exact ⟨c.cause ts.length q, _, r ++ [c.cause ts.length q], (by kernel_rfl), (by kernel_rfl), (by kernel_rfl), (by kernel_rfl), rfl, (by kernel_rfl), (by omega), (lhd (by have h_ := HSO.out.cz_bd hq_ HCA.out.1 HCA.out.2; have h2_ := HQP.out; omega)), (lhd (chn_step HSO.out hq_ HNF.out HQP.out HCH.out)), (by simp; omega), (by first | rfl | simp), (by first | omega | (simp; done) | (simp; omega)), (by rw [ints_snoc]; exact F137)⟩
       · simp [slot, intOf]; omega
      case atStart3 =>
       rw [HI81.out]
       exact ⟨0, -1, by (iterate 7 refine ⟨by kernel_rfl, ?_⟩); exact ⟨rfl, rfl, Nat.zero_le _, (lhd (.inl ⟨rfl, fun j hj => absurd hj (Nat.not_lt_zero _)⟩)), (by omega), rfl, (by first | exact Nat.le_refl _ | omega | (simp; done) | (simp; omega)), F68⟩⟩
     case atStart2 =>
      rw [HI47.out]
      exact ⟨c.opr ts.length, _, [c.opr ts.length], (by kernel_rfl), (by kernel_rfl), (by kernel_rfl), (by kernel_rfl), rfl, rfl, hopb, (lhd HOP.out.2.2), (lhd rfl), (by simp; omega), rfl, (by first | exact Nat.le_refl _ | omega | (simp; done) | (simp; omega)), F43⟩
    obtain ⟨c44a, c44b⟩ := bqf c44
    have c44H := lhd c44
    clear c44
    have hqlt : q + 1 <= c.opr ts.length := by have h_ := HOP.out.2.1; have h2_ := c44H.out; rcases Nat.eq_or_lt_of_le hq_ with e_ | h3_; exact absurd (by rw [e_]; rw [← HOW.out]; exact h_) h2_; exact h3_
    go_wp2_with fail
    (first | refine ⟨by kernel_rfl, ?_, ?_⟩ | refine ⟨rfl, ?_, ?_⟩ | refine ⟨?_, ?_⟩)
    · rw [HI35.out]; exact ⟨q + 1, by (iterate 5 refine ⟨by kernel_rfl, ?_⟩); exact ⟨(by show Value.int .i64 ((q : Int) + 1) = _; simp), hqlt, (by first | rfl | simp), (by first | omega | (simp; done) | (simp; omega)), F43⟩⟩
    · simp [slot, intOf]; omega
   case atStart1 =>
    rw [HI35.out]
    exact ⟨0, by (iterate 5 refine ⟨by kernel_rfl, ?_⟩); exact ⟨rfl, Nat.zero_le _, rfl, (by first | exact Nat.le_refl _ | omega | (simp; done) | (simp; omega)), F24⟩⟩
  intro hZ18
  refine ru_state 118 (fun t w_ => ∃ (yg4 : Nat), t 2 = .pointer (some ⟨w.heap.size, 0, none⟩) /\ t 7 = .pointer (some ⟨yg4, 0, none⟩) /\ t 29 = .agg #[.func (.func 43) #[] #[], .func (.func 44) #[] #[], .slice aM ms.length cM, .slice aT ts.length cT, .slice ad dl.length cd] /\ w9.heap.size <= w_.heap.size /\ Bun w [rbox yg4 69 #[.nilFunc, .nilFunc, .slice none 0 0, .slice none 0 0, .slice none 0 0], rbox w.heap.size 25 #[.slice aM ms.length cM, .slice aT ts.length cT], rsl weaEnc 6 lo2 hi2 (.slice ad dl.length cd) dl, rafs lo hi ts, rsl tskEnc 8 lo hi (.slice aT ts.length cT) ts, rsl mchEnc 3 lo hi (.slice aM ms.length cM) ms] w_) #[true, true, true, true, true, false] 1 ?st138 ?nx138
  case st138 =>
   rintro t w139 ⟨yg4, e2, e7, e29, hsz138, F140⟩
   clear F1
   rw [rng_bchain_c t, e2, e7, e29]
   clear e2 e7 e29
   have hws138 := F140.gb.size
   have yg4l := F140.ltAt 0 rfl yg4 rfl
   have yg4b := yg4l.2 rfl
   refine ru_o 5 fun K hK => ?_
   have kb_ := F140.bx5 0 rfl
   go_simp
   clear kb_
   replace F140 := F140.pt5 (.func (.func 43) #[] #[]) (.func (.func 44) #[] #[]) (.slice aM ms.length cM) (.slice aT ts.length cT) (.slice ad dl.length cd)
   refine ru_back_late hK (by kernel_rfl) ?_
   exact hZ18.out _ _ _ (by kernel_rfl) (by kernel_rfl) rfl ⟨yg4, (by kernel_rfl), (by kernel_rfl), (by first | omega | (simp; done) | (simp; omega)), F140⟩
  intro hZ138
  refine ru_state 118 (fun t w_ => t 2 = .pointer (some ⟨w.heap.size, 0, none⟩) /\ t 29 = .agg #[.func (.func 43) #[] #[], .func (.func 44) #[] #[], .slice aM ms.length cM, .slice aT ts.length cT, .slice ad dl.length cd] /\ w9.heap.size <= w_.heap.size /\ Bun w [rbox w.heap.size 25 #[.slice aM ms.length cM, .slice aT ts.length cT], rsl weaEnc 6 lo2 hi2 (.slice ad dl.length cd) dl, rafs lo hi ts, rsl tskEnc 8 lo hi (.slice aT ts.length cT) ts, rsl mchEnc 3 lo hi (.slice aM ms.length cM) ms] w_) #[true, true, true, true, false, false] 2 ?st142 ?nx142
  case st142 =>
   rintro t w143 ⟨e2, e29, hsz142, F144⟩
   clear F1
   rw [rng_bchain_c t, e2, e29]
   clear e2 e29
   have hws142 := F144.gb.size
   refine ru_o 4 fun K hK => ?_
   go_simp
   replace F144 := F144.new 69 #[.nilFunc, .nilFunc, .slice none 0 0, .slice none 0 0, .slice none 0 0] (n := w143.heap.size) (by simp)
   refine ru_back hK (by exact ⟨F144.q 1 0, F144.q 1 1⟩) (fun _ => ?_)
   exact hZ138.out _ _ _ (by kernel_rfl) (by kernel_rfl) rfl ⟨w143.heap.size, (by kernel_rfl), (by kernel_rfl), (by kernel_rfl), (by first | omega | (simp; done) | (simp; omega)), F144⟩
  intro hZ142
  refine ru_state 118 (fun t w_ => ∃ (yg4 : Nat), t 2 = .pointer (some ⟨w.heap.size, 0, none⟩) /\ t 7 = .pointer (some ⟨yg4, 0, none⟩) /\ t 27 = .agg #[.slice aM ms.length cM, .slice aT ts.length cT] /\ t 28 = .slice ad dl.length cd /\ w9.heap.size <= w_.heap.size /\ Bun w [rbox yg4 69 #[.nilFunc, .nilFunc, .slice none 0 0, .slice none 0 0, .slice none 0 0], rbox w.heap.size 25 #[.slice aM ms.length cM, .slice aT ts.length cT], rsl weaEnc 6 lo2 hi2 (.slice ad dl.length cd) dl, rafs lo hi ts, rsl tskEnc 8 lo hi (.slice aT ts.length cT) ts, rsl mchEnc 3 lo hi (.slice aM ms.length cM) ms] w_) #[false, true, true, false, true, false] 3 ?st146 ?nx146
  case st146 =>
   rintro t w147 ⟨yg4, e2, e7, e27, e28, hsz146, F148⟩
   clear F1
   rw [rng_bchain_c t, e2, e7, e27, e28]
   clear e2 e7 e27 e28
   have hws146 := F148.gb.size
   have yg4l := F148.ltAt 0 rfl yg4 rfl
   have yg4b := yg4l.2 rfl
   refine ru_o 0 fun K hK => ?_
   go_simp
   refine (pickedw_c _).mono ?_
   rintro e w151 ⟨rfl, hg149⟩
   have hg149s := hg149.size
   (try simp at hg149s)
   replace F148 := F148.gn hg149
   refine ru_back hK (by exact ⟨F148.q 1 0, F148.q 1 1⟩) (fun _ => ?_)
   clear hK K
   (try simp only [lpX])
   refine ru_p 3 ?_
   (try simp only [lpX])
   exact hZ138.out _ _ _ (by kernel_rfl) (by kernel_rfl) rfl ⟨yg4, (by kernel_rfl), (by kernel_rfl), (by kernel_rfl), (by first | omega | (simp; done) | (simp; omega)), F148⟩
  intro hZ146
  refine ru_two 0 4 rfl rfl (by kernel_rfl) ?_ ?_
  ·
   intro K hK
   go_simp
   refine (pickedw_c _).mono ?_
   rintro e w155 ⟨rfl, hg153⟩
   have hg153s := hg153.size
   (try simp at hg153s)
   replace F1 := F1.gn hg153
   refine ru_back hK (by exact ⟨F1.q 0 0, F1.q 0 1⟩) (fun _ => ?_)
   clear hK K
   (try simp only [lpX])
   refine ru_p 3 ?_
   (try simp only [lpX])
   exact hZ142.out _ _ _ (by kernel_rfl) (by kernel_rfl) rfl ⟨(by kernel_rfl), (by kernel_rfl), (by first | omega | (simp; done) | (simp; omega)), F1⟩
  intro K hK
  go_simp
  replace F1 := F1.new 69 #[.nilFunc, .nilFunc, .slice none 0 0, .slice none 0 0, .slice none 0 0] (n := wd17.heap.size) (by simp)
  refine ru_back hK (by exact ⟨F1.q 1 0, F1.q 1 1⟩) (fun _ => ?_)
  exact hZ146.out _ _ _ (by kernel_rfl) (by kernel_rfl) rfl ⟨wd17.heap.size, (by kernel_rfl), (by kernel_rfl), (by kernel_rfl), (by kernel_rfl), (by first | omega | (simp; done) | (simp; omega)), F1⟩
 obtain ⟨c11a, c11b⟩ := bqf c11
 have c11H := lhd c11
 clear c11
 go_wp2_with fail
 exact bodyPost_ret (v := .tuple #[.slice none 0 0, .int .i64 (bothErr ms ts dl)]) (by simp [results, Tryz.results24, go_sem]) rfl ((ChainR.no (by unfold chnE; rw [if_pos c11H.out]) c11H.out F1.gb rfl))
end Go.Proofs.YtcoldeolmleeiaaGreat
