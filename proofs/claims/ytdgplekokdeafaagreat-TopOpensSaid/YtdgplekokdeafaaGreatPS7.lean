/- the kit of build: a case made of numbers. -/
import Derived.Test.YtdgplekokdeafaaGreatPS6
set_option linter.unusedVariables false
set_option linter.unusedSimpArgs false
set_option linter.unnecessarySimpa false
namespace Go.Proofs.YtdgplekokdeafaaGreat
open Go.RowKit
set_option maxRecDepth 100000
attribute [local go_sem] Oper.semAt_some
theorem rgS7106 (t : Nat -> Value) : ((List.range 106).map t).toArray = #[t 0, t 1, t 2, t 3, t 4, t 5, t 6, t 7, t 8, t 9, t 10, t 11, t 12, t 13, t 14, t 15, t 16, t 17, t 18, t 19, t 20, t 21, t 22, t 23, t 24, t 25, t 26, t 27, t 28, t 29, t 30, t 31, t 32, t 33, t 34, t 35, t 36, t 37, t 38, t 39, t 40, t 41, t 42, t 43, t 44, t 45, t 46, t 47, t 48, t 49, t 50, t 51, t 52, t 53, t 54, t 55, t 56, t 57, t 58, t 59, t 60, t 61, t 62, t 63, t 64, t 65, t 66, t 67, t 68, t 69, t 70, t 71, t 72, t 73, t 74, t 75, t 76, t 77, t 78, t 79, t 80, t 81, t 82, t 83, t 84, t 85, t 86, t 87, t 88, t 89, t 90, t 91, t 92, t 93, t 94, t 95, t 96, t 97, t 98, t 99, t 100, t 101, t 102, t 103, t 104, t 105] := rfl
theorem rows_snoc {ms : List Mch} {dl : List Wea} {rows : List (Value × List Bool)} {k : Nat} {x : Mch} {v : Value} {l : List Bool} (h : ∀ j r, (rows.map (·.2))[j]? = some r -> inR (mc ms j) dl dl.length r) (hk : rows.length = k) (hx : ms[k]? = some x) (hl : inR x dl dl.length l) : ∀ j r, ((rows ++ [(v, l)]).map (·.2))[j]? = some r -> inR (mc ms j) dl dl.length r := by
 intro j r hr
 rw [List.map_append] at hr
 rcases Nat.lt_trichotomy j k with hj | rfl | hj
 ·
  rw [List.getElem?_append_left (by simp; omega)] at hr
  exact h j r hr
 ·
  rw [List.getElem?_append_right (by simp; omega)] at hr
  rw [show j - (rows.map (·.2)).length = 0 by simp; omega] at hr
  obtain rfl := Option.some.inj hr
  rw [mc_get hx]
  exact hl
 rw [List.getElem?_eq_none (by simp; omega)] at hr
 cases hr
def KCaseR (w0 : World) (sb : Nat) (lo hi lo2 hi2 : Nat) (ms : List Mch) (ts : List Tsk) (dl : List Wea) (aM aT ad : Option Addr) (cM cT cd : Nat) (LR : List Res) : Ending -> World -> Prop := fun e w' => ∃ (v1 v2 v3 v4 : Value) (lh lw lf : List Int) (rows : List (Value × List Bool)) (c : Cs), e = .returned (.agg #[v1, v2, v3, v4]) /\ (KCase c ms ts dl lh lw lf (rows.map (·.2)) /\ ∀ r ∈ rows, sliceB r.1 = true) /\ Bun w0 [rown intEnc 3 1 w0.heap.size v1 lh, rown intEnc 3 1 w0.heap.size v2 lw, rown intEnc 3 1 w0.heap.size v3 lf, rown vEncS 118 1 w0.heap.size v4 (rows.map (·.1)), rrws w0.heap.size rows, rseed sb, rsl weaEnc 6 lo2 hi2 (.slice ad dl.length cd) dl, rsl mchEnc 3 lo hi (.slice aM ms.length cM) ms, rsl tskEnc 8 lo hi (.slice aT ts.length cT) ts, rafs lo hi ts, rall LR] w'
set_option maxHeartbeats 16000000 in
theorem kcaseOf_c (w0 : World) (sb : Nat) (lo hi lo2 hi2 : Nat) (ms : List Mch) (ts : List Tsk) (dl : List Wea) (aM aT ad : Option Addr) (cM cT cd : Nat) (LR : List Res) (w : World) (hB : Bun w0 [rseed sb, rsl weaEnc 6 lo2 hi2 (.slice ad dl.length cd) dl, rsl mchEnc 3 lo hi (.slice aM ms.length cM) ms, rsl tskEnc 8 lo hi (.slice aT ts.length cT) ts, rafs lo hi ts, rall LR] w) (h2_ : hi <= w.heap.size) (h3_ : hi2 <= w.heap.size) (hbe : bothErr ms ts dl = 0) :
  Calls Tryz.prog 16 #[.pointer (some ⟨sb, 0, none⟩), .agg #[.slice aM ms.length cM, .slice aT ts.length cT], .slice ad dl.length cd] w (KCaseR w0 sb lo hi lo2 hi2 ms ts dl aM aT ad cM cT cd LR) := by
 have hw0 := hB.gb.size
 have HOK := lhd (bothOk hbe)
 have HBE := lhd hbe
 have hnt := HOK.out.1.nt
 have hnm := HOK.out.1.nm
 have hnd := HOK.out.2
 clear hbe
 go_enter Tryz.func16, Tryz.ntmps16
 go_wp2_with fail
 have F1 := hB.new 43 #[.slice aM ms.length cM, .slice aT ts.length cT] (n := w.heap.size) (by simp)
 clear hB
 replace F1 := F1.new 60 #[.slice none 0 0, .slice none 0 0, .slice none 0 0, .slice none 0 0] (n := (w.heap.size + 1)) (by simp)
 replace F1 := F1.new 60 #[.slice none 0 0, .slice none 0 0, .slice none 0 0, .slice none 0 0] (n := (w.heap.size + 2)) (by simp)
 replace F1 := F1.nilrow intEnc 3 1
 replace F1 := F1.nilrow intEnc 3 1
 replace F1 := F1.nilrow intEnc 3 1
 (skip)
 obtain ⟨HI7_, HI70⟩ : ∃ I : RelT, I = (fun t ds wr => ∃ (k : Nat) (vh vw vf : Value) (lh lw lf : List Int), t 0 = .pointer (some ⟨sb, 0, none⟩) /\ t 2 = .slice ad dl.length cd /\ t 4 = .pointer (some ⟨w.heap.size, 0, none⟩) /\ t 6 = .pointer (some ⟨w.heap.size + 1, 0, none⟩) /\ t 7 = .pointer (some ⟨w.heap.size + 2, 0, none⟩) /\ t 8 = .int .i64 (k : Int) /\ k <= ts.length /\ Hid (insL Tsk.ho ts k lh) /\ Hid (insL Tsk.wa ts k lw) /\ Hid (insL Tsk.fr ts k lf) /\ ds = [] /\ w.heap.size <= wr.heap.size /\ Bun w0 [rown intEnc 3 1 w0.heap.size vh lh, rown intEnc 3 1 w0.heap.size vw lw, rown intEnc 3 1 w0.heap.size vf lf, rbox (w.heap.size + 2) 60 #[vh, vw, vf, .slice none 0 0], rbox (w.heap.size + 1) 60 #[.slice none 0 0, .slice none 0 0, .slice none 0 0, .slice none 0 0], rbox w.heap.size 43 #[.slice aM ms.length cM, .slice aT ts.length cT], rseed sb, rsl weaEnc 6 lo2 hi2 (.slice ad dl.length cd) dl, rsl mchEnc 3 lo hi (.slice aM ms.length cM) ms, rsl tskEnc 8 lo hi (.slice aT ts.length cT) ts, rafs lo hi ts, rall LR] wr) := ⟨_, rfl⟩
 have HI7 := lhd HI70
 clear HI70
 refine wp_loopS 106 rfl HI7_ (fun t wr => ts.length - (intOf (t 8)).toNat) ?atStart1 ?round1
 case round1 =>
  intro t ds wr hHid
  rw [HI7.out] at hHid
  obtain ⟨k, vh, vw, vf, lh, lw, lf, e0, e2, e4, e6, e7, e8, hrel⟩ := hHid
  have e := rgS7106 t
  (try dsimp only at e)
  rw [e0, e2, e4, e6, e7, e8] at e
  rw [e]
  simp only [e8]
  clear e e0 e2 e4 e6 e7 e8
  obtain ⟨hk, I1, I2, I3, rfl, hs9, hF8⟩ := hrel
  clear F1
  obtain ⟨w10, rfl⟩ : ∃ x_ : World, x_ = wr := ⟨_, rfl⟩
  have hl1 : lh.length <= k /\ k <= lh.length := by rw [I1.out.1]; omega
  have hl2 : lw.length <= k /\ k <= lw.length := by rw [I2.out.1]; omega
  have hl3 : lf.length <= k /\ k <= lf.length := by rw [I3.out.1]; omega
  by_cases c11 : (k : Int) < (ts.length : Int)
  ·
   have c11H := lhd c11
   obtain ⟨x12, o13, e_⟩ := Sl.addr (hF8.s 9 rfl) (by omega)
   subst e_
   obtain ⟨z, hz14_⟩ : ∃ z_, ts[k]? = some z_ := ⟨_, List.getElem?_eq_getElem (by omega)⟩
   have hz14 := lhd hz14_
   clear hz14_
   obtain ⟨a_z, c_z, hav_z, hcap_z, hsl_z⟩ := Afs.open (hF8.at 10 rfl : Afs lo hi _ ts) hz14.out
   have HAV_z := lhd hav_z
   clear hav_z
   have F15 := hF8.more 10 (rsl intEnc 1 lo hi (.slice a_z z.af.length c_z) z.af) rfl rfl rfl (fun _ h_ => h_) hsl_z
   clear hF8
   have hm_z := (F15.s 0 rfl).len
   unfold maxLen at hm_z
   have hzt := HOK.out.1.to_ k z hz14.out
   have hzh := hzt.ho
   have hzw := hzt.wa
   have hzf := hzt.fr
   clear hzt
   have b22 := F15.bx2 6 rfl
   have ge23 : World.cell? _ ⟨x12, o13 + k * 8, none⟩ = some (.int .i64 z.m) := (Sl.cells (F15.at 10 rfl) hz14.out 0 _ rfl)
   have gl24 := cell_lt ge23
   have ge25 : World.cell? _ ⟨x12, o13 + k * 8 + 1, none⟩ = some (.int .i64 z.ho.lo) := (Sl.cells (F15.at 10 rfl) hz14.out 1 _ rfl)
   have ge26 : World.cell? _ ⟨x12, o13 + k * 8 + 2, none⟩ = some (.int .i64 z.ho.hi) := (Sl.cells (F15.at 10 rfl) hz14.out 2 _ rfl)
   have ge27 : World.cell? _ ⟨x12, o13 + k * 8 + 3, none⟩ = some (.int .i64 z.wa.lo) := (Sl.cells (F15.at 10 rfl) hz14.out 3 _ rfl)
   have ge28 : World.cell? _ ⟨x12, o13 + k * 8 + 4, none⟩ = some (.int .i64 z.wa.hi) := (Sl.cells (F15.at 10 rfl) hz14.out 4 _ rfl)
   have ge29 : World.cell? _ ⟨x12, o13 + k * 8 + 5, none⟩ = some (.int .i64 z.fr.lo) := (Sl.cells (F15.at 10 rfl) hz14.out 5 _ rfl)
   have ge30 : World.cell? _ ⟨x12, o13 + k * 8 + 6, none⟩ = some (.int .i64 z.fr.hi) := (Sl.cells (F15.at 10 rfl) hz14.out 6 _ rfl)
   have ge31 : World.cell? _ ⟨x12, o13 + k * 8 + 7, none⟩ = some (.slice a_z z.af.length c_z) := (HAV_z.out ▸ (Sl.cells (F15.at 10 rfl) hz14.out 7 _ rfl))
   go_wp2_with fail
   clear b22 ge23 gl24 ge25 ge26 ge27 ge28 ge29 ge30 ge31
   replace F15 := F15.new 54 #[.int .i64 z.m, .int .i64 z.ho.lo, .int .i64 z.ho.hi, .int .i64 z.wa.lo, .int .i64 z.wa.hi, .int .i64 z.fr.lo, .int .i64 z.fr.hi, .slice a_z z.af.length c_z] (n := w10.heap.size) (by simp)
   have Fn_ := F15
   (try dsimp only [lpF, lpG] at Fn_)
   obtain ⟨w33, hx34, F36, hxs35⟩ := Fn_.name
   (try simp at hxs35)
   rw [hx34]
   clear hx34 F15 Fn_
   replace F36 := F36.drew
   refine ru_begin (fun W => W.cell? ⟨(w.heap.size + 2), 0, none⟩ = some vh /\ W.cell? ⟨w10.heap.size, 1, none⟩ = some (.int .i64 z.ho.lo) /\ W.cell? ⟨w10.heap.size, 2, none⟩ = some (.int .i64 z.ho.hi) /\ W.cell? ⟨(w.heap.size + 2), 1, none⟩ = some vw /\ W.cell? ⟨w10.heap.size, 3, none⟩ = some (.int .i64 z.wa.lo) /\ W.cell? ⟨w10.heap.size, 4, none⟩ = some (.int .i64 z.wa.hi) /\ W.cell? ⟨(w.heap.size + 2), 2, none⟩ = some vf /\ W.cell? ⟨w10.heap.size, 5, none⟩ = some (.int .i64 z.fr.lo) /\ W.cell? ⟨w10.heap.size, 6, none⟩ = some (.int .i64 z.fr.hi)) 25 (by kernel_rfl) ?_ ?_
   · exact ⟨F36.q 5 0, F36.q 0 1, F36.q 0 2, F36.q 5 1, F36.q 0 3, F36.q 0 4, F36.q 5 2, F36.q 0 5, F36.q 0 6⟩
   obtain ⟨wd39, hwd_⟩ : ∃ x : World, w33.drew = x := ⟨_, rfl⟩
   rw [hwd_] at F36 ⊢
   have wd39s : w33.heap.size <= wd39.heap.size := by rw [← hwd_]; exact Nat.le_refl _
   clear hwd_
   have hS38 := (And.intro (F36.q 5 0) (And.intro (F36.q 0 1) (And.intro (F36.q 0 2) (And.intro (F36.q 5 1) (And.intro (F36.q 0 3) (And.intro (F36.q 0 4) (And.intro (F36.q 5 2) (And.intro (F36.q 0 5) (F36.q 0 6)))))))))
   refine ru_t 0 [] ?_
   refine ru_t 1 [] ?_
   refine ru_t 2 [] ?_
   refine ru_t 3 [] ?_
   refine ru_t 4 [] ?_
   refine ru_t 8 [] ?_
   refine ru_t 9 [] ?_
   refine ru_t 10 [23, 21, 15, 13] ?_
   refine ru_t 11 [23, 21, 15, 13, 12] ?_
   refine ru_t 12 [23, 21, 15, 13] ?_
   refine ru_t 16 [] ?_
   refine ru_t 17 [] ?_
   refine ru_t 18 [23, 21] ?_
   refine ru_t 19 [23, 21, 20] ?_
   refine ru_t 20 [23, 21] ?_
   (try simp only [lpX])
   clear hS38
   refine ru_o 5 fun K hK => ?_
   go_simp
   refine (inside_c sb z.ho.lo z.ho.hi _ (F36.e 8 rfl) (by omega) (by omega) (by omega) (by omega)).mono ?_
   rintro e w44 ⟨r40, rfl, hr41, hs43, hg42⟩
   unfold insideR fromR at hr41; have hr41b : z.ho.lo <= r40 /\ r40 <= z.ho.hi := (by omega); clear hr41
   have hg42s := hg42.size
   (try simp at hg42s)
   replace F36 := F36.seedAt 8 rfl hg42 hs43
   refine ru_back hK (by exact ⟨F36.q 5 0, F36.q 0 1, F36.q 0 2, F36.q 5 1, F36.q 0 3, F36.q 0 4, F36.q 5 2, F36.q 0 5, F36.q 0 6⟩) (fun _ => ?_)
   clear hK K
   (try simp only [lpX])
   refine ru_o 6 fun K hK => ?_
   go_simp
   replace F36 := F36.new 3 #[.int .i64 r40] (n := w44.heap.size) (by simp)
   refine ru_back hK (by exact ⟨F36.q 6 0, F36.q 1 1, F36.q 1 2, F36.q 6 1, F36.q 1 3, F36.q 1 4, F36.q 6 2, F36.q 1 5, F36.q 1 6⟩) (fun _ => ?_)
   clear hK K
   (try simp only [lpX])
   refine ru_o 7 fun K hK => ?_
   refine step_app _ okInt rfl _ _ rfl w0.heap.size vh lh [r40] rfl (by exact (F36.o 3 rfl)) ⟨_, 0, none⟩ 1 1 rfl rfl (by decide) (news_of (F36.b 0 rfl)) (k + 1) (by omega) (by omega) (by first | omega | (simp; omega)) _ rfl ?_
   intro g47 cap48 w49 hp50
   have hp50s := hp50.gb.size
   (try simp at hp50s)
   have F51 := (F36.front 3 rfl rfl).app hp50 (Nat.le_refl _)
   clear F36
   refine ru_back hK (by exact ⟨F51.q 6 0, F51.q 2 1, F51.q 2 2, F51.q 6 1, F51.q 2 3, F51.q 2 4, F51.q 6 2, F51.q 2 5, F51.q 2 6⟩) (fun _ => ?_)
   clear hK K
   (try simp only [lpX])
   refine ru_p 24 ?_
   (try simp only [lpX])
   refine ru_o 13 fun K hK => ?_
   go_simp
   refine (inside_c sb z.wa.lo z.wa.hi _ (F51.e 9 rfl) (by omega) (by omega) (by omega) (by omega)).mono ?_
   rintro e w56 ⟨r52, rfl, hr53, hs55, hg54⟩
   unfold insideR fromR at hr53; have hr53b : z.wa.lo <= r52 /\ r52 <= z.wa.hi := (by omega); clear hr53
   have hg54s := hg54.size
   (try simp at hg54s)
   replace F51 := F51.seedAt 9 rfl hg54 hs55
   refine ru_back hK (by exact ⟨F51.q 6 0, F51.q 2 1, F51.q 2 2, F51.q 6 1, F51.q 2 3, F51.q 2 4, F51.q 6 2, F51.q 2 5, F51.q 2 6⟩) (fun _ => ?_)
   clear hK K
   (try simp only [lpX])
   refine ru_o 14 fun K hK => ?_
   go_simp
   replace F51 := F51.new 3 #[.int .i64 r52] (n := w56.heap.size) (by simp)
   refine ru_back hK (by exact ⟨F51.q 7 0, F51.q 3 1, F51.q 3 2, F51.q 7 1, F51.q 3 3, F51.q 3 4, F51.q 7 2, F51.q 3 5, F51.q 3 6⟩) (fun _ => ?_)
   clear hK K
   (try simp only [lpX])
   refine ru_o 15 fun K hK => ?_
   refine step_app _ okInt rfl _ _ rfl w0.heap.size vw lw [r52] rfl (by exact (F51.o 5 rfl)) ⟨_, 0, none⟩ 1 1 rfl rfl (by decide) (news_of (F51.b 0 rfl)) (k + 1) (by omega) (by omega) (by first | omega | (simp; omega)) _ rfl ?_
   intro g59 cap60 w61 hp62
   have hp62s := hp62.gb.size
   (try simp at hp62s)
   have F63 := (F51.front 5 rfl rfl).app hp62 (Nat.le_refl _)
   clear F51
   refine ru_back hK (by exact ⟨F63.q 7 0, F63.q 4 1, F63.q 4 2, F63.q 7 1, F63.q 4 3, F63.q 4 4, F63.q 7 2, F63.q 4 5, F63.q 4 6⟩) (fun _ => ?_)
   clear hK K
   (try simp only [lpX])
   refine ru_o 21 fun K hK => ?_
   go_simp
   refine (inside_c sb z.fr.lo z.fr.hi _ (F63.e 10 rfl) (by omega) (by omega) (by omega) (by omega)).mono ?_
   rintro e w68 ⟨r64, rfl, hr65, hs67, hg66⟩
   unfold insideR fromR at hr65; have hr65b : z.fr.lo <= r64 /\ r64 <= z.fr.hi := (by omega); clear hr65
   have hg66s := hg66.size
   (try simp at hg66s)
   replace F63 := F63.seedAt 10 rfl hg66 hs67
   refine ru_back hK (by exact ⟨F63.q 7 0, F63.q 4 1, F63.q 4 2, F63.q 7 1, F63.q 4 3, F63.q 4 4, F63.q 7 2, F63.q 4 5, F63.q 4 6⟩) (fun _ => ?_)
   clear hK K
   (try simp only [lpX])
   refine ru_o 22 fun K hK => ?_
   go_simp
   replace F63 := F63.new 3 #[.int .i64 r64] (n := w68.heap.size) (by simp)
   refine ru_back hK (by exact ⟨F63.q 8 0, F63.q 5 1, F63.q 5 2, F63.q 8 1, F63.q 5 3, F63.q 5 4, F63.q 8 2, F63.q 5 5, F63.q 5 6⟩) (fun _ => ?_)
   clear hK K
   (try simp only [lpX])
   refine ru_o 23 fun K hK => ?_
   refine step_app _ okInt rfl _ _ rfl w0.heap.size vf lf [r64] rfl (by exact (F63.o 7 rfl)) ⟨_, 0, none⟩ 1 1 rfl rfl (by decide) (news_of (F63.b 0 rfl)) (k + 1) (by omega) (by omega) (by first | omega | (simp; omega)) _ rfl ?_
   intro g71 cap72 w73 hp74
   have hp74s := hp74.gb.size
   (try simp at hp74s)
   have F75 := (F63.front 7 rfl rfl).app hp74 (Nat.le_refl _)
   clear F63
   refine ru_back hK (by exact ⟨F75.q 8 0, F75.q 6 1, F75.q 6 2, F75.q 8 1, F75.q 6 3, F75.q 6 4, F75.q 8 2, F75.q 6 5, F75.q 6 6⟩) (fun _ => ?_)
   clear hK K
   (try simp only [lpX])
   refine ru_o 25 fun K hK => ?_
   have kb_ := F75.bx4 8 rfl
   go_simp
   clear kb_
   have F76 := ((F75.front 8 rfl rfl).set 0 (.slice (some ⟨g47, 0, none⟩) (k + 1) cap48)).nf #[.slice (some ⟨g47, 0, none⟩) (k + 1) cap48, vw, vf, .slice none 0 0] rfl
   clear F75
   refine ru_back_late hK (by kernel_rfl) ?_
   clear hK K
   (try simp only [lpX])
   refine ru_o 26 fun K hK => ?_
   go_simp
   refine ru_back_late hK (by kernel_rfl) ?_
   clear hK K
   (try simp only [lpX])
   refine ru_o 27 fun K hK => ?_
   have kb_ := F76.bx4 0 rfl
   go_simp
   clear kb_
   have F77 := (F76.set 1 (.slice (some ⟨g59, 0, none⟩) (k + 1) cap60)).nf #[.slice (some ⟨g47, 0, none⟩) (k + 1) cap48, .slice (some ⟨g59, 0, none⟩) (k + 1) cap60, vf, .slice none 0 0] rfl
   clear F76
   refine ru_back_late hK (by kernel_rfl) ?_
   clear hK K
   (try simp only [lpX])
   refine ru_o 28 fun K hK => ?_
   go_simp
   refine ru_back_late hK (by kernel_rfl) ?_
   clear hK K
   (try simp only [lpX])
   refine ru_o 29 fun K hK => ?_
   have kb_ := F77.bx4 0 rfl
   go_simp
   clear kb_
   have F78 := (F77.set 2 (.slice (some ⟨g71, 0, none⟩) (k + 1) cap72)).nf #[.slice (some ⟨g47, 0, none⟩) (k + 1) cap48, .slice (some ⟨g59, 0, none⟩) (k + 1) cap60, .slice (some ⟨g71, 0, none⟩) (k + 1) cap72, .slice none 0 0] rfl
   clear F77
   refine ru_back_late hK (by kernel_rfl) ?_
   clear hK K
   (try simp only [lpX])
   refine ru_done (by kernel_rfl) ?_
   have Fn_ := ((((F78.drop 2 rfl).drop 3 rfl).drop 4 rfl).drop 4 rfl)
   (try dsimp only [lpF, lpG] at Fn_)
   obtain ⟨w79, hx80, F82, hxs81⟩ := Fn_.name
   (try simp at hxs81)
   rw [hx80]
   clear hx80 F78 Fn_
   go_wp2_with fail
   have F83 : Bun w0 [rown intEnc 3 1 w0.heap.size (.slice (some ⟨g47, 0, none⟩) (k + 1) cap48) (lh ++ [r40]), rown intEnc 3 1 w0.heap.size (.slice (some ⟨g59, 0, none⟩) (k + 1) cap60) (lw ++ [r52]), rown intEnc 3 1 w0.heap.size (.slice (some ⟨g71, 0, none⟩) (k + 1) cap72) (lf ++ [r64]), rbox (w.heap.size + 2) 60 #[.slice (some ⟨g47, 0, none⟩) (k + 1) cap48, .slice (some ⟨g59, 0, none⟩) (k + 1) cap60, .slice (some ⟨g71, 0, none⟩) (k + 1) cap72, .slice none 0 0], rbox (w.heap.size + 1) 60 #[.slice none 0 0, .slice none 0 0, .slice none 0 0, .slice none 0 0], rbox w.heap.size 43 #[.slice aM ms.length cM, .slice (some ⟨x12, o13, none⟩) ts.length cT], rseed sb, rsl weaEnc 6 lo2 hi2 (.slice ad dl.length cd) dl, rsl mchEnc 3 lo hi (.slice aM ms.length cM) ms, rsl tskEnc 8 lo hi (.slice (some ⟨x12, o13, none⟩) ts.length cT) ts, rafs lo hi ts, rall LR] _ := F82.pick [3, 2, 1, 0, 5, 6, 7, 8, 9, 10, 11, 12] (by decide) rfl
   clear F82
   (first | refine ⟨by kernel_rfl, ?_, ?_⟩ | refine ⟨rfl, ?_, ?_⟩ | refine ⟨?_, ?_⟩)
   · rw [HI7.out]; exact ⟨k + 1, _, _, _, _, _, _, by (iterate 5 refine ⟨by kernel_rfl, ?_⟩); exact ⟨(by show Value.int .i64 ((k : Int) + 1) = _; simp), (by omega), (lhd (I1.out.snoc hz14.out (by omega))), (lhd (I2.out.snoc hz14.out (by omega))), (lhd (I3.out.snoc hz14.out (by omega))), (by first | rfl | simp), (by first | omega | (simp; done) | (simp; omega)), F83⟩⟩
   · simp [slot, intOf]; omega
  have c11H := lhd c11
  have c11a := dec_f c11
  obtain rfl : k = ts.length := by omega
  have b84 := hF8.bx2 5 rfl
  obtain ⟨oa85, oc86, e_, _⟩ := Own.slN (hF8.o 0 rfl) (fun _ => rfl) I1.out.1
  subst e_
  obtain ⟨oa87, oc88, e_, _⟩ := Own.slN (hF8.o 1 rfl) (fun _ => rfl) I2.out.1
  subst e_
  obtain ⟨oa89, oc90, e_, _⟩ := Own.slN (hF8.o 2 rfl) (fun _ => rfl) I3.out.1
  subst e_
  go_wp2_with fail
  clear b84
  have F91 := hF8.nilrow vEncS 118 1
  clear hF8
  replace F91 := F91.rws0 w0.heap.size
  (skip)
  obtain ⟨HI93_, HI930⟩ : ∃ I : RelT, I = (fun t ds wr => ∃ (k : Nat) (v4 : Value) (rows : List (Value × List Bool)), t 0 = .pointer (some ⟨sb, 0, none⟩) /\ t 2 = .slice ad dl.length cd /\ t 4 = .pointer (some ⟨w.heap.size, 0, none⟩) /\ t 6 = .pointer (some ⟨w.heap.size + 1, 0, none⟩) /\ t 7 = .pointer (some ⟨w.heap.size + 2, 0, none⟩) /\ t 10 = .int .i64 (k : Int) /\ k <= ms.length /\ (rows.length <= k /\ k <= rows.length) /\ Hid (∀ j r, (rows.map (·.2))[j]? = some r -> inR (mc ms j) dl dl.length r) /\ Hid (∀ r_ ∈ rows, sliceB r_.1 = true) /\ ds = [] /\ w10.heap.size <= wr.heap.size /\ Bun w0 [rrws w0.heap.size rows, rown vEncS 118 1 w0.heap.size v4 (rows.map (·.1)), rown intEnc 3 1 w0.heap.size (.slice oa85 ts.length oc86) lh, rown intEnc 3 1 w0.heap.size (.slice oa87 ts.length oc88) lw, rown intEnc 3 1 w0.heap.size (.slice oa89 ts.length oc90) lf, rbox (w.heap.size + 2) 60 #[.slice oa85 ts.length oc86, .slice oa87 ts.length oc88, .slice oa89 ts.length oc90, v4], rbox (w.heap.size + 1) 60 #[.slice none 0 0, .slice none 0 0, .slice none 0 0, .slice none 0 0], rbox w.heap.size 43 #[.slice aM ms.length cM, .slice aT ts.length cT], rseed sb, rsl weaEnc 6 lo2 hi2 (.slice ad dl.length cd) dl, rsl mchEnc 3 lo hi (.slice aM ms.length cM) ms, rsl tskEnc 8 lo hi (.slice aT ts.length cT) ts, rafs lo hi ts, rall LR] wr) := ⟨_, rfl⟩
  have HI93 := lhd HI930
  clear HI930
  refine wp_loopS 106 rfl HI93_ (fun t wr => ms.length - (intOf (t 10)).toNat) ?atStart2 ?round2
  case round2 =>
   intro t ds wr hHid
   rw [HI93.out] at hHid
   obtain ⟨k, v4, rows, e0, e2, e4, e6, e7, e10, hrel⟩ := hHid
   have e := rgS7106 t
   (try dsimp only at e)
   rw [e0, e2, e4, e6, e7, e10] at e
   rw [e]
   simp only [e10]
   clear e e0 e2 e4 e6 e7 e10
   obtain ⟨hk, hrl, HR, HRS, rfl, hs95, hF94⟩ := hrel
   clear F91
   obtain ⟨w96, rfl⟩ : ∃ x_ : World, x_ = wr := ⟨_, rfl⟩
   by_cases c97 : (k : Int) < (ms.length : Int)
   ·
    have c97H := lhd c97
    obtain ⟨x98, o99, e_⟩ := Sl.addr (hF94.s 10 rfl) (by omega)
    subst e_
    obtain ⟨x, hz100_⟩ : ∃ z_, ms[k]? = some z_ := ⟨_, List.getElem?_eq_getElem (by omega)⟩
    have hz100 := lhd hz100_
    clear hz100_
    have HB1 := lhd (bothErr1 HBE.out (List.mem_of_getElem? hz100.out))
    have b102 := hF94.bx2 7 rfl
    have ge103 : World.cell? _ ⟨x98, o99 + k * 3, none⟩ = some (.int .i64 x.mild) := (Sl.cells (hF94.at 10 rfl) hz100.out 0 _ rfl)
    have gl104 := cell_lt ge103
    have ge105 : World.cell? _ ⟨x98, o99 + k * 3 + 1, none⟩ = some (.int .i64 x.hard) := (Sl.cells (hF94.at 10 rfl) hz100.out 1 _ rfl)
    have ge106 : World.cell? _ ⟨x98, o99 + k * 3 + 2, none⟩ = some (.int .i64 x.shift) := (Sl.cells (hF94.at 10 rfl) hz100.out 2 _ rfl)
    go_wp2_with fail
    clear b102 ge103 gl104 ge105 ge106
    refine (rbworks_ok x lo2 hi2 _ dl _ (hF94.s 9 rfl) (by first | omega | (simp; done) | (simp; omega)) HB1.out).mono ?_
    rintro e w109 ⟨akk101, ckk101, lkk101, hkk101, rfl, ⟨hkxk101, hkyk101⟩, hksk101, hg107⟩
    have hg107s := hg107.size
    (try simp at hg107s)
    have F110 := hF94.add (rsl intEnc 1 lkk101 hkk101 (.slice akk101 dl.length ckk101) (wksN x dl dl.length)) hg107 (hksk101) (fun g e => ⟨Nat.le_trans hkxk101 e.1, Nat.lt_of_lt_of_le e.2 hkyk101⟩)
    clear hF94
    clear hg107
    go_wp2_with (at_make; refine wpList_mkBool rfl _ _ rfl dl.length rfl rfl F110 (by omega) w109.heap.size (by first | rfl | simp) ?_; intro w111 hB112 hs113; refine Hid.out ?_)
    refine lhd ?_
    (try simp at hs113)
    have F114 := hB112
    clear F110
    go_wp2_with fail
    (skip)
    obtain ⟨HI115_, HI1150⟩ : ∃ I : RelT, I = (fun t ds wr => ∃ (d : Nat) (rl : List Bool), t 0 = .pointer (some ⟨sb, 0, none⟩) /\ t 2 = .slice ad dl.length cd /\ t 4 = .pointer (some ⟨w.heap.size, 0, none⟩) /\ t 6 = .pointer (some ⟨w.heap.size + 1, 0, none⟩) /\ t 7 = .pointer (some ⟨w.heap.size + 2, 0, none⟩) /\ t 10 = .int .i64 (k : Int) /\ t 11 = .slice akk101 dl.length ckk101 /\ t 13 = .slice (some ⟨w109.heap.size, 0, none⟩) dl.length dl.length /\ t 14 = .int .i64 (d : Int) /\ d <= dl.length /\ Hid (inR x dl d rl) /\ ds = [] /\ w111.heap.size <= wr.heap.size /\ Bun w0 [rown boEnc 4 1 w0.heap.size (.slice (some ⟨w109.heap.size, 0, none⟩) dl.length dl.length) rl, rsl intEnc 1 lkk101 hkk101 (.slice akk101 dl.length ckk101) (wksN x dl dl.length), rrws w0.heap.size rows, rown vEncS 118 1 w0.heap.size v4 (rows.map (·.1)), rown intEnc 3 1 w0.heap.size (.slice oa85 ts.length oc86) lh, rown intEnc 3 1 w0.heap.size (.slice oa87 ts.length oc88) lw, rown intEnc 3 1 w0.heap.size (.slice oa89 ts.length oc90) lf, rbox (w.heap.size + 2) 60 #[.slice oa85 ts.length oc86, .slice oa87 ts.length oc88, .slice oa89 ts.length oc90, v4], rbox (w.heap.size + 1) 60 #[.slice none 0 0, .slice none 0 0, .slice none 0 0, .slice none 0 0], rbox w.heap.size 43 #[.slice (some ⟨x98, o99, none⟩) ms.length cM, .slice aT ts.length cT], rseed sb, rsl weaEnc 6 lo2 hi2 (.slice ad dl.length cd) dl, rsl mchEnc 3 lo hi (.slice (some ⟨x98, o99, none⟩) ms.length cM) ms, rsl tskEnc 8 lo hi (.slice aT ts.length cT) ts, rafs lo hi ts, rall LR] wr) := ⟨_, rfl⟩
    have HI115 := lhd HI1150
    clear HI1150
    refine wp_loopS 106 rfl HI115_ (fun t wr => dl.length - (intOf (t 14)).toNat) ?atStart3 ?round3
    case round3 =>
     intro t ds wr hHid
     rw [HI115.out] at hHid
     obtain ⟨d, rl, e0, e2, e4, e6, e7, e10, e11, e13, e14, hrel⟩ := hHid
     have e := rgS7106 t
     (try dsimp only at e)
     rw [e0, e2, e4, e6, e7, e10, e11, e13, e14] at e
     rw [e]
     simp only [e14]
     clear e e0 e2 e4 e6 e7 e10 e11 e13 e14
     obtain ⟨hd_, HRW, rfl, hs117, hF116⟩ := hrel
     clear F114
     obtain ⟨w118, rfl⟩ : ∃ x_ : World, x_ = wr := ⟨_, rfl⟩
     have hrw : rl.length <= dl.length /\ dl.length <= rl.length := by rw [HRW.out.1]; omega
     by_cases c119 : (d : Int) < (dl.length : Int)
     ·
      have c119H := lhd c119
      obtain ⟨x120, o121, e_⟩ := Sl.addr (hF116.s 1 rfl) (by rw [wksN_len (Nat.le_refl _)]; omega)
      subst e_
      obtain ⟨y, hy_⟩ : ∃ y_, dl[d]? = some y_ := ⟨_, List.getElem?_eq_getElem (by omega)⟩
      have HY := lhd hy_
      clear hy_
      have hz122 : Hid ((wksN x dl dl.length)[d]? = some (wkV x y)) := lhd (wksN_get HY.out)
      obtain ⟨zb, hz123_⟩ : ∃ z_, rl[d]? = some z_ := ⟨_, List.getElem?_eq_getElem (by omega)⟩
      have hz123 := lhd hz123_
      clear hz123_
      by_cases c124 : wkV x y = 1
      ·
       obtain ⟨c124a, c124b⟩ := bqt c124
       have c124H := lhd c124
       clear c124
       have ge125 : World.cell? _ ⟨x120, o121 + d, none⟩ = some (.int .i64 (wkV x y)) := (by have h_ := Sl.cells (hF116.at 1 rfl) hz122.out 0 _ rfl; simpa using h_)
       have gl126 := cell_lt ge125
       have ge127 : World.cell? _ ⟨w109.heap.size, d, none⟩ = some (.bool zb) := (by simpa using (Own.sl (hF116.o 0 rfl) (fun _ => rfl)).cells hz123.out 0 _ rfl)
       have gl128 := cell_lt ge127
       have ge129 : World.frozen? _ ⟨w109.heap.size, d, none⟩ = false := Own.live (hF116.o 0 rfl) _
       go_wp2_with fail
       clear ge125 gl126 ge127 gl128 ge129
       have F130 := Bun.setOwn (sz := 1) (fun _ => rfl) hF116 hz123.out (y := true) (j := 0) (u := (.bool true)) (k := d) (by decide) rfl (by omega)
       clear hF116
       (first | refine ⟨by kernel_rfl, ?_, ?_⟩ | refine ⟨rfl, ?_, ?_⟩ | refine ⟨?_, ?_⟩)
       · rw [HI115.out]; exact ⟨d + 1, _, by (iterate 8 refine ⟨by kernel_rfl, ?_⟩); exact ⟨(by show Value.int .i64 ((d : Int) + 1) = _; simp), (by omega), (lhd (HRW.out.set (okB_1 HY.out c124H.out))), (by first | rfl | simp), (by first | omega | (simp; done) | (simp; omega)), F130⟩⟩
       · simp [slot, intOf]; omega
      obtain ⟨c124a, c124b⟩ := bqf c124
      have c124H := lhd c124
      clear c124
      by_cases c131 : wkV x y = 3
      ·
       obtain ⟨c131a, c131b⟩ := bqt c131
       have c131H := lhd c131
       clear c131
       have ge133 : World.cell? _ ⟨x120, o121 + d, none⟩ = some (.int .i64 (wkV x y)) := (by have h_ := Sl.cells (hF116.at 1 rfl) hz122.out 0 _ rfl; simpa using h_)
       have gl134 := cell_lt ge133
       go_wp2_with fail
       clear ge133 gl134
       refine (yes_c sb 2 _ (hF116.e 10 rfl) (by omega) (by omega)).mono ?_
       rintro e w137 ⟨yb132, rfl, hs136, hg135⟩
       have hg135s := hg135.size
       (try simp at hg135s)
       have F138 := hF116.seedAt 10 rfl hg135 hs136
       clear hF116
       clear hg135
       have ge139 : World.cell? _ ⟨w109.heap.size, d, none⟩ = some (.bool zb) := (by simpa using (Own.sl (F138.o 0 rfl) (fun _ => rfl)).cells hz123.out 0 _ rfl)
       have gl140 := cell_lt ge139
       have ge141 : World.frozen? _ ⟨w109.heap.size, d, none⟩ = false := Own.live (F138.o 0 rfl) _
       go_wp2_with fail
       clear ge139 gl140 ge141
       have F142 := Bun.setOwn (sz := 1) (fun _ => rfl) F138 hz123.out (y := yb132) (j := 0) (u := (.bool yb132)) (k := d) (by decide) rfl (by omega)
       clear F138
       (first | refine ⟨by kernel_rfl, ?_, ?_⟩ | refine ⟨rfl, ?_, ?_⟩ | refine ⟨?_, ?_⟩)
       · rw [HI115.out]; exact ⟨d + 1, _, by (iterate 8 refine ⟨by kernel_rfl, ?_⟩); exact ⟨(by show Value.int .i64 ((d : Int) + 1) = _; simp), (by omega), (lhd (HRW.out.set (okB_3 HY.out c131H.out))), (by first | rfl | simp), (by first | omega | (simp; done) | (simp; omega)), F142⟩⟩
       · simp [slot, intOf]; omega
      obtain ⟨c131a, c131b⟩ := bqf c131
      have c131H := lhd c131
      clear c131
      have ge143 : World.cell? _ ⟨x120, o121 + d, none⟩ = some (.int .i64 (wkV x y)) := (by have h_ := Sl.cells (hF116.at 1 rfl) hz122.out 0 _ rfl; simpa using h_)
      have gl144 := cell_lt ge143
      have ge145 : World.cell? _ ⟨w109.heap.size, d, none⟩ = some (.bool zb) := (by simpa using (Own.sl (hF116.o 0 rfl) (fun _ => rfl)).cells hz123.out 0 _ rfl)
      have gl146 := cell_lt ge145
      have ge147 : World.frozen? _ ⟨w109.heap.size, d, none⟩ = false := Own.live (hF116.o 0 rfl) _
      go_wp2_with fail
      clear ge143 gl144 ge145 gl146 ge147
      have F148 := Bun.setOwn (sz := 1) (fun _ => rfl) hF116 hz123.out (y := false) (j := 0) (u := (.bool false)) (k := d) (by decide) rfl (by omega)
      clear hF116
      (first | refine ⟨by kernel_rfl, ?_, ?_⟩ | refine ⟨rfl, ?_, ?_⟩ | refine ⟨?_, ?_⟩)
      · rw [HI115.out]; exact ⟨d + 1, _, by (iterate 8 refine ⟨by kernel_rfl, ?_⟩); exact ⟨(by show Value.int .i64 ((d : Int) + 1) = _; simp), (by omega), (lhd (HRW.out.set (okB_2 HY.out c124H.out))), (by first | rfl | simp), (by first | omega | (simp; done) | (simp; omega)), F148⟩⟩
      · simp [slot, intOf]; omega
     have c119H := lhd c119
     have c119a := dec_f c119
     obtain rfl : d = dl.length := by omega
     have b149 := hF116.bx4 7 rfl
     go_wp2_with (at_builtin; refine wpList_app _ okRB rfl _ _ rfl w0.heap.size v4 (rows.map (·.1)) [(.slice (some ⟨w109.heap.size, 0, none⟩) dl.length dl.length : Value)] rfl (by exact ((hF116.o 3 rfl)).alloc _) ⟨_, 0, none⟩ 1 1 rfl rfl (by decide) (news_of (Bk.newAt _ _ _ (by simp))) (rows.length + 1) (by simp) (by omega) (by first | omega | (simp; omega)) _ rfl ?_; intro g150 cap151 w152 hp153; refine Hid.out ?_)
     refine lhd ?_
     have hp153s := hp153.gb.size
     (try simp at hp153s)
     clear b149
     have F154 := ((hF116.alloc (.cells #[.slice (some ⟨w109.heap.size, 0, none⟩) dl.length dl.length] 118)).front 3 rfl rfl).app hp153 (by simp)
     clear hF116
     have b155 := F154.bx4 7 rfl
     go_wp2_with fail
     clear b155
     have F156 := ((F154.front 7 rfl rfl).set 3 (.slice (some ⟨g150, 0, none⟩) (rows.length + 1) cap151)).nf #[.slice oa85 ts.length oc86, .slice oa87 ts.length oc88, .slice oa89 ts.length oc90, .slice (some ⟨g150, 0, none⟩) (rows.length + 1) cap151] rfl
     clear F154
     go_wp2_with fail
     have F157 : Bun w0 [rown boEnc 4 1 w0.heap.size (.slice (some ⟨w109.heap.size, 0, none⟩) dl.length dl.length) rl, rrws w0.heap.size rows, rbox (w.heap.size + 2) 60 #[.slice oa85 ts.length oc86, .slice oa87 ts.length oc88, .slice oa89 ts.length oc90, .slice (some ⟨g150, 0, none⟩) (rows.length + 1) cap151], rown vEncS 118 1 w0.heap.size (.slice (some ⟨g150, 0, none⟩) (rows.length + 1) cap151) ((rows.map (·.1)) ++ [(.slice (some ⟨w109.heap.size, 0, none⟩) dl.length dl.length : Value)]), rsl intEnc 1 lkk101 hkk101 (.slice akk101 dl.length ckk101) (wksN x dl dl.length), rown intEnc 3 1 w0.heap.size (.slice oa85 ts.length oc86) lh, rown intEnc 3 1 w0.heap.size (.slice oa87 ts.length oc88) lw, rown intEnc 3 1 w0.heap.size (.slice oa89 ts.length oc90) lf, rbox (w.heap.size + 1) 60 #[.slice none 0 0, .slice none 0 0, .slice none 0 0, .slice none 0 0], rbox w.heap.size 43 #[.slice (some ⟨x98, o99, none⟩) ms.length cM, .slice aT ts.length cT], rseed sb, rsl weaEnc 6 lo2 hi2 (.slice ad dl.length cd) dl, rsl mchEnc 3 lo hi (.slice (some ⟨x98, o99, none⟩) ms.length cM) ms, rsl tskEnc 8 lo hi (.slice aT ts.length cT) ts, rafs lo hi ts, rall LR] _ := F156.pick [2, 4, 0, 1, 3, 5, 6, 7, 8, 9, 10, 11, 12, 13, 14, 15] (by decide) rfl
     clear F156
     replace F157 := F157.rws
     (skip)
     have F159 : Bun w0 [rrws w0.heap.size (rows ++ [(.slice (some ⟨w109.heap.size, 0, none⟩) dl.length dl.length, rl)]), rown vEncS 118 1 w0.heap.size (.slice (some ⟨g150, 0, none⟩) (rows.length + 1) cap151) ((rows.map (·.1)) ++ [(.slice (some ⟨w109.heap.size, 0, none⟩) dl.length dl.length : Value)]), rown intEnc 3 1 w0.heap.size (.slice oa85 ts.length oc86) lh, rown intEnc 3 1 w0.heap.size (.slice oa87 ts.length oc88) lw, rown intEnc 3 1 w0.heap.size (.slice oa89 ts.length oc90) lf, rbox (w.heap.size + 2) 60 #[.slice oa85 ts.length oc86, .slice oa87 ts.length oc88, .slice oa89 ts.length oc90, .slice (some ⟨g150, 0, none⟩) (rows.length + 1) cap151], rbox (w.heap.size + 1) 60 #[.slice none 0 0, .slice none 0 0, .slice none 0 0, .slice none 0 0], rbox w.heap.size 43 #[.slice (some ⟨x98, o99, none⟩) ms.length cM, .slice aT ts.length cT], rseed sb, rsl weaEnc 6 lo2 hi2 (.slice ad dl.length cd) dl, rsl mchEnc 3 lo hi (.slice (some ⟨x98, o99, none⟩) ms.length cM) ms, rsl tskEnc 8 lo hi (.slice aT ts.length cT) ts, rafs lo hi ts, rall LR] _ := (F157.drop 3 rfl).pick [0, 2, 3, 4, 5, 1, 6, 7, 8, 9, 10, 11, 12, 13] (by decide) rfl
     clear F157
     (first | refine ⟨by kernel_rfl, ?_, ?_⟩ | refine ⟨rfl, ?_, ?_⟩ | refine ⟨?_, ?_⟩)
     · rw [HI93.out]; exact ⟨k + 1, _, rows ++ [(.slice (some ⟨w109.heap.size, 0, none⟩) dl.length dl.length, rl)], by (iterate 5 refine ⟨by kernel_rfl, ?_⟩); exact ⟨(by show Value.int .i64 ((k : Int) + 1) = _; simp), (by omega), (by simp; omega), (lhd (fun j_ r_ h_ => rows_snoc HR.out (by omega) hz100.out HRW.out j_ r_ h_)), (lhd (fun r_ h_ => by rcases List.mem_append.1 h_ with h_ | h_; exact HRS.out r_ h_; obtain rfl := List.mem_singleton.1 h_; rfl)), (by first | rfl | simp), (by first | omega | (simp; done) | (simp; omega)), (by rw [List.map_append]; exact F159)⟩⟩
     · simp [slot, intOf]; omega
    case atStart3 =>
     rw [HI115.out]
     exact ⟨0, _, by (iterate 8 refine ⟨by kernel_rfl, ?_⟩); exact ⟨rfl, Nat.zero_le _, lhd (inR.zero _ _), rfl, (by first | exact Nat.le_refl _ | omega | (simp; done) | (simp; omega)), F114⟩⟩
   have c97H := lhd c97
   have c97a := dec_f c97
   have b160 := hF94.bx2 7 rfl
   obtain ⟨oa161, oc162, e_, _⟩ := Own.slN (hF94.o 1 rfl) (fun _ => rfl) (List.length_map _)
   subst e_
   have b163 := hF94.bx4 5 rfl
   have b164 := hF94.bx4 6 rfl
   go_wp2_with fail
   clear b163 b164
   clear b160
   have F165 := (hF94.front 6 rfl rfl).pt4 (.slice oa85 ts.length oc86) (.slice oa87 ts.length oc88) (.slice oa89 ts.length oc90) (.slice oa161 rows.length oc162)
   clear hF94
   have kb166 := F165.bx4 0 rfl
   go_wp2_with fail
   have F167 : Bun w0 [rown intEnc 3 1 w0.heap.size (.slice oa85 ts.length oc86) lh, rown intEnc 3 1 w0.heap.size (.slice oa87 ts.length oc88) lw, rown intEnc 3 1 w0.heap.size (.slice oa89 ts.length oc90) lf, rown vEncS 118 1 w0.heap.size (.slice oa161 rows.length oc162) (rows.map (·.1)), rrws w0.heap.size rows, rseed sb, rsl weaEnc 6 lo2 hi2 (.slice ad dl.length cd) dl, rsl mchEnc 3 lo hi (.slice aM ms.length cM) ms, rsl tskEnc 8 lo hi (.slice aT ts.length cT) ts, rafs lo hi ts, rall LR] _ := F165.pick [3, 4, 5, 2, 1, 8, 9, 10, 11, 12, 13] (by decide) rfl
   clear F165
   exact bodyPost_ret (v := .agg #[.slice oa85 ts.length oc86, .slice oa87 ts.length oc88, .slice oa89 ts.length oc90, .slice oa161 rows.length oc162]) (by simp [results, Tryz.results16, go_sem, kb166]) rfl ((by obtain rfl : k = ms.length := (by omega); exact ⟨_, _, _, _, lh, lw, lf, rows, _, rfl, ⟨kcase_of HOK.out.1 HOK.out.2 I1.out I2.out I3.out (by simp; omega) HR.out, HRS.out⟩, F167⟩))
  case atStart2 =>
   rw [HI93.out]
   exact ⟨0, .slice none 0 0, [], by (iterate 5 refine ⟨by kernel_rfl, ?_⟩); exact ⟨rfl, Nat.zero_le _, ⟨Nat.le_refl _, Nat.le_refl _⟩, lhd (fun j r h => by simp at h), lhd (fun r h => by cases h), rfl, (by first | exact Nat.le_refl _ | omega | (simp; done) | (simp; omega)), F91⟩⟩
 case atStart1 =>
  rw [HI7.out]
  exact ⟨0, _, _, _, [], [], [], by (iterate 5 refine ⟨by kernel_rfl, ?_⟩); exact ⟨rfl, Nat.zero_le _, lhd (insL.zero _ _), lhd (insL.zero _ _), lhd (insL.zero _ _), rfl, (by first | exact Nat.le_refl _ | omega | (simp; done) | (simp; omega)), F1⟩⟩
end Go.Proofs.YtdgplekokdeafaaGreat
