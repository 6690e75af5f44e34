/- the kit of build: jobs made of numbers. -/
import Derived.Test.YtokelpmngahnoaaUJK
import Derived.Test.YtokelpmngahnoaaUK1
set_option linter.unusedVariables false
set_option linter.unusedSimpArgs false
set_option linter.unnecessarySimpa false
namespace Go.Proofs.Ytokelpmngahnoaa
open Go.RowKit
set_option maxRecDepth 100000
theorem rgJK188 (t : Nat -> Value) : ((List.range 88).map t).toArray = #[t 0, t 1, t 2, t 3, t 4, t 5, t 6, t 7, t 8, t 9, t 10, t 11, t 12, t 13, t 14, t 15, t 16, t 17, t 18, t 19, t 20, t 21, t 22, t 23, t 24, t 25, t 26, t 27, t 28, t 29, t 30, t 31, t 32, t 33, t 34, t 35, t 36, t 37, t 38, t 39, t 40, t 41, t 42, t 43, t 44, t 45, t 46, t 47, t 48, t 49, t 50, t 51, t 52, t 53, t 54, t 55, t 56, t 57, t 58, t 59, t 60, t 61, t 62, t 63, t 64, t 65, t 66, t 67, t 68, t 69, t 70, t 71, t 72, t 73, t 74, t 75, t 76, t 77, t 78, t 79, t 80, t 81, t 82, t 83, t 84, t 85, t 86, t 87] := rfl
set_option maxHeartbeats 16000000 in
theorem jobOf_c (sb : Nat) (nt : Int) (w : World) (hs : SeedAt w sb) (hnt : 0 <= nt /\ nt <= 20) :
  Calls Try.prog 17 #[.pointer (some ⟨sb, 0, none⟩), .int .i64 nt] w (JobP sb nt w) := by
 have F1 : Bus w sb [rseed sb] w := Bus.ofSeed hs
 have hsl := hs.lt
 clear hs
 go_enter Try.func17, Try.ntmps17
 go_wp2_with fail
 replace F1 := F1.new 25 #[.slice none 0 0, .slice none 0 0] (n := w.heap.size) (by simp)
 replace F1 := F1.new 25 #[.slice none 0 0, .slice none 0 0] (n := (w.heap.size + 1)) (by simp)
 refine (from_c sb 1 3 _ (F1.at 2 rfl : SeedAt _ sb) (by omega) (by omega) (by omega) (by omega)).mono ?_
 rintro e w8 ⟨r2, rfl, hr3, hs7, hg6⟩
 unfold fromR at hr3; have hr3b : 1 <= r2 /\ r2 <= 3 := (by omega); clear hr3
 have hg6s := hg6.size
 (try simp at hg6s)
 replace F1 := F1.seedAt 2 rfl hg6 hs7
 clear hg6
 go_wp2_with fail
 replace F1 := F1.nilrow mchEnc 77 3
 (skip)
 obtain ⟨HI11_, HI110⟩ : ∃ I : RelT, I = (fun t ds wr => ∃ (c : Nat) (mv : Value) (lm : List Mch), t 0 = .pointer (some ⟨sb, 0, none⟩) /\ t 1 = .int .i64 nt /\ t 4 = .pointer (some ⟨w.heap.size, 0, none⟩) /\ t 5 = .pointer (some ⟨w.heap.size + 1, 0, none⟩) /\ t 6 = .int .i64 (c : Int) /\ (lm.length + c <= 3 /\ 1 <= lm.length + c) /\ mchsErr lm = 0 /\ ds = [] /\ w8.heap.size <= wr.heap.size /\ Bus w sb [rown mchEnc 77 3 w.heap.size mv lm, rbox (w.heap.size + 1) 25 #[mv, .slice none 0 0], rbox w.heap.size 25 #[.slice none 0 0, .slice none 0 0], rseed sb] wr) := ⟨_, rfl⟩
 have HI11 := lhd HI110
 clear HI110
 refine wp_loopS 88 rfl HI11_ (fun t wr => (intOf (t 6)).toNat) ?atStart1 ?round1
 case round1 =>
  intro t ds wr hHid
  rw [HI11.out] at hHid
  obtain ⟨c, mv, lm, e0, e1, e4, e5, e6, hrel⟩ := hHid
  have e := rgJK188 t
  (try dsimp only at e)
  rw [e0, e1, e4, e5, e6] at e
  rw [e]
  simp only [e6]
  clear e e0 e1 e4 e5 e6
  obtain ⟨hlen, hme, rfl, hs13, hF12⟩ := hrel
  clear F1
  obtain ⟨w14, rfl⟩ : ∃ x_ : World, x_ = wr := ⟨_, rfl⟩
  have HME := lhd hme
  clear hme
  by_cases c15 : 0 < (c : Int)
  ·
   have c15H := lhd c15
   go_wp2_with fail
   refine (from_c sb (-50) 100 _ (hF12.at 3 rfl : SeedAt _ sb) (by omega) (by omega) (by omega) (by omega)).mono ?_
   rintro e w20 ⟨r16, rfl, hr17, hs19, hg18⟩
   unfold fromR at hr17; have hr17b : (-50) <= r16 /\ r16 <= 100 := (by omega); clear hr17
   have hg18s := hg18.size
   (try simp at hg18s)
   have F21 := hF12.seedAt 3 rfl hg18 hs19
   clear hF12
   clear hg18
   go_wp2_with fail
   refine (from_c sb 1 24 _ (F21.at 3 rfl : SeedAt _ sb) (by omega) (by omega) (by omega) (by omega)).mono ?_
   rintro e w26 ⟨r22, rfl, hr23, hs25, hg24⟩
   unfold fromR at hr23; have hr23b : 1 <= r22 /\ r22 <= 24 := (by omega); clear hr23
   have hg24s := hg24.size
   (try simp at hg24s)
   replace F21 := F21.seedAt 3 rfl hg24 hs25
   clear hg24
   go_wp2_with fail
   replace F21 := F21.new 3 #[.int .i64 24, .int .i64 r22] (n := w26.heap.size) (by simp)
   refine (of2_c sb _ w26.heap.size 2 24 r22 (F21.at 4 rfl : SeedAt _ sb) (by omega) (F21.q 0 0) (F21.q 0 1)).mono ?_
   rintro e w33 ⟨r28, rfl, hr29, hs32, hg31⟩
   have hg31s := hg31.size
   (try simp at hg31s)
   replace F21 := F21.seedAt 4 rfl hg31 hs32
   clear hg31
   go_wp2_with fail
   replace F21 := F21.new 77 #[.int .i64 r16, .int .i64 0, .int .i64 r28] (n := w33.heap.size) (by simp)
   obtain ⟨w38, hx39, F41, hxs40⟩ := (show Bus w sb [rbox w33.heap.size 77 #[.int .i64 r16, .int .i64 0, .int .i64 r28], rown mchEnc 77 3 w.heap.size mv lm, rbox (w.heap.size + 1) 25 #[mv, .slice none 0 0], rbox w.heap.size 25 #[.slice none 0 0, .slice none 0 0], rseed sb] _ from (F21.drop 1 rfl)).name
   (try simp at hxs40)
   rw [hx39]
   clear hx39 F21
   replace F41 := F41.drew
   refine ru_begin (fun W => W.cell? ⟨w33.heap.size, 0, none⟩ = some (.int .i64 r16)) 6 (by kernel_rfl) ?_ ?_
   · exact F41.q 0 0
   obtain ⟨wd44, hwd_⟩ : ∃ x : World, w38.drew = x := ⟨_, rfl⟩
   rw [hwd_] at F41 ⊢
   have wd44s : w38.heap.size <= wd44.heap.size := by rw [← hwd_]; exact Nat.le_refl _
   clear hwd_
   have hS43 := (F41.q 0 0)
   refine ru_t 0 [] ?_
   refine ru_t 1 [] ?_
   refine ru_t 2 [] ?_
   (try simp only [lpX])
   clear hS43
   refine ru_one 3 rfl (by kernel_rfl) (fun K hK => ?_)
   go_simp
   refine (from_c sb 0 300 _ (F41.at 4 rfl : SeedAt _ sb) (by omega) (by omega) (by omega) (by omega)).mono ?_
   rintro e w49 ⟨r45, rfl, hr46, hs48, hg47⟩
   unfold fromR at hr46; have hr46b : 0 <= r45 /\ r45 <= 300 := (by omega); clear hr46
   have hg47s := hg47.size
   (try simp at hg47s)
   replace F41 := F41.seedAt 4 rfl hg47 hs48
   refine ru_back hK (by exact F41.q 0 0) (fun _ => ?_)
   clear hK K
   (try simp only [lpX])
   have hw51 : IntKind.i64.wrap (r16 + r45) = r16 + r45 := IntWalk.i64_in _ (by omega)
   refine ru_p 4 ?_
   (try simp only [lpX])
   refine ru_p 5 ?_
   (try simp only [lpX])
   refine ru_one 6 rfl (by kernel_rfl) (fun K hK => ?_)
   have kb_ := F41.bx3 0 rfl
   go_simp
   clear kb_
   have F52 := (F41.set 1 (.int .i64 (r16 + r45))).nf #[.int .i64 r16, .int .i64 (r16 + r45), .int .i64 r28] rfl
   clear F41
   refine ru_back_late hK (by kernel_rfl) ?_
   clear hK K
   (try simp only [lpX])
   refine ru_done (by kernel_rfl) ?_
   (try clear hw51)
   obtain ⟨w53, hx54, F56, hxs55⟩ := (show Bus w sb [rbox w33.heap.size 77 #[.int .i64 r16, .int .i64 (r16 + r45), .int .i64 r28], rown mchEnc 77 3 w.heap.size mv lm, rbox (w.heap.size + 1) 25 #[mv, .slice none 0 0], rbox w.heap.size 25 #[.slice none 0 0, .slice none 0 0], rseed sb] _ from F52).name
   (try simp at hxs55)
   rw [hx54]
   clear hx54 F52
   have b57 := F56.bx3 0 rfl
   have b58 := F56.bx2 2 rfl
   go_wp2_with (at_builtin; refine wpList_app _ okMch rfl _ _ rfl w.heap.size mv lm [(⟨r16, r16 + r45, r28⟩ : Mch)] rfl (by exact ((F56.at 1 rfl : Own mchEnc 77 3 w.heap.size _ mv lm)).alloc _) ⟨_, 0, none⟩ 1 1 rfl rfl (by decide) (news_of (Bk.newAt _ _ _ (by simp))) (lm.length + 1) (by simp) (by omega) (by first | omega | (simp; omega)) _ rfl ?_; intro g59 cap60 w61 hp62; refine Hid.out ?_)
   refine lhd ?_
   have hp62s := hp62.gb.size
   (try simp at hp62s)
   clear b57 b58
   have F63 := ((F56.alloc (.cells #[.int .i64 r16, .int .i64 (r16 + r45), .int .i64 r28] 77)).front 1 rfl rfl).app hp62 (by simp)
   clear F56
   have b64 := F63.bx2 2 rfl
   go_wp2_with fail
   clear b64
   have F65 := ((F63.front 2 rfl rfl).set 0 (.slice (some ⟨g59, 0, none⟩) (lm.length + 1) cap60)).nf #[.slice (some ⟨g59, 0, none⟩) (lm.length + 1) cap60, .slice none 0 0] rfl
   clear F63
   have F66 : Bus w sb [rown mchEnc 77 3 w.heap.size (.slice (some ⟨g59, 0, none⟩) (lm.length + 1) cap60) (lm ++ [(⟨r16, r16 + r45, r28⟩ : Mch)]), rbox (w.heap.size + 1) 25 #[.slice (some ⟨g59, 0, none⟩) (lm.length + 1) cap60, .slice none 0 0], rbox w.heap.size 25 #[.slice none 0 0, .slice none 0 0], rseed sb] _ := F65.pick [1, 0, 3, 4] (by decide) rfl
   clear F65
   (first | refine ⟨by kernel_rfl, ?_, ?_⟩ | refine ⟨rfl, ?_, ?_⟩ | refine ⟨?_, ?_⟩)
   · rw [HI11.out]; exact ⟨c - 1, _, _, (by kernel_rfl), (by kernel_rfl), (by kernel_rfl), (by kernel_rfl), (by show Value.int .i64 ((c : Int) - 1) = _; rw [show ((c : Int) - 1) = ((c - 1 : Nat) : Int) by omega]), (by simp; omega), (mchsErr_snoc HME.out (mchErr_of (x := ⟨r16, r16 + r45, r28⟩) (by simp only; omega) (by simp only; omega))), (by first | rfl | simp), (by first | omega | (simp; done) | (simp; omega)), F66⟩
   · simp [slot, intOf]; omega
  have c15H := lhd c15
  have c15a : decide (0 < (c : Int)) = false := dec_f c15
  go_wp2_with fail
  have F67 := hF12.nilrow tskEncS 79 8
  clear hF12
  replace F67 := F67.afo0 w.heap.size
  obtain ⟨am69, cm70, e_⟩ := (Own.sl (F67.at 2 rfl : Own mchEnc 77 3 w.heap.size _ mv lm) (fun _ => rfl)).any
  subst e_
  have hlm : 1 <= lm.length /\ lm.length <= 3 := by omega
  (skip)
  obtain ⟨HI71_, HI710⟩ : ∃ I : RelT, I = (fun t ds wr => ∃ (k : Nat) (tv : Value) (lt : List Tsk), t 0 = .pointer (some ⟨sb, 0, none⟩) /\ t 1 = .int .i64 nt /\ t 4 = .pointer (some ⟨w.heap.size, 0, none⟩) /\ t 5 = .pointer (some ⟨w.heap.size + 1, 0, none⟩) /\ t 8 = .int .i64 (k : Int) /\ lt.length = k /\ (k : Int) <= nt /\ tsksErr lm.length 0 lt = 0 /\ (∀ t_ ∈ lt, sliceB t_.av = true) /\ ds = [] /\ w14.heap.size <= wr.heap.size /\ Bus w sb [rafo w.heap.size lt, rown tskEncS 79 8 w.heap.size tv lt, rown mchEnc 77 3 w.heap.size (.slice am69 lm.length cm70) lm, rbox (w.heap.size + 1) 25 #[.slice am69 lm.length cm70, tv], rbox w.heap.size 25 #[.slice none 0 0, .slice none 0 0], rseed sb] wr) := ⟨_, rfl⟩
  have HI71 := lhd HI710
  clear HI710
  refine wp_loopS 88 rfl HI71_ (fun t wr => nt.toNat - (intOf (t 8)).toNat) ?atStart2 ?round2
  case round2 =>
   intro t ds wr hHid
   rw [HI71.out] at hHid
   obtain ⟨k, tv, lt, e0, e1, e4, e5, e8, hrel⟩ := hHid
   have e := rgJK188 t
   (try dsimp only at e)
   rw [e0, e1, e4, e5, e8] at e
   rw [e]
   simp only [e8]
   clear e e0 e1 e4 e5 e8
   obtain ⟨hlk0, hkn, hte, hsb, rfl, hs73, hF72⟩ := hrel
   clear F67
   obtain ⟨w74, rfl⟩ : ∃ x_ : World, x_ = wr := ⟨_, rfl⟩
   have HTE := lhd hte
   have HSB := lhd hsb
   have hlk : lt.length <= k /\ k <= lt.length := ⟨Nat.le_of_eq hlk0, Nat.le_of_eq hlk0.symm⟩
   clear hte hsb hlk0
   by_cases c75 : (k : Int) < nt
   ·
    have c75H := lhd c75
    go_wp2_with fail
    refine (yes_c sb 6 _ (hF72.at 5 rfl : SeedAt _ sb) (by omega) (by omega)).mono ?_
    rintro e w79 ⟨yb76, rfl, hs78, hg77⟩
    have hg77s := hg77.size
    (try simp at hg77s)
    have F80 := hF72.seedAt 5 rfl hg77 hs78
    clear hF72
    clear hg77
    cases c81 : yb76
    ·
     have c81H := lhd c81
     have b84 := F80.bx2 3 rfl
     go_wp2_with fail
     clear b84
     refine (below_c sb (lm.length : Int) _ (F80.at 5 rfl : SeedAt _ sb) (by omega) (by omega)).mono ?_
     rintro e w87 ⟨r82, rfl, hr83, hs86, hg85⟩
     unfold belowR at hr83
     have hg85s := hg85.size
     (try simp at hg85s)
     replace F80 := F80.seedAt 5 rfl hg85 hs86
     clear hg85
     go_wp2_with fail
     replace F80 := F80.new 3 #[.int .i64 5, .int .i64 30] (n := w87.heap.size) (by simp)
     refine (of2_c sb _ w87.heap.size 2 5 30 (F80.at 6 rfl : SeedAt _ sb) (by omega) (F80.q 0 0) (F80.q 0 1)).mono ?_
     rintro e w94 ⟨r89, rfl, hr90, hs93, hg92⟩
     have hg92s := hg92.size
     (try simp at hg92s)
     replace F80 := F80.seedAt 6 rfl hg92 hs93
     clear hg92
     go_wp2_with fail
     refine (spanOf_c sb 0 r89 _ (F80.at 6 rfl : SeedAt _ sb) (by omega) (by omega) (by omega)).mono ?_
     rintro e w101 ⟨_, rfl, ⟨lo96, hi97, rfl, hr98a, hr98b, hr98c⟩, hs100, hg99⟩
     have hg99s := hg99.size
     (try simp at hg99s)
     replace F80 := F80.seedAt 6 rfl hg99 hs100
     clear hg99
     go_wp2_with fail
     replace F80 := F80.new 3 #[.int .i64 0, .int .i64 20] (n := w101.heap.size) (by simp)
     refine (of2_c sb _ w101.heap.size 2 0 20 (F80.at 7 rfl : SeedAt _ sb) (by omega) (F80.q 0 0) (F80.q 0 1)).mono ?_
     rintro e w108 ⟨r103, rfl, hr104, hs107, hg106⟩
     have hg106s := hg106.size
     (try simp at hg106s)
     replace F80 := F80.seedAt 7 rfl hg106 hs107
     clear hg106
     go_wp2_with fail
     refine (spanOf_c sb 0 r103 _ (F80.at 7 rfl : SeedAt _ sb) (by omega) (by omega) (by omega)).mono ?_
     rintro e w115 ⟨_, rfl, ⟨lo110, hi111, rfl, hr112a, hr112b, hr112c⟩, hs114, hg113⟩
     have hg113s := hg113.size
     (try simp at hg113s)
     replace F80 := F80.seedAt 7 rfl hg113 hs114
     clear hg113
     go_wp2_with fail
     replace F80 := F80.new 3 #[.int .i64 0, .int .i64 60] (n := w115.heap.size) (by simp)
     refine (of2_c sb _ w115.heap.size 2 0 60 (F80.at 8 rfl : SeedAt _ sb) (by omega) (F80.q 0 0) (F80.q 0 1)).mono ?_
     rintro e w122 ⟨r117, rfl, hr118, hs121, hg120⟩
     have hg120s := hg120.size
     (try simp at hg120s)
     replace F80 := F80.seedAt 8 rfl hg120 hs121
     clear hg120
     go_wp2_with fail
     refine (spanOf_c sb 0 r117 _ (F80.at 8 rfl : SeedAt _ sb) (by omega) (by omega) (by omega)).mono ?_
     rintro e w129 ⟨_, rfl, ⟨lo124, hi125, rfl, hr126a, hr126b, hr126c⟩, hs128, hg127⟩
     have hg127s := hg127.size
     (try simp at hg127s)
     replace F80 := F80.seedAt 8 rfl hg127 hs128
     clear hg127
     go_wp2_with fail
     replace F80 := F80.new 79 #[.int .i64 r82, .int .i64 lo96, .int .i64 hi97, .int .i64 lo110, .int .i64 hi111, .int .i64 lo124, .int .i64 hi125, .slice none 0 0] (n := w129.heap.size) (by simp)
     replace F80 := F80.nilrow intEnc 3 1
     (skip)
     obtain ⟨HI133_, HI1330⟩ : ∃ I : RelT, I = (fun t ds wr => ∃ (j : Nat) (av : Value) (la : List Int), t 0 = .pointer (some ⟨sb, 0, none⟩) /\ t 1 = .int .i64 nt /\ t 4 = .pointer (some ⟨w.heap.size, 0, none⟩) /\ t 5 = .pointer (some ⟨w.heap.size + 1, 0, none⟩) /\ t 8 = .int .i64 (k : Int) /\ t 9 = .pointer (some ⟨w129.heap.size, 0, none⟩) /\ t 10 = .int .i64 (j : Int) /\ j <= k /\ la.length <= j /\ afS j la /\ ds = [] /\ w129.heap.size <= wr.heap.size /\ Bus w sb [rown intEnc 3 1 w.heap.size av la, rbox w129.heap.size 79 #[.int .i64 r82, .int .i64 lo96, .int .i64 hi97, .int .i64 lo110, .int .i64 hi111, .int .i64 lo124, .int .i64 hi125, av], rafo w.heap.size lt, rown tskEncS 79 8 w.heap.size tv lt, rown mchEnc 77 3 w.heap.size (.slice am69 lm.length cm70) lm, rbox (w.heap.size + 1) 25 #[.slice am69 lm.length cm70, tv], rbox w.heap.size 25 #[.slice none 0 0, .slice none 0 0], rseed sb] wr) := ⟨_, rfl⟩
     have HI133 := lhd HI1330
     clear HI1330
     refine wp_loopS 88 rfl HI133_ (fun t wr => k - (intOf (t 10)).toNat) ?atStart3 ?round3
     case round3 =>
      intro t ds wr hHid
      rw [HI133.out] at hHid
      obtain ⟨j, av, la, e0, e1, e4, e5, e8, e9, e10, hrel⟩ := hHid
      have e := rgJK188 t
      (try dsimp only at e)
      rw [e0, e1, e4, e5, e8, e9, e10] at e
      rw [e]
      simp only [e10]
      clear e e0 e1 e4 e5 e8 e9 e10
      obtain ⟨hj, hlaj, has, rfl, hs135, hF134⟩ := hrel
      clear F80
      obtain ⟨w136, rfl⟩ : ∃ x_ : World, x_ = wr := ⟨_, rfl⟩
      have HAS := lhd has
      clear has
      by_cases c137 : (j : Int) < (k : Int)
      ·
       have c137H := lhd c137
       go_wp2_with fail
       refine (yes_c sb 3 _ (hF134.at 7 rfl : SeedAt _ sb) (by omega) (by omega)).mono ?_
       rintro e w141 ⟨yb138, rfl, hs140, hg139⟩
       have hg139s := hg139.size
       (try simp at hg139s)
       have F142 := hF134.seedAt 7 rfl hg139 hs140
       clear hF134
       clear hg139
       cases c143 : yb138
       ·
        have c143H := lhd c143
        go_wp2_with fail
        (first | refine ⟨by kernel_rfl, ?_, ?_⟩ | refine ⟨rfl, ?_, ?_⟩ | refine ⟨?_, ?_⟩)
        · rw [HI133.out]; exact ⟨j + 1, _, _, by (iterate 6 refine ⟨by kernel_rfl, ?_⟩); exact ⟨(by show Value.int .i64 ((j : Int) + 1) = _; simp), (by omega), (by first | omega | (simp; omega)), (by push_cast; exact HAS.out.next), (by first | rfl | simp), (by first | omega | (simp; done) | (simp; omega)), F142⟩⟩
        · simp [slot, intOf]; omega
       have c143H := lhd c143
       have b144 := F142.bx8 1 rfl
       go_wp2_with (at_builtin; refine wpList_app _ okInt rfl _ _ rfl w.heap.size av la [(j : Int)] rfl (by exact ((F142.at 0 rfl : Own intEnc 3 1 w.heap.size _ av la)).alloc _) ⟨_, 0, none⟩ 1 1 rfl rfl (by decide) (news_of (Bk.newAt _ _ _ (by simp))) (la.length + 1) (by simp) (by omega) (by first | omega | (simp; omega)) _ rfl ?_; intro g145 cap146 w147 hp148; refine Hid.out ?_)
       refine lhd ?_
       have hp148s := hp148.gb.size
       (try simp at hp148s)
       clear b144
       have F149 := ((F142.alloc (.cells #[.int .i64 (j : Int)] 3)).front 0 rfl rfl).app hp148 (by simp)
       clear F142
       have b150 := F149.bx8 1 rfl
       go_wp2_with fail
       clear b150
       have F151 := ((F149.front 1 rfl rfl).set 7 (.slice (some ⟨g145, 0, none⟩) (la.length + 1) cap146)).nf #[.int .i64 r82, .int .i64 lo96, .int .i64 hi97, .int .i64 lo110, .int .i64 hi111, .int .i64 lo124, .int .i64 hi125, .slice (some ⟨g145, 0, none⟩) (la.length + 1) cap146] rfl
       clear F149
       have F152 : Bus w sb [rown intEnc 3 1 w.heap.size (.slice (some ⟨g145, 0, none⟩) (la.length + 1) cap146) (la ++ [(j : Int)]), rbox w129.heap.size 79 #[.int .i64 r82, .int .i64 lo96, .int .i64 hi97, .int .i64 lo110, .int .i64 hi111, .int .i64 lo124, .int .i64 hi125, .slice (some ⟨g145, 0, none⟩) (la.length + 1) cap146], rafo w.heap.size lt, rown tskEncS 79 8 w.heap.size tv lt, rown mchEnc 77 3 w.heap.size (.slice am69 lm.length cm70) lm, rbox (w.heap.size + 1) 25 #[.slice am69 lm.length cm70, tv], rbox w.heap.size 25 #[.slice none 0 0, .slice none 0 0], rseed sb] _ := F151.pick [1, 0, 2, 3, 4, 5, 6, 7] (by decide) rfl
       clear F151
       (first | refine ⟨by kernel_rfl, ?_, ?_⟩ | refine ⟨rfl, ?_, ?_⟩ | refine ⟨?_, ?_⟩)
       · rw [HI133.out]; exact ⟨j + 1, _, _, by (iterate 6 refine ⟨by kernel_rfl, ?_⟩); exact ⟨(by show Value.int .i64 ((j : Int) + 1) = _; simp), (by omega), (by first | omega | (simp; omega)), (by push_cast; exact HAS.out.snoc (by omega)), (by first | rfl | simp), (by first | omega | (simp; done) | (simp; omega)), F152⟩⟩
       · simp [slot, intOf]; omega
      have c137H := lhd c137
      have c137a : decide ((j : Int) < (k : Int)) = false := dec_f c137
      have HAS2 := HAS
      obtain ⟨aa153, ac154, e_⟩ := (Own.sl (hF134.at 0 rfl : Own intEnc 3 1 w.heap.size _ av la) (fun _ => rfl)).any
      subst e_
      have b155 := hF134.bx8 1 rfl
      have b156 := hF134.bx2 5 rfl
      go_wp2_with (at_builtin; refine wpList_app _ okTskS rfl _ _ rfl w.heap.size tv lt [(⟨r82, ⟨lo96, hi97⟩, ⟨lo110, hi111⟩, ⟨lo124, hi125⟩, la, .slice aa153 la.length ac154⟩ : Tsk)] rfl (by exact ((hF134.at 3 rfl : Own tskEncS 79 8 w.heap.size _ tv lt)).alloc _) ⟨_, 0, none⟩ 1 1 rfl rfl (by decide) (news_of (Bk.newAt _ _ _ (by simp))) (lt.length + 1) (by simp) (by omega) (by first | omega | (simp; omega)) _ rfl ?_; intro g157 cap158 w159 hp160; refine Hid.out ?_)
      refine lhd ?_
      have hp160s := hp160.gb.size
      (try simp at hp160s)
      clear b155 b156
      have F161 := ((hF134.alloc (.cells #[.int .i64 r82, .int .i64 lo96, .int .i64 hi97, .int .i64 lo110, .int .i64 hi111, .int .i64 lo124, .int .i64 hi125, .slice aa153 la.length ac154] 79)).front 3 rfl rfl).app hp160 (by simp)
      clear hF134
      have b162 := F161.bx2 5 rfl
      go_wp2_with fail
      clear b162
      have F163 := ((F161.front 5 rfl rfl).set 1 (.slice (some ⟨g157, 0, none⟩) (lt.length + 1) cap158)).nf #[.slice am69 lm.length cm70, .slice (some ⟨g157, 0, none⟩) (lt.length + 1) cap158] rfl
      clear F161
      have F164 : Bus w sb [rown intEnc 3 1 w.heap.size (.slice aa153 la.length ac154) la, rafo w.heap.size lt, rbox (w.heap.size + 1) 25 #[.slice am69 lm.length cm70, .slice (some ⟨g157, 0, none⟩) (lt.length + 1) cap158], rown tskEncS 79 8 w.heap.size (.slice (some ⟨g157, 0, none⟩) (lt.length + 1) cap158) (lt ++ [(⟨r82, ⟨lo96, hi97⟩, ⟨lo110, hi111⟩, ⟨lo124, hi125⟩, la, .slice aa153 la.length ac154⟩ : Tsk)]), rbox w129.heap.size 79 #[.int .i64 r82, .int .i64 lo96, .int .i64 hi97, .int .i64 lo110, .int .i64 hi111, .int .i64 lo124, .int .i64 hi125, .slice aa153 la.length ac154], rown mchEnc 77 3 w.heap.size (.slice am69 lm.length cm70) lm, rbox w.heap.size 25 #[.slice none 0 0, .slice none 0 0], rseed sb] _ := F163.pick [2, 4, 0, 1, 3, 5, 6, 7] (by decide) rfl
      clear F163
      replace F164 := F164.afo (⟨r82, ⟨lo96, hi97⟩, ⟨lo110, hi111⟩, ⟨lo124, hi125⟩, la, .slice aa153 la.length ac154⟩ : Tsk) rfl rfl
      go_wp2_with fail
      have F166 : Bus w sb [rafo w.heap.size (lt ++ [(⟨r82, ⟨lo96, hi97⟩, ⟨lo110, hi111⟩, ⟨lo124, hi125⟩, la, .slice aa153 la.length ac154⟩ : Tsk)]), rown tskEncS 79 8 w.heap.size (.slice (some ⟨g157, 0, none⟩) (lt.length + 1) cap158) (lt ++ [(⟨r82, ⟨lo96, hi97⟩, ⟨lo110, hi111⟩, ⟨lo124, hi125⟩, la, .slice aa153 la.length ac154⟩ : Tsk)]), rown mchEnc 77 3 w.heap.size (.slice am69 lm.length cm70) lm, rbox (w.heap.size + 1) 25 #[.slice am69 lm.length cm70, .slice (some ⟨g157, 0, none⟩) (lt.length + 1) cap158], rbox w.heap.size 25 #[.slice none 0 0, .slice none 0 0], rseed sb] _ := F164.pick [0, 2, 4, 1, 5, 6] (by decide) rfl
      clear F164
      (first | refine ⟨by kernel_rfl, ?_, ?_⟩ | refine ⟨rfl, ?_, ?_⟩ | refine ⟨?_, ?_⟩)
      · rw [HI71.out]; exact ⟨k + 1, _, _, (by kernel_rfl), (by kernel_rfl), (by kernel_rfl), (by kernel_rfl), (by show Value.int .i64 ((k : Int) + 1) = _; simp), (by simp; omega), (by omega), (tsksErr_snoc HTE.out (tskErr_of (t := ⟨r82, ⟨lo96, hi97⟩, ⟨lo110, hi111⟩, ⟨lo124, hi125⟩, la, .slice aa153 la.length ac154⟩) (by simp only; omega) (by simp only; omega) (by simp only; omega) (by simp only; omega) (HAS.out.err (by simp; omega)))), (fun t_ h_ => by rcases List.mem_append.1 h_ with h_ | h_; exact HSB.out t_ h_; obtain rfl := List.mem_singleton.1 h_; rfl), (by first | rfl | simp), (by first | omega | (simp; done) | (simp; omega)), F166⟩
      · simp [slot, intOf]; omega
     case atStart3 =>
      rw [HI133.out]
      exact ⟨0, _, [], by (iterate 6 refine ⟨by kernel_rfl, ?_⟩); exact ⟨rfl, Nat.zero_le _, Nat.zero_le _, ⟨(fun _ h_ => by cases h_), List.nodup_nil⟩, rfl, (by first | exact Nat.le_refl _ | omega | (simp; done) | (simp; omega)), (((F80.drop 2 rfl).drop 2 rfl).drop 2 rfl)⟩⟩
    have c81H := lhd c81
    obtain ⟨av167, vc168, e_⟩ := (Own.sl (F80.at 1 rfl : Own tskEncS 79 8 w.heap.size _ tv lt) (fun _ => rfl)).any
    subst e_
    have b169 := F80.bx2 3 rfl
    have b170 := F80.bx2 4 rfl
    go_wp2_with fail
    clear b169 b170
    have F171 := (F80.front 4 rfl rfl).pt2 (.slice am69 lm.length cm70) (.slice av167 lt.length vc168)
    clear F80
    have kb172 := F171.bx2 0 rfl
    go_wp2_with fail
    exact bodyPost_ret (v := .agg #[.slice am69 lm.length cm70, .slice av167 lt.length vc168]) (by simp [results, Try.results17, go_sem, kb172]) rfl ((by have s_ := slS (Own.sl (F171.at 2 rfl : Own tskEncS 79 8 w.heap.size _ (.slice av167 lt.length vc168) lt) (fun _ => rfl)) HSB.out; exact ⟨lm, lt, _, _, _, _, w.heap.size, _, rfl, ⟨Nat.le_refl _, Nat.le_refl _⟩, ⟨(Own.sl (F171.at 3 rfl : Own mchEnc 77 3 w.heap.size _ (.slice am69 lm.length cm70) lm) (fun _ => rfl)), s_, (fun t_ h_ => ⟨(Own.sl ((F171.at 1 rfl : ∀ t ∈ lt, Own intEnc 3 1 w.heap.size _ t.av t.af) t_ h_) (fun _ => rfl)), own_cap ((F171.at 1 rfl : ∀ t ∈ lt, Own intEnc 3 1 w.heap.size _ t.av t.af) t_ h_)⟩)⟩, ⟨jobErr_of (by omega) HME.out (by omega) HTE.out, by omega, by omega, by omega⟩, (F171.at 5 rfl : SeedAt _ sb), F171.gb⟩))
   have c75H := lhd c75
   have c75a : decide ((k : Int) < nt) = false := dec_f c75
   obtain ⟨av173, vc174, e_⟩ := (Own.sl (hF72.at 1 rfl : Own tskEncS 79 8 w.heap.size _ tv lt) (fun _ => rfl)).any
   subst e_
   have b175 := hF72.bx2 3 rfl
   have b176 := hF72.bx2 4 rfl
   go_wp2_with fail
   clear b175 b176
   have F177 := (hF72.front 4 rfl rfl).pt2 (.slice am69 lm.length cm70) (.slice av173 lt.length vc174)
   clear hF72
   have kb178 := F177.bx2 0 rfl
   go_wp2_with fail
   exact bodyPost_ret (v := .agg #[.slice am69 lm.length cm70, .slice av173 lt.length vc174]) (by simp [results, Try.results17, go_sem, kb178]) rfl ((by have s_ := slS (Own.sl (F177.at 2 rfl : Own tskEncS 79 8 w.heap.size _ (.slice av173 lt.length vc174) lt) (fun _ => rfl)) HSB.out; exact ⟨lm, lt, _, _, _, _, w.heap.size, _, rfl, ⟨Nat.le_refl _, Nat.le_refl _⟩, ⟨(Own.sl (F177.at 3 rfl : Own mchEnc 77 3 w.heap.size _ (.slice am69 lm.length cm70) lm) (fun _ => rfl)), s_, (fun t_ h_ => ⟨(Own.sl ((F177.at 1 rfl : ∀ t ∈ lt, Own intEnc 3 1 w.heap.size _ t.av t.af) t_ h_) (fun _ => rfl)), own_cap ((F177.at 1 rfl : ∀ t ∈ lt, Own intEnc 3 1 w.heap.size _ t.av t.af) t_ h_)⟩)⟩, ⟨jobErr_of (by omega) HME.out (by omega) HTE.out, by omega, by omega, by omega⟩, (F177.at 5 rfl : SeedAt _ sb), F177.gb⟩))
  case atStart2 =>
   rw [HI71.out]
   exact ⟨0, _, [], (by kernel_rfl), (by kernel_rfl), (by kernel_rfl), (by kernel_rfl), rfl, rfl, hnt.1, rfl, (fun _ h_ => by cases h_), rfl, (by first | exact Nat.le_refl _ | omega | (simp; done) | (simp; omega)), F67⟩
 case atStart1 =>
  rw [HI11.out]
  exact ⟨r2.toNat, _, [], (by kernel_rfl), (by kernel_rfl), (by kernel_rfl), (by kernel_rfl), (by rw [Int.toNat_of_nonneg (by omega)]; first | kernel_rfl | rfl), (by simp; omega), rfl, rfl, (by first | exact Nat.le_refl _ | omega | (simp; done) | (simp; omega)), F1⟩
end Go.Proofs.Ytokelpmngahnoaa
