/- the kit of frost: numbers taken into bounds; laws, days within, true ice after a day, made of numbers. -/
import Derived.Test.YtdgplekokdeafaaQF29
import Derived.Test.YtdgplekokdeafaaQKF2
import Derived.Test.YtdgplekokdeafaaQK1
set_option linter.unusedVariables false
set_option linter.unusedSimpArgs false
set_option linter.unnecessarySimpa false
namespace Go.Proofs.Ytdgplekokdeafaa
open Go.RowKit
set_option maxRecDepth 100000
theorem infoCov : (Try.prog.info? 72).map (fun i => (i.zero, i.size, i.bytes)) = some (some (.agg #[.int .i64 0, .int .i64 0, .int .i64 0]), 3, 24) := by kernel_rfl
theorem okCov : ElemOk Try.prog 25 72 3 24 covEnc where
 under := Try.underlying25
 info := info5 infoCov rfl
 pos := by omega
 small := by omega
 len := fun _ => rfl
 one := fun x u hu => by
  simp [covEnc] at hu
  rcases hu with rfl | rfl | rfl <;> rfl
def nextOk (p : Option Cov) (dp a b : Int) : Prop := match p with | none => dp = 0 | some q => q.dp < dp /\ a <= q.pt.lo /\ b <= q.pt.hi
theorem covErr_snoc : ∀ (cs : List Cov) (p : Option Cov) (c : Cov), covErr p cs = 0 -> nextOk (cs.getLast?.or p) c.dp c.pt.lo c.pt.hi -> (0 <= c.dp /\ c.dp <= 5000) -> (0 <= c.pt.lo /\ c.pt.lo <= c.pt.hi /\ c.pt.hi <= 1000000) -> covErr p (cs ++ [c]) = 0
 | [], p, c, _, hn, hd, hp => by
  have e1 : spanErr c.pt.lo c.pt.hi 0 1000000 = 0 := by unfold spanErr; rw [if_neg (by omega), if_neg (by omega)]
  rw [List.nil_append, covErr, if_neg (by omega), covErr]
  cases p with
  | none =>
   have hn' : c.dp = 0 := hn
   simp [deepB, moreB, hn', e1]
  | some q =>
   obtain ⟨h1, h2, h3⟩ := (show q.dp < c.dp /\ c.pt.lo <= q.pt.lo /\ c.pt.hi <= q.pt.hi from hn)
   have m : ¬ (q.pt.lo < c.pt.lo ∨ q.pt.hi < c.pt.hi) := by omega
   have d : ¬ c.dp <= q.dp := by omega
   simp [deepB, moreB, e1, m, d]
 | x :: cs, p, c, h, hn, hd, hp => by
  rw [List.cons_append]
  unfold covErr at h ⊢
  split at h
  · cases h
  rename_i h1
  split at h
  · cases h
  rename_i h2
  split at h
  · contradiction
  rename_i h3
  split at h
  · cases h
  rename_i h4
  rw [if_neg h1, if_neg h2, if_neg h3, if_neg h4]
  refine covErr_snoc cs (some x) c h ?_ hd hp
  have e : (x :: cs).getLast?.or p = cs.getLast?.or (some x) := by
   cases cs with
   | nil => rfl
   | cons y ys => rw [List.getLast?_cons_cons, List.getLast?_cons]; rfl
  rw [← e]
  exact hn
theorem nextOk_snoc (lc : List Cov) (c : Cov) {dp a b : Int} (h : c.dp < dp /\ a <= c.pt.lo /\ b <= c.pt.hi) : nextOk (lc ++ [c]).getLast? dp a b := by
 rw [List.getLast?_concat]
 exact h
theorem daysErr_of : ∀ (l : List Wea), (∀ d ∈ l, weaErr d = 0) -> daysErr l = 0
 | [], _ => rfl
 | d :: ds, h => by
  rw [daysErr, if_neg (not_not_intro (h d (.head _)))]
  exact daysErr_of ds fun x hx => h x (.tail _ hx)
def FrostOfPost (sb : Nat) (w : World) : Ending -> World -> Prop := fun e w' => ∃ (l : Fro) (vo : Value) (lo hi : Nat), e = .returned (.agg (froC l vo)) /\ w.heap.size <= lo /\ hi <= w'.heap.size /\ Sl covEnc 3 lo hi w' vo l.cov /\ froErr l = 0 /\ SeedAt w' sb /\ w.grownBy w' (some sb)
set_option maxHeartbeats 16000000 in
theorem frostOf_c (sb : Nat) (w : World) (hs : SeedAt w sb) :
  Calls Try.prog 5 #[.pointer (some ⟨sb, 0, none⟩)] w (FrostOfPost sb w) := by
 have F1 : Bus w sb [rseed sb] w := Bus.ofSeed hs
 have hsl := hs.lt
 clear hs
 go_enter Try.func5, Try.ntmps5
 go_wp2_with fail
 replace F1 := F1.new 29 #[.int .i64 0, .int .i64 0, .slice none 0 0, .int .i64 0, .int .i64 0, .int .i64 0, .int .i64 0, .int .i64 0] (n := w.heap.size) (by simp)
 refine (from_c sb 50 200 _ (F1.e 1 rfl) (by omega) (by omega) (by omega) (by omega)).mono ?_
 rintro e w7 ⟨r2, rfl, hr3, hs6, hg5⟩
 unfold fromR at hr3; have hr3b : 50 <= r2 /\ r2 <= 200 := (by omega); clear hr3
 have hg5s := hg5.size
 (try simp at hg5s)
 replace F1 := F1.seedAt 1 rfl hg5 hs6
 clear hg5
 go_wp2_with fail
 refine (from_c sb 0 10000 _ (F1.e 1 rfl) (by omega) (by omega) (by omega) (by omega)).mono ?_
 rintro e w13 ⟨r9, rfl, hr10, hs12, hg11⟩
 unfold fromR at hr10; have hr10b : 0 <= r9 /\ r9 <= 10000 := (by omega); clear hr10
 have hg11s := hg11.size
 (try simp at hg11s)
 replace F1 := F1.seedAt 1 rfl hg11 hs12
 clear hg11
 go_wp2_with fail
 replace F1 := F1.new 3 #[.int .i64 0, .int .i64 r2, .int .i64 r9] (n := w13.heap.size) (by simp)
 refine (of3_c sb _ w13.heap.size 3 0 r2 r9 (F1.e 2 rfl) (by omega) (F1.q 0 0) (F1.q 0 1) (F1.q 0 2)).mono ?_
 rintro e w20 ⟨r15, rfl, hr16, hs19, hg18⟩
 have hg18s := hg18.size
 (try simp at hg18s)
 replace F1 := F1.seedAt 2 rfl hg18 hs19
 clear hg18
 go_wp2_with fail
 refine (from_c sb 2 30 _ (F1.e 2 rfl) (by omega) (by omega) (by omega) (by omega)).mono ?_
 rintro e w26 ⟨r22, rfl, hr23, hs25, hg24⟩
 unfold fromR at hr23; have hr23b : 2 <= r22 /\ r22 <= 30 := (by omega); clear hr23
 have hg24s := hg24.size
 (try simp at hg24s)
 replace F1 := F1.seedAt 2 rfl hg24 hs25
 clear hg24
 go_wp2_with fail
 replace F1 := F1.new 3 #[.int .i64 1, .int .i64 r22] (n := w26.heap.size) (by simp)
 refine (of2_c sb _ w26.heap.size 2 1 r22 (F1.e 3 rfl) (by omega) (F1.q 0 0) (F1.q 0 1)).mono ?_
 rintro e w33 ⟨r28, rfl, hr29, hs32, hg31⟩
 have hg31s := hg31.size
 (try simp at hg31s)
 replace F1 := F1.seedAt 3 rfl hg31 hs32
 clear hg31
 go_wp2_with fail
 replace F1 := F1.new 3 #[.int .i64 300000, .int .i64 3000000] (n := w33.heap.size) (by simp)
 refine (of2_c sb _ w33.heap.size 2 300000 3000000 (F1.e 4 rfl) (by omega) (F1.q 0 0) (F1.q 0 1)).mono ?_
 rintro e w40 ⟨r35, rfl, hr36, hs39, hg38⟩
 have hg38s := hg38.size
 (try simp at hg38s)
 replace F1 := F1.seedAt 4 rfl hg38 hs39
 clear hg38
 go_wp2_with fail
 refine (spanOf_c sb 0 r35 _ (F1.e 4 rfl) (by omega) (by omega) (by omega)).mono ?_
 rintro e w47 ⟨_, rfl, ⟨lo42, hi43, rfl, hr44a, hr44b, hr44c⟩, hs46, hg45⟩
 have hg45s := hg45.size
 (try simp at hg45s)
 replace F1 := F1.seedAt 4 rfl hg45 hs46
 clear hg45
 go_wp2_with fail
 refine (from_c sb 0 1000000 _ (F1.e 4 rfl) (by omega) (by omega) (by omega) (by omega)).mono ?_
 rintro e w53 ⟨r49, rfl, hr50, hs52, hg51⟩
 unfold fromR at hr50; have hr50b : 0 <= r49 /\ r49 <= 1000000 := (by omega); clear hr50
 have hg51s := hg51.size
 (try simp at hg51s)
 replace F1 := F1.seedAt 4 rfl hg51 hs52
 clear hg51
 go_wp2_with fail
 refine (spanOf_c sb 0 1000000 _ (F1.e 4 rfl) (by omega) (by omega) (by omega)).mono ?_
 rintro e w60 ⟨_, rfl, ⟨lo55, hi56, rfl, hr57a, hr57b, hr57c⟩, hs59, hg58⟩
 have hg58s := hg58.size
 (try simp at hg58s)
 replace F1 := F1.seedAt 4 rfl hg58 hs59
 clear hg58
 go_wp2_with fail
 replace F1 := F1.new 29 #[.int .i64 r15, .int .i64 r28, .slice none 0 0, .int .i64 lo42, .int .i64 hi43, .int .i64 r49, .int .i64 lo55, .int .i64 hi56] (n := w60.heap.size) (by simp)
 refine (from_c sb 500000 1000000 _ (F1.e 5 rfl) (by omega) (by omega) (by omega) (by omega)).mono ?_
 rintro e w67 ⟨r62, rfl, hr63, hs66, hg65⟩
 unfold fromR at hr63; have hr63b : 500000 <= r62 /\ r62 <= 1000000 := (by omega); clear hr63
 have hg65s := hg65.size
 (try simp at hg65s)
 replace F1 := F1.seedAt 5 rfl hg65 hs66
 clear hg65
 go_wp2_with fail
 replace F1 := F1.new 27 #[.int .i64 r62, .int .i64 1000000] (n := w67.heap.size) (by simp)
 refine (from_c sb 1 4 _ (F1.e 6 rfl) (by omega) (by omega) (by omega) (by omega)).mono ?_
 rintro e w74 ⟨r69, rfl, hr70, hs73, hg72⟩
 unfold fromR at hr70; have hr70b : 1 <= r69 /\ r69 <= 4 := (by omega); clear hr70
 have hg72s := hg72.size
 (try simp at hg72s)
 replace F1 := F1.seedAt 6 rfl hg72 hs73
 clear hg72
 go_wp2_with fail
 replace F1 := F1.nilrow covEnc 72 3
 (skip)
 obtain ⟨HI77_, HI770⟩ : ∃ I : RelT, I = (fun t ds wr => ∃ (c : Nat) (dp p1 p2 : Int) (vo : Value) (lc : List Cov), t 0 = .pointer (some ⟨sb, 0, none⟩) /\ t 2 = .pointer (some ⟨w.heap.size, 0, none⟩) /\ t 3 = .pointer (some ⟨w60.heap.size, 0, none⟩) /\ t 4 = .pointer (some ⟨w67.heap.size, 0, none⟩) /\ t 5 = .int .i64 dp /\ t 6 = .int .i64 (c : Int) /\ (lc.length + c <= 4 /\ 1 <= lc.length + c) /\ covErr none lc = 0 /\ nextOk lc.getLast? dp p1 p2 /\ (0 <= dp /\ dp <= 120 * (lc.length : Int)) /\ (0 <= p1 /\ p1 <= p2 /\ p2 <= 1000000) /\ ds = [] /\ w74.heap.size <= wr.heap.size /\ Bus w sb [rown covEnc 72 3 w.heap.size vo lc, rbox w67.heap.size 27 #[.int .i64 p1, .int .i64 p2], rbox w60.heap.size 29 #[.int .i64 r15, .int .i64 r28, vo, .int .i64 lo42, .int .i64 hi43, .int .i64 r49, .int .i64 lo55, .int .i64 hi56], rbox w.heap.size 29 #[.int .i64 0, .int .i64 0, .slice none 0 0, .int .i64 0, .int .i64 0, .int .i64 0, .int .i64 0, .int .i64 0], rseed sb] wr) := ⟨_, rfl⟩
 have HI77 := lhd HI770
 clear HI770
 refine wp_loopS 65 rfl HI77_ (fun t wr => (intOf (t 6)).toNat) ?atStart1 ?round1
 case round1 =>
  intro t ds wr hHid
  rw [HI77.out] at hHid
  obtain ⟨c, dp, p1, p2, vo, lc, e0, e2, e3, e4, e5, e6, hrel⟩ := hHid
  have e : ((List.range 65).map t).toArray = #[t 0, t 1, t 2, t 3, t 4, t 5, t 6, t 7, t 8, t 9, t 10, t 11, t 12, t 13, t 14, t 15, t 16, t 17, t 18, t 19, t 20, t 21, t 22, t 23, t 24, t 25, t 26, t 27, t 28, t 29, t 30, t 31, t 32, t 33, t 34, t 35, t 36, t 37, t 38, t 39, t 40, t 41, t 42, t 43, t 44, t 45, t 46, t 47, t 48, t 49, t 50, t 51, t 52, t 53, t 54, t 55, t 56, t 57, t 58, t 59, t 60, t 61, t 62, t 63, t 64] := rfl
  (try dsimp only at e)
  rw [e0, e2, e3, e4, e5, e6] at e
  rw [e]
  simp only [e6]
  clear e e0 e2 e3 e4 e5 e6
  obtain ⟨hlen, hce, hnx, hdp, hpp, rfl, hs79, hF78⟩ := hrel
  clear F1
  obtain ⟨w80, rfl⟩ : ∃ x_ : World, x_ = wr := ⟨_, rfl⟩
  have HCE := lhd hce
  have HNX := lhd hnx
  clear hce hnx
  by_cases c81 : 0 < (c : Int)
  ·
   have c81H := lhd c81
   have b82 := hF78.bx2 1 rfl
   have b83 := hF78.bx8 2 rfl
   go_wp2_with (at_builtin; refine wpList_app _ okCov rfl _ _ rfl w.heap.size vo lc [(⟨dp, ⟨p1, p2⟩⟩ : Cov)] rfl (by exact ((hF78.o 0 rfl)).alloc _) ⟨_, 0, none⟩ 1 1 rfl rfl (by decide) (news_of (Bk.newAt _ _ _ (by simp))) (lc.length + 1) (by simp) (by omega) (by first | omega | (simp; omega)) _ rfl ?_; intro g84 cap85 w86 hp87; refine Hid.out ?_)
   refine lhd ?_
   have hp87s := hp87.gb.size
   (try simp at hp87s)
   clear b82 b83
   have F88 := ((hF78.alloc (.cells #[.int .i64 dp, .int .i64 p1, .int .i64 p2] 72)).front 0 rfl rfl).app hp87 (by simp)
   clear hF78
   have b91 := F88.bx8 2 rfl
   go_wp2_with fail
   clear b91
   have F92 := ((F88.front 2 rfl rfl).set 2 (.slice (some ⟨g84, 0, none⟩) (lc.length + 1) cap85)).nf #[.int .i64 r15, .int .i64 r28, .slice (some ⟨g84, 0, none⟩) (lc.length + 1) cap85, .int .i64 lo42, .int .i64 hi43, .int .i64 r49, .int .i64 lo55, .int .i64 hi56] rfl
   clear F88
   refine (from_c sb 1 120 _ (F92.e 4 rfl) (by omega) (by omega) (by omega) (by omega)).mono ?_
   rintro e w95 ⟨r89, rfl, hr90, hs94, hg93⟩
   unfold fromR at hr90; have hr90b : 1 <= r89 /\ r89 <= 120 := (by omega); clear hr90
   have hg93s := hg93.size
   (try simp at hg93s)
   replace F92 := F92.seedAt 4 rfl hg93 hs94
   clear hg93
   go_wp2_with fail
   replace F92 := F92.drew
   refine ru_begin (fun W => C2 W w67.heap.size (.int .i64 p1) (.int .i64 p2)) 7 (by kernel_rfl) ?_ ?_
   · exact (F92.c2 2)
   obtain ⟨wd101, hwd_⟩ : ∃ x : World, w95.drew = x := ⟨_, rfl⟩
   rw [hwd_] at F92 ⊢
   have wd101s : w95.heap.size <= wd101.heap.size := by rw [← hwd_]; exact Nat.le_refl _
   clear hwd_
   have hS100 := (F92.c2 2)
   refine ru_t 0 [] ?_
   refine ru_t 1 [] ?_
   refine ru_t 2 [] ?_
   refine ru_t 4 [] ?_
   refine ru_t 5 [] ?_
   (try simp only [lpX])
   clear hS100
   refine ru_o 3 fun K hK => ?_
   go_simp
   refine (from_c sb 0 p1 _ (F92.e 4 rfl) (by omega) (by omega) (by omega) (by omega)).mono ?_
   rintro e w106 ⟨r102, rfl, hr103, hs105, hg104⟩
   unfold fromR at hr103; have hr103b : 0 <= r102 /\ r102 <= p1 := (by omega); clear hr103
   have hg104s := hg104.size
   (try simp at hg104s)
   replace F92 := F92.seedAt 4 rfl hg104 hs105
   refine ru_back hK (by exact (F92.c2 2)) (fun _ => ?_)
   clear hK K
   (try simp only [lpX])
   refine ru_p 6 ?_
   (try simp only [lpX])
   refine ru_o 7 fun K hK => ?_
   have kb_ := F92.bx2 2 rfl
   go_simp
   clear kb_
   have F108 := (F92.front 2 rfl rfl).pt2 (.int .i64 r102) (.int .i64 p2)
   clear F92
   refine ru_back_late hK (by kernel_rfl) ?_
   clear hK K
   (try simp only [lpX])
   refine ru_done (by kernel_rfl) ?_
   have Fn_ := F108
   (try dsimp only [lpF, lpG] at Fn_)
   obtain ⟨w109, hx110, F112, hxs111⟩ := Fn_.name
   (try simp at hxs111)
   rw [hx110]
   clear hx110 F108 Fn_
   have b115 := F112.bx2 0 rfl
   go_wp2_with fail
   clear b115
   refine (from_c sb r102 p2 _ (F112.e 4 rfl) (by omega) (by omega) (by omega) (by omega)).mono ?_
   rintro e w118 ⟨r113, rfl, hr114, hs117, hg116⟩
   unfold fromR at hr114; have hr114b : r102 <= r113 /\ r113 <= p2 := (by omega); clear hr114
   have hg116s := hg116.size
   (try simp at hg116s)
   replace F112 := F112.seedAt 4 rfl hg116 hs117
   clear hg116
   have b120 := F112.bx2 0 rfl
   go_wp2_with fail
   clear b120
   have F121 := (F112.set 1 (.int .i64 r113)).nf #[.int .i64 r102, .int .i64 r113] rfl
   clear F112
   have F122 : Bus w sb [rown covEnc 72 3 w.heap.size (.slice (some ⟨g84, 0, none⟩) (lc.length + 1) cap85) (lc ++ [(⟨dp, ⟨p1, p2⟩⟩ : Cov)]), rbox w67.heap.size 27 #[.int .i64 r102, .int .i64 r113], rbox w60.heap.size 29 #[.int .i64 r15, .int .i64 r28, .slice (some ⟨g84, 0, none⟩) (lc.length + 1) cap85, .int .i64 lo42, .int .i64 hi43, .int .i64 r49, .int .i64 lo55, .int .i64 hi56], rbox w.heap.size 29 #[.int .i64 0, .int .i64 0, .slice none 0 0, .int .i64 0, .int .i64 0, .int .i64 0, .int .i64 0, .int .i64 0], rseed sb] _ := F121.pick [2, 0, 1, 3, 4] (by decide) rfl
   clear F121
   (first | refine ⟨by kernel_rfl, ?_, ?_⟩ | refine ⟨rfl, ?_, ?_⟩ | refine ⟨?_, ?_⟩)
   · rw [HI77.out]; exact ⟨c - 1, dp + r89, r102, r113, _, _, by (iterate 5 refine ⟨by kernel_rfl, ?_⟩); exact ⟨(by show Value.int .i64 ((c : Int) - 1) = _; rw [show ((c : Int) - 1) = ((c - 1 : Nat) : Int) by omega]), (by simp; omega), (covErr_snoc lc none (⟨dp, ⟨p1, p2⟩⟩ : Cov) HCE.out (by rw [Option.or_none]; exact HNX.out) (by simp only; omega) (by simp only; omega)), (nextOk_snoc lc (⟨dp, ⟨p1, p2⟩⟩ : Cov) (by simp only; omega)), (by simp; omega), (by omega), (by first | rfl | simp), (by first | omega | (simp; done) | (simp; omega)), F122⟩⟩
   · simp [slot, intOf]; omega
  have c81H := lhd c81
  have c81a := dec_f c81
  obtain ⟨oa, oc, eo_⟩ := (Own.sl (hF78.o 0 rfl) (fun _ => rfl)).any
  subst eo_
  have HFE : Hid (froErr ⟨r15, r28, lc, ⟨lo42, hi43⟩, r49, ⟨lo55, hi56⟩⟩ = 0) := lhd (by
   have h1 : covsE lc = 0 := by unfold covsE; rw [if_neg (by omega), if_neg (by omega)]; exact HCE.out
   have h2 : ∀ a b m : Int, 0 <= a -> a <= b -> b <= m -> spanErr a b 0 m = 0 := fun a b m h1 h2 h3 => by unfold spanErr; rw [if_neg (by omega), if_neg (by omega)]
   unfold froErr
   rw [if_neg (by simp only; omega), if_neg (not_not_intro h1), if_neg (not_not_intro (h2 _ _ _ (by simp only; omega) (by simp only; omega) (by simp only; omega))), if_neg (by simp only; omega)]
   exact h2 _ _ _ (by simp only; omega) (by simp only; omega) (by simp only; omega))
  have b123 := hF78.bx8 2 rfl
  have b124 := hF78.bx8 3 rfl
  go_wp2_with fail
  clear b123 b124
  have F125 := (hF78.front 3 rfl rfl).pt8 (.int .i64 r15) (.int .i64 r28) (.slice oa lc.length oc) (.int .i64 lo42) (.int .i64 hi43) (.int .i64 r49) (.int .i64 lo55) (.int .i64 hi56)
  clear hF78
  have kb126 := F125.bx8 0 rfl
  go_wp2_with fail
  exact bodyPost_ret (v := .agg #[.int .i64 r15, .int .i64 r28, .slice oa lc.length oc, .int .i64 lo42, .int .i64 hi43, .int .i64 r49, .int .i64 lo55, .int .i64 hi56]) (by simp [results, Try.results5, go_sem, kb126]) rfl ((Exists.intro (⟨r15, r28, lc, ⟨lo42, hi43⟩, r49, ⟨lo55, hi56⟩⟩ : Fro) (Exists.intro _ (Exists.intro w.heap.size (Exists.intro _ ⟨rfl, Nat.le_refl _, Nat.le_refl _, (Own.sl (F125.o 1 rfl) (fun _ => rfl)), HFE.out, (F125.e 4 rfl), F125.gb⟩)))))
 case atStart1 =>
  rw [HI77.out]
  exact ⟨r69.toNat, 0, r62, 1000000, _, [], by (iterate 5 refine ⟨by kernel_rfl, ?_⟩); exact ⟨(by rw [Int.toNat_of_nonneg (by omega)]; first | kernel_rfl | rfl), (by simp; omega), rfl, rfl, (by simp), (by omega), rfl, (by first | exact Nat.le_refl _ | omega | (simp; done) | (simp; omega)), (((F1.drop 3 rfl).drop 3 rfl).drop 3 rfl)⟩⟩
end Go.Proofs.Ytdgplekokdeafaa
