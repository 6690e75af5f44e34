/- top: rescue: the times of a post. -/
import Derived.Test.YtlefmbjipdlcfaaMRC2
import Derived.Test.YtlefmbjipdlcfaaMKF4
import Derived.Test.YtlefmbjipdlcfaaMK1
import Derived.Test.YtlefmbjipdlcfaaMKC
set_option linter.unusedVariables false
set_option linter.unusedSimpArgs false
set_option linter.unnecessarySimpa false
namespace Go.Proofs.Ytlefmbjipdlcfaa
open Go.RowKit
set_option maxRecDepth 100000
attribute [local go_sem] Oper.semAt_some
def gmn (m : TM) (r x : Int) : Int := match tget m x with | none => 1000000 | some t => r + t
theorem gmn_no {m : TM} {r x : Int} (h : tget m x = none) : gmn m r x = 1000000 := by unfold gmn; rw [h]
theorem gmn_yes {m : TM} {r x t : Int} (h : tget m x = some t) : gmn m r x = r + t := by unfold gmn; rw [h]
def goE (mp ms : TM) (p : Pst) (k : Nat) : Sp := ⟨gmn mp p.lo k, gmn ms p.hi k⟩
def goL (mp ms : TM) (p : Pst) (n : Nat) : List Sp := (List.range n).map (goE mp ms p)
theorem goL_succ (mp ms : TM) (p : Pst) (k : Nat) : goL mp ms p (k + 1) = goL mp ms p k ++ [goE mp ms p k] := by simp [goL, List.range_succ]
theorem goL_len (mp ms : TM) (p : Pst) (n : Nat) : (goL mp ms p n).length = n := by simp [goL]
theorem goL_at (mp ms : TM) (p : Pst) {n k : Nat} (h : k < n) : (goL mp ms p n)[k]? = some (goE mp ms p k) := by simp [goL, h]
def GoP (n : Nat) (l : List Sp) (w : World) : Ending -> World -> Prop := fun e w' => ∃ (a : Option Addr) (c lo hi : Nat), e = .returned (.slice a n c) /\ (w.heap.size <= lo /\ hi <= w'.heap.size) /\ Sl spEnc 2 lo hi w' (.slice a n c) l /\ w.grownBy w' none
theorem GoP.of {n : Nat} {l lo_ : List Sp} {w w' : World} {vo : Value} (hl : lo_ = l) (hn : l.length = n) (ho : Own spEnc 31 2 w.heap.size w' vo lo_) (hg : w.grownBy w' none) : GoP n l w (.returned vo) w' := by
 subst hl hn
 obtain ⟨a, c, rfl, _, s⟩ := Own.slC ho (fun _ => rfl)
 exact ⟨a, c, _, _, rfl, ⟨Nat.le_refl _, Nat.le_refl _⟩, s, hg⟩
theorem rng_goes_c (t : Nat -> Value) : ((List.range 71).map t).toArray = List.toArray [t 0, t 1, t 2, t 3, t 4, t 5, t 6, t 7, t 8, t 9, t 10, t 11, t 12, t 13, t 14, t 15, t 16, t 17, t 18, t 19, t 20, t 21, t 22, t 23, t 24, t 25, t 26, t 27, t 28, t 29, t 30, t 31, t 32, t 33, t 34, t 35, t 36, t 37, t 38, t 39, t 40, t 41, t 42, t 43, t 44, t 45, t 46, t 47, t 48, t 49, t 50, t 51, t 52, t 53, t 54, t 55, t 56, t 57, t 58, t 59, t 60, t 61, t 62, t 63, t 64, t 65, t 66, t 67, t 68, t 69, t 70] := rfl
set_option maxHeartbeats 32000000 in
theorem goes_c (vp vq vw vc : Value) (n : Nat) (ls : List Lg) (p : Pst) (m : Int) (K0 : Nat) (mp ms : TM) (w : World) (hr : RscAt w vp vq vw vc n ls p m) (hk : RscOk n ls p m) (hK0 : K0 <= 1000) (hp : dsS ls useP mp K0 true (time0 n p.spot)) (hs : dsS ls useS ms K0 true (time0 n p.spot)) :
  Calls Try.prog 17 #[.agg #[.int .i64 (n : Int), vp, vq, vw, vc], .agg #[.int .i64 p.spot, .int .i64 p.lo, .int .i64 p.hi, .int .i64 0, .int .i64 0, .int .i64 0, .slice none 0 0]] w (GoP n (goL mp ms p n) w) := by
 have F1 : Bun w [] w := Bun.nil _
 obtain ⟨⟨lo1, hi1, hl1, hh1⟩, ⟨lo2, hi2, hl2, hh2⟩, ⟨lo3, hi3, hl3, hh3⟩, ⟨lo4, hi4, hl4, hh4⟩⟩ := hr
 have hm_ps := hl1.len
 unfold maxLen at hm_ps
 obtain ⟨a1_, c1_, rfl⟩ := hl1.any
 replace F1 := F1.sl0 hl1 hh1 rfl
 clear hl1
 have hm_po := hl2.len
 unfold maxLen at hm_po
 obtain ⟨a2_, c2_, rfl⟩ := hl2.any
 replace F1 := F1.sl0 hl2 hh2 rfl
 clear hl2
 have hm_wa := hl3.len
 unfold maxLen at hm_wa
 obtain ⟨a3_, c3_, rfl⟩ := hl3.any
 replace F1 := F1.sl0 hl3 hh3 rfl
 clear hl3
 have hm_ch := hl4.len
 unfold maxLen at hm_ch
 obtain ⟨a4_, c4_, rfl⟩ := hl4.any
 replace F1 := F1.sl0 hl4 hh4 rfl
 clear hl4
 rw [show (ws0 n).length = n from List.length_replicate] at F1 hm_wa
 obtain ⟨x6, o7, e_⟩ := Sl.addr (F1.at 2 rfl : Sl poEnc 7 lo2 hi2 _ (.slice a2_ [p].length c2_) [p]) Nat.zero_lt_one
 subst e_
 have hz8 : Hid ([p][0]? = some p) := lhd (rfl)
 obtain ⟨x9, o10, e_⟩ := Sl.addr (F1.at 0 rfl : Sl chEnc 3 lo4 hi4 _ (.slice a4_ [m].length c4_) [m]) Nat.zero_lt_one
 subst e_
 have hz11 : Hid ([m][0]? = some m) := lhd (rfl)
 have HRK := lhd hk
 have hnk_ := hk.nn
 have hlk_ := hk.len
 have hsk_ := hk.spot
 have hrk_ := hk.rdy
 have hmk_ := hk.mm
 clear hk
 have HDP := lhd hp
 have HDS := lhd hs
 clear hp hs
 go_enter Try.func17, Try.ntmps17
 go_wp2_with fail
 replace F1 := F1.new 42 #[.int .i64 (n : Int), .slice a1_ ls.length c1_, .slice (some ⟨x6, o7, none⟩) 1 c2_, .slice a3_ n c3_, .slice (some ⟨x9, o10, none⟩) 1 c4_] (n := w.heap.size) (by simp)
 replace F1 := F1.new 35 #[.int .i64 p.spot, .int .i64 p.lo, .int .i64 p.hi, .int .i64 0, .int .i64 0, .int .i64 0, .slice none 0 0] (n := (w.heap.size + 1)) (by simp)
 have Fn_ := F1
 (try dsimp only [List.eraseIdx_cons_succ, List.eraseIdx_cons_zero] at Fn_)
 obtain ⟨w14, hx15, F17, hxs16⟩ := Fn_.name
 (try simp at hxs16)
 rw [hx15]
 clear hx15 F1 Fn_
 replace F17 := F17.drew
 refine ru_begin (fun W => W.cell? ⟨w.heap.size, 0, none⟩ = some (.int .i64 (n : Int)) /\ W.cell? ⟨w.heap.size, 1, none⟩ = some (.slice a1_ ls.length c1_) /\ W.cell? ⟨w.heap.size, 2, none⟩ = some (.slice (some ⟨x6, o7, none⟩) 1 c2_) /\ W.cell? ⟨w.heap.size, 3, none⟩ = some (.slice a3_ n c3_) /\ W.cell? ⟨w.heap.size, 4, none⟩ = some (.slice (some ⟨x9, o10, none⟩) 1 c4_) /\ W.cell? ⟨(w.heap.size + 1), 0, none⟩ = some (.int .i64 p.spot)) 10 (by kernel_rfl) ?_ ?_
 · exact ⟨F17.q 1 0, F17.q 1 1, F17.q 1 2, F17.q 1 3, F17.q 1 4, F17.q 0 0⟩
 obtain ⟨wd20, hwd_⟩ : ∃ x : World, w14.drew = x := ⟨_, rfl⟩
 rw [hwd_] at F17 ⊢
 have wd20s : w14.heap.size <= wd20.heap.size := by rw [← hwd_]; exact Nat.le_refl _
 clear hwd_
 have hS19 := (And.intro (F17.q 1 0) (And.intro (F17.q 1 1) (And.intro (F17.q 1 2) (And.intro (F17.q 1 3) (And.intro (F17.q 1 4) (F17.q 0 0))))))
 refine ru_t 0 [] ?_
 refine ru_t 1 [] ?_
 refine ru_t 2 [] ?_
 refine ru_t 4 [] ?_
 refine ru_t 5 [] ?_
 refine ru_t 6 [] ?_
 (try simp only [lpX])
 clear hS19
 refine ru_state 71 (fun t w_ => ∃ (bP : Nat) (kP : Nat) (bS : Nat) (kS : Nat) (yg9 : Nat), (timB 400001 n mp) /\ (timB 400001 n ms) /\ t 2 = .pointer (some ⟨w.heap.size, 0, none⟩) /\ t 3 = .pointer (some ⟨w.heap.size + 1, 0, none⟩) /\ t 5 = .slice none 0 0 /\ t 6 = .pointer (some ⟨yg9, 0, none⟩) /\ w14.heap.size <= w_.heap.size /\ Bun w [rbox yg9 82 #[.map (some bP), .map (some bS)], rtim bS kS ms, rtim bP kP mp, rbox (w.heap.size + 1) 35 #[.int .i64 p.spot, .int .i64 p.lo, .int .i64 p.hi, .int .i64 0, .int .i64 0, .int .i64 0, .slice none 0 0], rbox w.heap.size 42 #[.int .i64 (n : Int), .slice a1_ ls.length c1_, .slice (some ⟨x6, o7, none⟩) 1 c2_, .slice a3_ n c3_, .slice (some ⟨x9, o10, none⟩) 1 c4_], rsl chEnc 3 lo4 hi4 (.slice (some ⟨x9, o10, none⟩) 1 c4_) [m], rsl spEnc 2 lo3 hi3 (.slice a3_ n c3_) (ws0 n), rsl poEnc 7 lo2 hi2 (.slice (some ⟨x6, o7, none⟩) 1 c2_) [p], rsl ptEnc 5 lo1 hi1 (.slice a1_ ls.length c1_) ls] w_) #[true, true, true, true, true, true, true, true, true, true, true] 0 ?st21 ?nx21
 case st21 =>
  rintro t w22 ⟨bP, kP, bS, kS, yg9, hfbP, hfbS, e2, e3, e5, e6, hsz21, F23⟩
  clear F17
  rw [rng_goes_c t, e2, e3, e5, e6]
  clear e2 e3 e5 e6
  have hws21 := F23.gb.size
  have yg9l := F23.ltAt 0 rfl yg9 rfl
  have yg9b := yg9l.2 rfl
  refine ru_done (by kernel_rfl) ?_
  obtain ⟨w24, hx25, F27, hxs26⟩ := F23.name
  (try simp at hxs26)
  rw [hx25]
  clear hx25 F23
  have b28 := F27.bx5 4 rfl
  go_wp2_with fail
  clear b28
  replace F27 := F27.nilrow spEnc 31 2
  (skip)
  obtain ⟨HI30_, HI300⟩ : ∃ I : RelT, I = (fun t ds wr => ∃ (k : Nat) (vo : Value) (lo_ : List Sp), t 3 = .pointer (some ⟨w.heap.size + 1, 0, none⟩) /\ t 5 = vo /\ t 6 = .pointer (some ⟨yg9, 0, none⟩) /\ t 22 = .int .i64 (n : Int) /\ t 23 = .int .i64 (k : Int) /\ k <= n /\ lo_.length <= k /\ lo_ = goL mp ms p k /\ ds = [] /\ w24.heap.size <= wr.heap.size /\ Bun w [rown spEnc 31 2 w.heap.size vo lo_, rbox yg9 82 #[.map (some bP), .map (some bS)], rtim bS kS ms, rtim bP kP mp, rbox (w.heap.size + 1) 35 #[.int .i64 p.spot, .int .i64 p.lo, .int .i64 p.hi, .int .i64 0, .int .i64 0, .int .i64 0, .slice none 0 0], rsl chEnc 3 lo4 hi4 (.slice (some ⟨x9, o10, none⟩) 1 c4_) [m], rsl spEnc 2 lo3 hi3 (.slice a3_ n c3_) (ws0 n), rsl poEnc 7 lo2 hi2 (.slice (some ⟨x6, o7, none⟩) 1 c2_) [p], rsl ptEnc 5 lo1 hi1 (.slice a1_ ls.length c1_) ls] wr) := ⟨_, rfl⟩
  have HI30 := lhd HI300
  clear HI300
  refine wp_loopS 71 rfl HI30_ (fun t wr => n - (intOf (t 23)).toNat) ?atStart1 ?round1
  case round1 =>
   intro t ds wr hHid
   rw [HI30.out] at hHid
   obtain ⟨k, vo, lo_, e3, e5, e6, e22, e23, hrel⟩ := hHid
   have e : ((List.range 71).map t).toArray = #[t 0, t 1, t 2, t 3, t 4, t 5, t 6, t 7, t 8, t 9, t 10, t 11, t 12, t 13, t 14, t 15, t 16, t 17, t 18, t 19, t 20, t 21, t 22, t 23, t 24, t 25, t 26, t 27, t 28, t 29, t 30, t 31, t 32, t 33, t 34, t 35, t 36, t 37, t 38, t 39, t 40, t 41, t 42, t 43, t 44, t 45, t 46, t 47, t 48, t 49, t 50, t 51, t 52, t 53, t 54, t 55, t 56, t 57, t 58, t 59, t 60, t 61, t 62, t 63, t 64, t 65, t 66, t 67, t 68, t 69, t 70] := rfl
   (try dsimp only at e)
   rw [e3, e5, e6, e22, e23] at e
   rw [e]
   simp only [e23]
   clear e e3 e5 e6 e22 e23
   obtain ⟨hk, hlen, hlo, rfl, hs32, hF31⟩ := hrel
   clear F27
   obtain ⟨w33, rfl⟩ : ∃ x_ : World, x_ = wr := ⟨_, rfl⟩
   have HLO := lhd hlo
   clear hlo
   by_cases c34 : (k : Int) < (n : Int)
   ·
    have c34H := lhd c34
    go_wp2_with fail
    have F35 := hF31.new 84 #[.int .i64 1000000, .int .i64 1000000] (n := w33.heap.size) (by simp)
    clear hF31
    refine wp_loop_rounds 3 ?_
    rw [rounds_succ]
    rcases hm36 : tget mp (k : Int) with _ | tp37
    ·
     have HM38 := lhd hm36
     clear hm36
     have b39 := F35.bx2 2 rfl
     have b40 := F35.bx7 5 rfl
     have ge41 : _ := TimMap.lookNo (F35.at 4 rfl : TimMap _ bP kP mp) (by omega) HM38.out
     go_wp2_with fail
     clear b39 b40 ge41
     have Fn_ := F35
     (try dsimp only [List.eraseIdx_cons_succ, List.eraseIdx_cons_zero] at Fn_)
     obtain ⟨w42, hx43, F45, hxs44⟩ := Fn_.name
     (try simp at hxs44)
     rw [hx43]
     clear hx43 F35 Fn_
     rw [rounds_succ]
     rcases hm46 : tget ms (k : Int) with _ | tp47
     ·
      have HM48 := lhd hm46
      clear hm46
      have b49 := F45.bx2 2 rfl
      have b50 := F45.bx7 5 rfl
      have ge51 : _ := TimMap.lookNo (F45.at 3 rfl : TimMap _ bS kS ms) (by omega) HM48.out
      go_wp2_with fail
      clear b49 b50 ge51
      rw [rounds_succ]
      have b52 := F45.bx2 0 rfl
      go_wp2_with fail
      clear b52
      refine (span_c 1000000 1000000 _).mono ?_
      rintro e w55 ⟨rfl, hg53⟩
      have hg53s := hg53.size
      (try simp at hg53s)
      replace F45 := F45.gn hg53
      clear hg53
      go_wp2_with (at_builtin; refine wpList_app _ okSp rfl _ _ rfl w.heap.size vo lo_ [(⟨1000000, 1000000⟩ : Sp)] rfl (by exact ((F45.at 1 rfl : Own spEnc 31 2 w.heap.size _ vo lo_)).alloc _) ⟨_, 0, none⟩ 1 1 rfl rfl (by decide) (news_of (Bk.newAt _ _ _ (by simp))) (lo_.length + 1) (by simp) (by omega) (by first | omega | (simp; omega)) _ rfl ?_; intro g57 cap58 w59 hp60; refine Hid.out ?_)
      refine lhd ?_
      have hp60s := hp60.gb.size
      (try simp at hp60s)
      have F61 := ((F45.alloc (.cells #[.int .i64 1000000, .int .i64 1000000] 31)).front 1 rfl rfl).app hp60 (by simp)
      clear F45
      go_wp2_with fail
      have F62 : Bun w [rown spEnc 31 2 w.heap.size (.slice (some ⟨g57, 0, none⟩) (lo_.length + 1) cap58) (lo_ ++ [(⟨1000000, 1000000⟩ : Sp)]), rbox yg9 82 #[.map (some bP), .map (some bS)], rtim bS kS ms, rtim bP kP mp, rbox (w.heap.size + 1) 35 #[.int .i64 p.spot, .int .i64 p.lo, .int .i64 p.hi, .int .i64 0, .int .i64 0, .int .i64 0, .slice none 0 0], rsl chEnc 3 lo4 hi4 (.slice (some ⟨x9, o10, none⟩) 1 c4_) [m], rsl spEnc 2 lo3 hi3 (.slice a3_ n c3_) (ws0 n), rsl poEnc 7 lo2 hi2 (.slice (some ⟨x6, o7, none⟩) 1 c2_) [p], rsl ptEnc 5 lo1 hi1 (.slice a1_ ls.length c1_) ls] _ := F61.pick [0, 2, 3, 4, 5, 6, 7, 8, 9] (by decide) rfl
      clear F61
      (first | refine ⟨by kernel_rfl, ?_, ?_⟩ | refine ⟨rfl, ?_, ?_⟩ | refine ⟨?_, ?_⟩)
      · rw [HI30.out]; exact ⟨k + 1, _, _, (by kernel_rfl), (by kernel_rfl), (by kernel_rfl), (by kernel_rfl), (by show Value.int .i64 ((k : Int) + 1) = _; simp), (by omega), (by simp; omega), (by rw [HLO.out, goL_succ, goE, gmn_no HM38.out, gmn_no HM48.out]), (by first | rfl | simp), (by first | omega | (simp; done) | (simp; omega)), F62⟩
      · simp [slot, intOf]; omega
     have HM63 := lhd hm46
     clear hm46
     have HM63b := hfbS.2 _ _ HM63.out
     have b64 := F45.bx2 2 rfl
     have b65 := F45.bx7 5 rfl
     have ge66 : _ := TimMap.look (F45.at 3 rfl : TimMap _ bS kS ms) (by omega) HM63.out
     go_wp2_with fail
     clear b64 b65 ge66
     refine (endsOf_c p.lo p.hi _).mono ?_
     rintro e w69 ⟨rfl, hg67⟩
     have hg67s := hg67.size
     (try simp at hg67s)
     replace F45 := F45.gn hg67
     clear hg67
     have b71 := F45.bx2 0 rfl
     have ge72 : ∀ w, (Instr.index 84 (.agg #[.int .i64 p.lo, .int .i64 p.hi]) (.int .i64 1)).run Try.prog w = .ok (.int .i64 p.hi) w := fun _ => by kernel_rfl
     go_wp2_with fail
     clear b71 ge72
     have F73 := (F45.set 1 (.int .i64 (p.hi + tp47))).nf #[.int .i64 1000000, .int .i64 (p.hi + tp47)] rfl
     clear F45
     have Fn_ := F73
     (try dsimp only [List.eraseIdx_cons_succ, List.eraseIdx_cons_zero] at Fn_)
     obtain ⟨w74, hx75, F77, hxs76⟩ := Fn_.name
     (try simp at hxs76)
     rw [hx75]
     clear hx75 F73 Fn_
     rw [rounds_succ]
     have b78 := F77.bx2 0 rfl
     go_wp2_with fail
     clear b78
     refine (span_c 1000000 (p.hi + tp47) _).mono ?_
     rintro e w81 ⟨rfl, hg79⟩
     have hg79s := hg79.size
     (try simp at hg79s)
     replace F77 := F77.gn hg79
     clear hg79
     go_wp2_with (at_builtin; refine wpList_app _ okSp rfl _ _ rfl w.heap.size vo lo_ [(⟨1000000, p.hi + tp47⟩ : Sp)] rfl (by exact ((F77.at 1 rfl : Own spEnc 31 2 w.heap.size _ vo lo_)).alloc _) ⟨_, 0, none⟩ 1 1 rfl rfl (by decide) (news_of (Bk.newAt _ _ _ (by simp))) (lo_.length + 1) (by simp) (by omega) (by first | omega | (simp; omega)) _ rfl ?_; intro g83 cap84 w85 hp86; refine Hid.out ?_)
     refine lhd ?_
     have hp86s := hp86.gb.size
     (try simp at hp86s)
     have F87 := ((F77.alloc (.cells #[.int .i64 1000000, .int .i64 (p.hi + tp47)] 31)).front 1 rfl rfl).app hp86 (by simp)
     clear F77
     go_wp2_with fail
     have F88 : Bun w [rown spEnc 31 2 w.heap.size (.slice (some ⟨g83, 0, none⟩) (lo_.length + 1) cap84) (lo_ ++ [(⟨1000000, p.hi + tp47⟩ : Sp)]), rbox yg9 82 #[.map (some bP), .map (some bS)], rtim bS kS ms, rtim bP kP mp, rbox (w.heap.size + 1) 35 #[.int .i64 p.spot, .int .i64 p.lo, .int .i64 p.hi, .int .i64 0, .int .i64 0, .int .i64 0, .slice none 0 0], rsl chEnc 3 lo4 hi4 (.slice (some ⟨x9, o10, none⟩) 1 c4_) [m], rsl spEnc 2 lo3 hi3 (.slice a3_ n c3_) (ws0 n), rsl poEnc 7 lo2 hi2 (.slice (some ⟨x6, o7, none⟩) 1 c2_) [p], rsl ptEnc 5 lo1 hi1 (.slice a1_ ls.length c1_) ls] _ := F87.pick [0, 2, 3, 4, 5, 6, 7, 8, 9] (by decide) rfl
     clear F87
     (first | refine ⟨by kernel_rfl, ?_, ?_⟩ | refine ⟨rfl, ?_, ?_⟩ | refine ⟨?_, ?_⟩)
     · rw [HI30.out]; exact ⟨k + 1, _, _, (by kernel_rfl), (by kernel_rfl), (by kernel_rfl), (by kernel_rfl), (by show Value.int .i64 ((k : Int) + 1) = _; simp), (by omega), (by simp; omega), (by rw [HLO.out, goL_succ, goE, gmn_no HM38.out, gmn_yes HM63.out]), (by first | rfl | simp), (by first | omega | (simp; done) | (simp; omega)), F88⟩
     · simp [slot, intOf]; omega
    have HM89 := lhd hm36
    clear hm36
    have HM89b := hfbP.2 _ _ HM89.out
    have b90 := F35.bx2 2 rfl
    have b91 := F35.bx7 5 rfl
    have ge92 : _ := TimMap.look (F35.at 4 rfl : TimMap _ bP kP mp) (by omega) HM89.out
    go_wp2_with fail
    clear b90 b91 ge92
    refine (endsOf_c p.lo p.hi _).mono ?_
    rintro e w95 ⟨rfl, hg93⟩
    have hg93s := hg93.size
    (try simp at hg93s)
    replace F35 := F35.gn hg93
    clear hg93
    have b97 := F35.bx2 0 rfl
    have ge98 : ∀ w, (Instr.index 84 (.agg #[.int .i64 p.lo, .int .i64 p.hi]) (.int .i64 0)).run Try.prog w = .ok (.int .i64 p.lo) w := fun _ => by kernel_rfl
    go_wp2_with fail
    clear b97 ge98
    have F99 := (F35.set 0 (.int .i64 (p.lo + tp37))).nf #[.int .i64 (p.lo + tp37), .int .i64 1000000] rfl
    clear F35
    have Fn_ := F99
    (try dsimp only [List.eraseIdx_cons_succ, List.eraseIdx_cons_zero] at Fn_)
    obtain ⟨w100, hx101, F103, hxs102⟩ := Fn_.name
    (try simp at hxs102)
    rw [hx101]
    clear hx101 F99 Fn_
    rw [rounds_succ]
    rcases hm104 : tget ms (k : Int) with _ | tp105
    ·
     have HM106 := lhd hm104
     clear hm104
     have b107 := F103.bx2 2 rfl
     have b108 := F103.bx7 5 rfl
     have ge109 : _ := TimMap.lookNo (F103.at 3 rfl : TimMap _ bS kS ms) (by omega) HM106.out
     go_wp2_with fail
     clear b107 b108 ge109
     rw [rounds_succ]
     have b110 := F103.bx2 0 rfl
     go_wp2_with fail
     clear b110
     refine (span_c (p.lo + tp37) 1000000 _).mono ?_
     rintro e w113 ⟨rfl, hg111⟩
     have hg111s := hg111.size
     (try simp at hg111s)
     replace F103 := F103.gn hg111
     clear hg111
     go_wp2_with (at_builtin; refine wpList_app _ okSp rfl _ _ rfl w.heap.size vo lo_ [(⟨p.lo + tp37, 1000000⟩ : Sp)] rfl (by exact ((F103.at 1 rfl : Own spEnc 31 2 w.heap.size _ vo lo_)).alloc _) ⟨_, 0, none⟩ 1 1 rfl rfl (by decide) (news_of (Bk.newAt _ _ _ (by simp))) (lo_.length + 1) (by simp) (by omega) (by first | omega | (simp; omega)) _ rfl ?_; intro g115 cap116 w117 hp118; refine Hid.out ?_)
     refine lhd ?_
     have hp118s := hp118.gb.size
     (try simp at hp118s)
     have F119 := ((F103.alloc (.cells #[.int .i64 (p.lo + tp37), .int .i64 1000000] 31)).front 1 rfl rfl).app hp118 (by simp)
     clear F103
     go_wp2_with fail
     have F120 : Bun w [rown spEnc 31 2 w.heap.size (.slice (some ⟨g115, 0, none⟩) (lo_.length + 1) cap116) (lo_ ++ [(⟨p.lo + tp37, 1000000⟩ : Sp)]), rbox yg9 82 #[.map (some bP), .map (some bS)], rtim bS kS ms, rtim bP kP mp, rbox (w.heap.size + 1) 35 #[.int .i64 p.spot, .int .i64 p.lo, .int .i64 p.hi, .int .i64 0, .int .i64 0, .int .i64 0, .slice none 0 0], rsl chEnc 3 lo4 hi4 (.slice (some ⟨x9, o10, none⟩) 1 c4_) [m], rsl spEnc 2 lo3 hi3 (.slice a3_ n c3_) (ws0 n), rsl poEnc 7 lo2 hi2 (.slice (some ⟨x6, o7, none⟩) 1 c2_) [p], rsl ptEnc 5 lo1 hi1 (.slice a1_ ls.length c1_) ls] _ := F119.pick [0, 2, 3, 4, 5, 6, 7, 8, 9] (by decide) rfl
     clear F119
     (first | refine ⟨by kernel_rfl, ?_, ?_⟩ | refine ⟨rfl, ?_, ?_⟩ | refine ⟨?_, ?_⟩)
     · rw [HI30.out]; exact ⟨k + 1, _, _, (by kernel_rfl), (by kernel_rfl), (by kernel_rfl), (by kernel_rfl), (by show Value.int .i64 ((k : Int) + 1) = _; simp), (by omega), (by simp; omega), (by rw [HLO.out, goL_succ, goE, gmn_yes HM89.out, gmn_no HM106.out]), (by first | rfl | simp), (by first | omega | (simp; done) | (simp; omega)), F120⟩
     · simp [slot, intOf]; omega
    have HM121 := lhd hm104
    clear hm104
    have HM121b := hfbS.2 _ _ HM121.out
    have b122 := F103.bx2 2 rfl
    have b123 := F103.bx7 5 rfl
    have ge124 : _ := TimMap.look (F103.at 3 rfl : TimMap _ bS kS ms) (by omega) HM121.out
    go_wp2_with fail
    clear b122 b123 ge124
    refine (endsOf_c p.lo p.hi _).mono ?_
    rintro e w127 ⟨rfl, hg125⟩
    have hg125s := hg125.size
    (try simp at hg125s)
    replace F103 := F103.gn hg125
    clear hg125
    have b129 := F103.bx2 0 rfl
    have ge130 : ∀ w, (Instr.index 84 (.agg #[.int .i64 p.lo, .int .i64 p.hi]) (.int .i64 1)).run Try.prog w = .ok (.int .i64 p.hi) w := fun _ => by kernel_rfl
    go_wp2_with fail
    clear b129 ge130
    have F131 := (F103.set 1 (.int .i64 (p.hi + tp105))).nf #[.int .i64 (p.lo + tp37), .int .i64 (p.hi + tp105)] rfl
    clear F103
    have Fn_ := F131
    (try dsimp only [List.eraseIdx_cons_succ, List.eraseIdx_cons_zero] at Fn_)
    obtain ⟨w132, hx133, F135, hxs134⟩ := Fn_.name
    (try simp at hxs134)
    rw [hx133]
    clear hx133 F131 Fn_
    rw [rounds_succ]
    have b136 := F135.bx2 0 rfl
    go_wp2_with fail
    clear b136
    refine (span_c (p.lo + tp37) (p.hi + tp105) _).mono ?_
    rintro e w139 ⟨rfl, hg137⟩
    have hg137s := hg137.size
    (try simp at hg137s)
    replace F135 := F135.gn hg137
    clear hg137
    go_wp2_with (at_builtin; refine wpList_app _ okSp rfl _ _ rfl w.heap.size vo lo_ [(⟨p.lo + tp37, p.hi + tp105⟩ : Sp)] rfl (by exact ((F135.at 1 rfl : Own spEnc 31 2 w.heap.size _ vo lo_)).alloc _) ⟨_, 0, none⟩ 1 1 rfl rfl (by decide) (news_of (Bk.newAt _ _ _ (by simp))) (lo_.length + 1) (by simp) (by omega) (by first | omega | (simp; omega)) _ rfl ?_; intro g141 cap142 w143 hp144; refine Hid.out ?_)
    refine lhd ?_
    have hp144s := hp144.gb.size
    (try simp at hp144s)
    have F145 := ((F135.alloc (.cells #[.int .i64 (p.lo + tp37), .int .i64 (p.hi + tp105)] 31)).front 1 rfl rfl).app hp144 (by simp)
    clear F135
    go_wp2_with fail
    have F146 : Bun w [rown spEnc 31 2 w.heap.size (.slice (some ⟨g141, 0, none⟩) (lo_.length + 1) cap142) (lo_ ++ [(⟨p.lo + tp37, p.hi + tp105⟩ : Sp)]), rbox yg9 82 #[.map (some bP), .map (some bS)], rtim bS kS ms, rtim bP kP mp, rbox (w.heap.size + 1) 35 #[.int .i64 p.spot, .int .i64 p.lo, .int .i64 p.hi, .int .i64 0, .int .i64 0, .int .i64 0, .slice none 0 0], rsl chEnc 3 lo4 hi4 (.slice (some ⟨x9, o10, none⟩) 1 c4_) [m], rsl spEnc 2 lo3 hi3 (.slice a3_ n c3_) (ws0 n), rsl poEnc 7 lo2 hi2 (.slice (some ⟨x6, o7, none⟩) 1 c2_) [p], rsl ptEnc 5 lo1 hi1 (.slice a1_ ls.length c1_) ls] _ := F145.pick [0, 2, 3, 4, 5, 6, 7, 8, 9] (by decide) rfl
    clear F145
    (first | refine ⟨by kernel_rfl, ?_, ?_⟩ | refine ⟨rfl, ?_, ?_⟩ | refine ⟨?_, ?_⟩)
    · rw [HI30.out]; exact ⟨k + 1, _, _, (by kernel_rfl), (by kernel_rfl), (by kernel_rfl), (by kernel_rfl), (by show Value.int .i64 ((k : Int) + 1) = _; simp), (by omega), (by simp; omega), (by rw [HLO.out, goL_succ, goE, gmn_yes HM89.out, gmn_yes HM121.out]), (by first | rfl | simp), (by first | omega | (simp; done) | (simp; omega)), F146⟩
    · simp [slot, intOf]; omega
   have c34H := lhd c34
   have c34a : decide ((k : Int) < (n : Int)) = false := dec_f c34
   go_wp2_with fail
   exact bodyPost_ret (v := vo) (by simp [results, Try.results17, go_sem]) rfl ((GoP.of (by rw [HLO.out, show k = n by omega]) (goL_len mp ms p n) (hF31.at 0 rfl : Own spEnc 31 2 w.heap.size _ vo lo_) hF31.gb))
  case atStart1 =>
   rw [HI30.out]
   exact ⟨0, _, [], (by kernel_rfl), rfl, (by kernel_rfl), (by kernel_rfl), rfl, Nat.zero_le _, Nat.le_refl _, rfl, rfl, (by first | exact Nat.le_refl _ | omega | (simp; done) | (simp; omega)), (F27.drop 5 rfl)⟩
 intro hZ21
 refine ru_state 71 (fun t w_ => ∃ (bP : Nat) (kP : Nat) (bS : Nat) (kS : Nat) (yg9 : Nat), (timB 400001 n mp) /\ (timB 400001 n ms) /\ t 2 = .pointer (some ⟨w.heap.size, 0, none⟩) /\ t 3 = .pointer (some ⟨w.heap.size + 1, 0, none⟩) /\ t 5 = .slice none 0 0 /\ t 6 = .pointer (some ⟨yg9, 0, none⟩) /\ t 20 = .agg #[.map (some bP), .map (some bS)] /\ w14.heap.size <= w_.heap.size /\ Bun w [rbox yg9 82 #[.map none, .map none], rtim bS kS ms, rtim bP kP mp, rbox (w.heap.size + 1) 35 #[.int .i64 p.spot, .int .i64 p.lo, .int .i64 p.hi, .int .i64 0, .int .i64 0, .int .i64 0, .slice none 0 0], rbox w.heap.size 42 #[.int .i64 (n : Int), .slice a1_ ls.length c1_, .slice (some ⟨x6, o7, none⟩) 1 c2_, .slice a3_ n c3_, .slice (some ⟨x9, o10, none⟩) 1 c4_], rsl chEnc 3 lo4 hi4 (.slice (some ⟨x9, o10, none⟩) 1 c4_) [m], rsl spEnc 2 lo3 hi3 (.slice a3_ n c3_) (ws0 n), rsl poEnc 7 lo2 hi2 (.slice (some ⟨x6, o7, none⟩) 1 c2_) [p], rsl ptEnc 5 lo1 hi1 (.slice a1_ ls.length c1_) ls] w_) #[true, true, true, true, true, true, true, true, true, true, false] 1 ?st147 ?nx147
 case st147 =>
  rintro t w148 ⟨bP, kP, bS, kS, yg9, hfbP, hfbS, e2, e3, e5, e6, e20, hsz147, F149⟩
  clear F17
  rw [rng_goes_c t, e2, e3, e5, e6, e20]
  clear e2 e3 e5 e6 e20
  have hws147 := F149.gb.size
  have yg9l := F149.ltAt 0 rfl yg9 rfl
  have yg9b := yg9l.2 rfl
  refine ru_one 10 rfl (by kernel_rfl) (fun K hK => ?_)
  have kb_ := F149.bx2 0 rfl
  go_simp
  clear kb_
  replace F149 := F149.pt2 (.map (some bP)) (.map (some bS))
  refine ru_back_late hK (by kernel_rfl) ?_
  exact hZ21.out _ _ _ (by kernel_rfl) (by kernel_rfl) rfl ⟨bP, kP, bS, kS, yg9, hfbP, hfbS, (by kernel_rfl), (by kernel_rfl), (by kernel_rfl), (by kernel_rfl), (by first | omega | (simp; done) | (simp; omega)), F149⟩
 intro hZ147
 refine ru_state 71 (fun t w_ => ∃ (bP : Nat) (kP : Nat) (bS : Nat) (kS : Nat), (timB 400001 n mp) /\ (timB 400001 n ms) /\ t 2 = .pointer (some ⟨w.heap.size, 0, none⟩) /\ t 3 = .pointer (some ⟨w.heap.size + 1, 0, none⟩) /\ t 5 = .slice none 0 0 /\ t 20 = .agg #[.map (some bP), .map (some bS)] /\ w14.heap.size <= w_.heap.size /\ Bun w [rtim bS kS ms, rtim bP kP mp, rbox (w.heap.size + 1) 35 #[.int .i64 p.spot, .int .i64 p.lo, .int .i64 p.hi, .int .i64 0, .int .i64 0, .int .i64 0, .slice none 0 0], rbox w.heap.size 42 #[.int .i64 (n : Int), .slice a1_ ls.length c1_, .slice (some ⟨x6, o7, none⟩) 1 c2_, .slice a3_ n c3_, .slice (some ⟨x9, o10, none⟩) 1 c4_], rsl chEnc 3 lo4 hi4 (.slice (some ⟨x9, o10, none⟩) 1 c4_) [m], rsl spEnc 2 lo3 hi3 (.slice a3_ n c3_) (ws0 n), rsl poEnc 7 lo2 hi2 (.slice (some ⟨x6, o7, none⟩) 1 c2_) [p], rsl ptEnc 5 lo1 hi1 (.slice a1_ ls.length c1_) ls] w_) #[true, true, true, true, true, true, true, true, true, false, false] 2 ?st151 ?nx151
 case st151 =>
  rintro t w152 ⟨bP, kP, bS, kS, hfbP, hfbS, e2, e3, e5, e20, hsz151, F153⟩
  clear F17
  rw [rng_goes_c t, e2, e3, e5, e20]
  clear e2 e3 e5 e20
  have hws151 := F153.gb.size
  refine ru_one 9 rfl (by kernel_rfl) (fun K hK => ?_)
  go_simp
  replace F153 := F153.new 82 #[.map none, .map none] (n := w152.heap.size) (by simp)
  refine ru_back hK (by exact ⟨F153.q 4 0, F153.q 4 1, F153.q 4 2, F153.q 4 3, F153.q 4 4, F153.q 3 0⟩) (fun _ => ?_)
  exact hZ147.out _ _ _ (by kernel_rfl) (by kernel_rfl) rfl ⟨bP, kP, bS, kS, w152.heap.size, hfbP, hfbS, by (iterate 5 refine ⟨by kernel_rfl, ?_⟩); exact ⟨(by first | omega | (simp; done) | (simp; omega)), F153⟩⟩
 intro hZ151
 refine ru_state 71 (fun t w_ => ∃ (bP : Nat) (kP : Nat) (yg9 : Nat), (timB 400001 n mp) /\ t 2 = .pointer (some ⟨w.heap.size, 0, none⟩) /\ t 3 = .pointer (some ⟨w.heap.size + 1, 0, none⟩) /\ t 5 = .slice none 0 0 /\ t 6 = .pointer (some ⟨yg9, 0, none⟩) /\ t 15 = .map (some bP) /\ t 16 = .agg #[.int .i64 (n : Int), .slice a1_ ls.length c1_, .slice (some ⟨x6, o7, none⟩) 1 c2_, .slice a3_ n c3_, .slice (some ⟨x9, o10, none⟩) 1 c4_] /\ t 18 = .int .i64 p.spot /\ w14.heap.size <= w_.heap.size /\ Bun w [rbox yg9 82 #[.map none, .map none], rtim bP kP mp, rbox (w.heap.size + 1) 35 #[.int .i64 p.spot, .int .i64 p.lo, .int .i64 p.hi, .int .i64 0, .int .i64 0, .int .i64 0, .slice none 0 0], rbox w.heap.size 42 #[.int .i64 (n : Int), .slice a1_ ls.length c1_, .slice (some ⟨x6, o7, none⟩) 1 c2_, .slice a3_ n c3_, .slice (some ⟨x9, o10, none⟩) 1 c4_], rsl chEnc 3 lo4 hi4 (.slice (some ⟨x9, o10, none⟩) 1 c4_) [m], rsl spEnc 2 lo3 hi3 (.slice a3_ n c3_) (ws0 n), rsl poEnc 7 lo2 hi2 (.slice (some ⟨x6, o7, none⟩) 1 c2_) [p], rsl ptEnc 5 lo1 hi1 (.slice a1_ ls.length c1_) ls] w_) #[true, true, true, true, true, true, true, false, false, true, false] 3 ?st155 ?nx155
 case st155 =>
  rintro t w156 ⟨bP, kP, yg9, hfbP, e2, e3, e5, e6, e15, e16, e18, hsz155, F157⟩
  clear F17
  rw [rng_goes_c t, e2, e3, e5, e6, e15, e16, e18]
  clear e2 e3 e5 e6 e15 e16 e18
  have hws155 := F157.gb.size
  have yg9l := F157.ltAt 0 rfl yg9 rfl
  have yg9b := yg9l.2 rfl
  refine ru_one 7 rfl (by kernel_rfl) (fun K hK => ?_)
  go_simp
  refine (drivesS_c _ _ _ _ n ls p m p.spot K0 ms _ ⟨⟨_, _, (F157.at 7 rfl : Sl ptEnc 5 lo1 hi1 _ (.slice a1_ ls.length c1_) ls), (Nat.le_trans hh1 F157.gb.size)⟩, ⟨_, _, (F157.at 6 rfl : Sl poEnc 7 lo2 hi2 _ (.slice (some ⟨x6, o7, none⟩) 1 c2_) [p]), (Nat.le_trans hh2 F157.gb.size)⟩, ⟨_, _, (F157.at 5 rfl : Sl spEnc 2 lo3 hi3 _ (.slice a3_ n c3_) (ws0 n)), (Nat.le_trans hh3 F157.gb.size)⟩, ⟨_, _, (F157.at 4 rfl : Sl chEnc 3 lo4 hi4 _ (.slice (some ⟨x9, o10, none⟩) 1 c4_) [m]), (Nat.le_trans hh4 F157.gb.size)⟩⟩ HRK.out hsk_ hK0 HDS.out).mono ?_
  rintro e w160 ⟨bS, kS, rfl, hbbS, hfmS, hfbS, hg158⟩
  have hg158s := hg158.size
  (try simp at hg158s)
  replace F157 := F157.add (rtim bS kS ms) hg158 (hfmS) (fun g e => by cases e; exact ⟨hbbS, hfmS.lt⟩)
  refine ru_back hK (by exact ⟨F157.q 4 0, F157.q 4 1, F157.q 4 2, F157.q 4 3, F157.q 4 4, F157.q 3 0⟩) (fun _ => ?_)
  clear hK K
  (try simp only [lpX])
  refine ru_p 8 ?_
  (try simp only [lpX])
  exact hZ147.out _ _ _ (by kernel_rfl) (by kernel_rfl) rfl ⟨bP, kP, bS, kS, yg9, hfbP, hfbS, by (iterate 5 refine ⟨by kernel_rfl, ?_⟩); exact ⟨(by first | omega | (simp; done) | (simp; omega)), (F157.pick [1, 0, 2, 3, 4, 5, 6, 7, 8] (by decide) rfl)⟩⟩
 intro hZ155
 refine ru_state 71 (fun t w_ => ∃ (bP : Nat) (kP : Nat), (timB 400001 n mp) /\ t 2 = .pointer (some ⟨w.heap.size, 0, none⟩) /\ t 3 = .pointer (some ⟨w.heap.size + 1, 0, none⟩) /\ t 5 = .slice none 0 0 /\ t 15 = .map (some bP) /\ t 16 = .agg #[.int .i64 (n : Int), .slice a1_ ls.length c1_, .slice (some ⟨x6, o7, none⟩) 1 c2_, .slice a3_ n c3_, .slice (some ⟨x9, o10, none⟩) 1 c4_] /\ t 18 = .int .i64 p.spot /\ w14.heap.size <= w_.heap.size /\ Bun w [rtim bP kP mp, rbox (w.heap.size + 1) 35 #[.int .i64 p.spot, .int .i64 p.lo, .int .i64 p.hi, .int .i64 0, .int .i64 0, .int .i64 0, .slice none 0 0], rbox w.heap.size 42 #[.int .i64 (n : Int), .slice a1_ ls.length c1_, .slice (some ⟨x6, o7, none⟩) 1 c2_, .slice a3_ n c3_, .slice (some ⟨x9, o10, none⟩) 1 c4_], rsl chEnc 3 lo4 hi4 (.slice (some ⟨x9, o10, none⟩) 1 c4_) [m], rsl spEnc 2 lo3 hi3 (.slice a3_ n c3_) (ws0 n), rsl poEnc 7 lo2 hi2 (.slice (some ⟨x6, o7, none⟩) 1 c2_) [p], rsl ptEnc 5 lo1 hi1 (.slice a1_ ls.length c1_) ls] w_) #[true, true, true, true, true, true, true, false, false, false, false] 4 ?st162 ?nx162
 case st162 =>
  rintro t w163 ⟨bP, kP, hfbP, e2, e3, e5, e15, e16, e18, hsz162, F164⟩
  clear F17
  rw [rng_goes_c t, e2, e3, e5, e15, e16, e18]
  clear e2 e3 e5 e15 e16 e18
  have hws162 := F164.gb.size
  refine ru_two 7 9 rfl rfl (by kernel_rfl) ?_ ?_
  ·
   intro K hK
   go_simp
   refine (drivesS_c _ _ _ _ n ls p m p.spot K0 ms _ ⟨⟨_, _, (F164.at 6 rfl : Sl ptEnc 5 lo1 hi1 _ (.slice a1_ ls.length c1_) ls), (Nat.le_trans hh1 F164.gb.size)⟩, ⟨_, _, (F164.at 5 rfl : Sl poEnc 7 lo2 hi2 _ (.slice (some ⟨x6, o7, none⟩) 1 c2_) [p]), (Nat.le_trans hh2 F164.gb.size)⟩, ⟨_, _, (F164.at 4 rfl : Sl spEnc 2 lo3 hi3 _ (.slice a3_ n c3_) (ws0 n)), (Nat.le_trans hh3 F164.gb.size)⟩, ⟨_, _, (F164.at 3 rfl : Sl chEnc 3 lo4 hi4 _ (.slice (some ⟨x9, o10, none⟩) 1 c4_) [m]), (Nat.le_trans hh4 F164.gb.size)⟩⟩ HRK.out hsk_ hK0 HDS.out).mono ?_
   rintro e w167 ⟨bS, kS, rfl, hbbS, hfmS, hfbS, hg165⟩
   have hg165s := hg165.size
   (try simp at hg165s)
   replace F164 := F164.add (rtim bS kS ms) hg165 (hfmS) (fun g e => by cases e; exact ⟨hbbS, hfmS.lt⟩)
   refine ru_back hK (by exact ⟨F164.q 3 0, F164.q 3 1, F164.q 3 2, F164.q 3 3, F164.q 3 4, F164.q 2 0⟩) (fun _ => ?_)
   clear hK K
   (try simp only [lpX])
   refine ru_p 8 ?_
   (try simp only [lpX])
   exact hZ151.out _ _ _ (by kernel_rfl) (by kernel_rfl) rfl ⟨bP, kP, bS, kS, hfbP, hfbS, (by kernel_rfl), (by kernel_rfl), (by kernel_rfl), (by kernel_rfl), (by first | omega | (simp; done) | (simp; omega)), F164⟩
  intro K hK
  go_simp
  replace F164 := F164.new 82 #[.map none, .map none] (n := w163.heap.size) (by simp)
  refine ru_back hK (by exact ⟨F164.q 3 0, F164.q 3 1, F164.q 3 2, F164.q 3 3, F164.q 3 4, F164.q 2 0⟩) (fun _ => ?_)
  exact hZ155.out _ _ _ (by kernel_rfl) (by kernel_rfl) rfl ⟨bP, kP, w163.heap.size, hfbP, by (iterate 7 refine ⟨by kernel_rfl, ?_⟩); exact ⟨(by first | omega | (simp; done) | (simp; omega)), F164⟩⟩
 intro hZ162
 refine ru_state 71 (fun t w_ => ∃ (yg9 : Nat), t 2 = .pointer (some ⟨w.heap.size, 0, none⟩) /\ t 3 = .pointer (some ⟨w.heap.size + 1, 0, none⟩) /\ t 5 = .slice none 0 0 /\ t 6 = .pointer (some ⟨yg9, 0, none⟩) /\ t 12 = .agg #[.int .i64 (n : Int), .slice a1_ ls.length c1_, .slice (some ⟨x6, o7, none⟩) 1 c2_, .slice a3_ n c3_, .slice (some ⟨x9, o10, none⟩) 1 c4_] /\ t 14 = .int .i64 p.spot /\ t 16 = .agg #[.int .i64 (n : Int), .slice a1_ ls.length c1_, .slice (some ⟨x6, o7, none⟩) 1 c2_, .slice a3_ n c3_, .slice (some ⟨x9, o10, none⟩) 1 c4_] /\ t 18 = .int .i64 p.spot /\ w14.heap.size <= w_.heap.size /\ Bun w [rbox yg9 82 #[.map none, .map none], rbox (w.heap.size + 1) 35 #[.int .i64 p.spot, .int .i64 p.lo, .int .i64 p.hi, .int .i64 0, .int .i64 0, .int .i64 0, .slice none 0 0], rbox w.heap.size 42 #[.int .i64 (n : Int), .slice a1_ ls.length c1_, .slice (some ⟨x6, o7, none⟩) 1 c2_, .slice a3_ n c3_, .slice (some ⟨x9, o10, none⟩) 1 c4_], rsl chEnc 3 lo4 hi4 (.slice (some ⟨x9, o10, none⟩) 1 c4_) [m], rsl spEnc 2 lo3 hi3 (.slice a3_ n c3_) (ws0 n), rsl poEnc 7 lo2 hi2 (.slice (some ⟨x6, o7, none⟩) 1 c2_) [p], rsl ptEnc 5 lo1 hi1 (.slice a1_ ls.length c1_) ls] w_) #[true, true, true, false, true, true, true, false, false, true, false] 4 ?st170 ?nx170
 case st170 =>
  rintro t w171 ⟨yg9, e2, e3, e5, e6, e12, e14, e16, e18, hsz170, F172⟩
  clear F17
  rw [rng_goes_c t, e2, e3, e5, e6, e12, e14, e16, e18]
  clear e2 e3 e5 e6 e12 e14 e16 e18
  have hws170 := F172.gb.size
  have yg9l := F172.ltAt 0 rfl yg9 rfl
  have yg9b := yg9l.2 rfl
  refine ru_one 3 rfl (by kernel_rfl) (fun K hK => ?_)
  go_simp
  refine (drivesP_c _ _ _ _ n ls p m p.spot K0 mp _ ⟨⟨_, _, (F172.at 6 rfl : Sl ptEnc 5 lo1 hi1 _ (.slice a1_ ls.length c1_) ls), (Nat.le_trans hh1 F172.gb.size)⟩, ⟨_, _, (F172.at 5 rfl : Sl poEnc 7 lo2 hi2 _ (.slice (some ⟨x6, o7, none⟩) 1 c2_) [p]), (Nat.le_trans hh2 F172.gb.size)⟩, ⟨_, _, (F172.at 4 rfl : Sl spEnc 2 lo3 hi3 _ (.slice a3_ n c3_) (ws0 n)), (Nat.le_trans hh3 F172.gb.size)⟩, ⟨_, _, (F172.at 3 rfl : Sl chEnc 3 lo4 hi4 _ (.slice (some ⟨x9, o10, none⟩) 1 c4_) [m]), (Nat.le_trans hh4 F172.gb.size)⟩⟩ HRK.out hsk_ hK0 HDP.out).mono ?_
  rintro e w175 ⟨bP, kP, rfl, hbbP, hfmP, hfbP, hg173⟩
  have hg173s := hg173.size
  (try simp at hg173s)
  replace F172 := F172.add (rtim bP kP mp) hg173 (hfmP) (fun g e => by cases e; exact ⟨hbbP, hfmP.lt⟩)
  refine ru_back hK (by exact ⟨F172.q 3 0, F172.q 3 1, F172.q 3 2, F172.q 3 3, F172.q 3 4, F172.q 2 0⟩) (fun _ => ?_)
  exact hZ155.out _ _ _ (by kernel_rfl) (by kernel_rfl) rfl ⟨bP, kP, yg9, hfbP, by (iterate 7 refine ⟨by kernel_rfl, ?_⟩); exact ⟨(by first | omega | (simp; done) | (simp; omega)), (F172.pick [1, 0, 2, 3, 4, 5, 6, 7] (by decide) rfl)⟩⟩
 intro hZ170
 refine ru_two 3 9 rfl rfl (by kernel_rfl) ?_ ?_
 ·
  intro K hK
  go_simp
  refine (drivesP_c _ _ _ _ n ls p m p.spot K0 mp _ ⟨⟨_, _, (F17.at 5 rfl : Sl ptEnc 5 lo1 hi1 _ (.slice a1_ ls.length c1_) ls), (Nat.le_trans hh1 F17.gb.size)⟩, ⟨_, _, (F17.at 4 rfl : Sl poEnc 7 lo2 hi2 _ (.slice (some ⟨x6, o7, none⟩) 1 c2_) [p]), (Nat.le_trans hh2 F17.gb.size)⟩, ⟨_, _, (F17.at 3 rfl : Sl spEnc 2 lo3 hi3 _ (.slice a3_ n c3_) (ws0 n)), (Nat.le_trans hh3 F17.gb.size)⟩, ⟨_, _, (F17.at 2 rfl : Sl chEnc 3 lo4 hi4 _ (.slice (some ⟨x9, o10, none⟩) 1 c4_) [m]), (Nat.le_trans hh4 F17.gb.size)⟩⟩ HRK.out hsk_ hK0 HDP.out).mono ?_
  rintro e w179 ⟨bP, kP, rfl, hbbP, hfmP, hfbP, hg177⟩
  have hg177s := hg177.size
  (try simp at hg177s)
  replace F17 := F17.add (rtim bP kP mp) hg177 (hfmP) (fun g e => by cases e; exact ⟨hbbP, hfmP.lt⟩)
  refine ru_back hK (by exact ⟨F17.q 2 0, F17.q 2 1, F17.q 2 2, F17.q 2 3, F17.q 2 4, F17.q 1 0⟩) (fun _ => ?_)
  exact hZ162.out _ _ _ (by kernel_rfl) (by kernel_rfl) rfl ⟨bP, kP, hfbP, by (iterate 6 refine ⟨by kernel_rfl, ?_⟩); exact ⟨(by first | omega | (simp; done) | (simp; omega)), F17⟩⟩
 intro K hK
 go_simp
 replace F17 := F17.new 82 #[.map none, .map none] (n := wd20.heap.size) (by simp)
 refine ru_back hK (by exact ⟨F17.q 2 0, F17.q 2 1, F17.q 2 2, F17.q 2 3, F17.q 2 4, F17.q 1 0⟩) (fun _ => ?_)
 exact hZ170.out _ _ _ (by kernel_rfl) (by kernel_rfl) rfl ⟨wd20.heap.size, by (iterate 8 refine ⟨by kernel_rfl, ?_⟩); exact ⟨(by first | omega | (simp; done) | (simp; omega)), F17⟩⟩
def GoQ (n : Nat) (l : List Sp) (w : World) : Ending -> World -> Prop := fun e w' => ∃ (a : Option Addr) (c lo hi : Nat), e = .returned (.tuple #[.slice a n c, .int .i64 0]) /\ (w.heap.size <= lo /\ hi <= w'.heap.size) /\ Sl spEnc 2 lo hi w' (.slice a n c) l /\ w.grownBy w' none
set_option maxHeartbeats 16000000 in
theorem rgo_c (vp vq vw vc : Value) (n : Nat) (ls : List Lg) (p : Pst) (m : Int) (K0 : Nat) (mp ms : TM) (w : World) (hr : RscAt w vp vq vw vc n ls p m) (hk : RscOk n ls p m) (hK0 : K0 <= 1000) (hp : dsS ls useP mp K0 true (time0 n p.spot)) (hs : dsS ls useS ms K0 true (time0 n p.spot)) :
  Calls Try.prog 8 #[.agg #[.int .i64 (n : Int), vp, vq, vw, vc], .int .i64 0] w (GoQ n (goL mp ms p n) w) := by
 have F1 : Bun w [] w := Bun.nil _
 obtain ⟨⟨lo1, hi1, hl1, hh1⟩, ⟨lo2, hi2, hl2, hh2⟩, ⟨lo3, hi3, hl3, hh3⟩, ⟨lo4, hi4, hl4, hh4⟩⟩ := hr
 have hm_ps := hl1.len
 unfold maxLen at hm_ps
 obtain ⟨a1_, c1_, rfl⟩ := hl1.any
 replace F1 := F1.sl0 hl1 hh1 rfl
 clear hl1
 have hm_po := hl2.len
 unfold maxLen at hm_po
 obtain ⟨a2_, c2_, rfl⟩ := hl2.any
 replace F1 := F1.sl0 hl2 hh2 rfl
 clear hl2
 have hm_wa := hl3.len
 unfold maxLen at hm_wa
 obtain ⟨a3_, c3_, rfl⟩ := hl3.any
 replace F1 := F1.sl0 hl3 hh3 rfl
 clear hl3
 have hm_ch := hl4.len
 unfold maxLen at hm_ch
 obtain ⟨a4_, c4_, rfl⟩ := hl4.any
 replace F1 := F1.sl0 hl4 hh4 rfl
 clear hl4
 rw [show (ws0 n).length = n from List.length_replicate] at F1 hm_wa
 obtain ⟨x6, o7, e_⟩ := Sl.addr (F1.at 2 rfl : Sl poEnc 7 lo2 hi2 _ (.slice a2_ [p].length c2_) [p]) Nat.zero_lt_one
 subst e_
 have hz8 : Hid ([p][0]? = some p) := lhd (rfl)
 obtain ⟨x9, o10, e_⟩ := Sl.addr (F1.at 0 rfl : Sl chEnc 3 lo4 hi4 _ (.slice a4_ [m].length c4_) [m]) Nat.zero_lt_one
 subst e_
 have hz11 : Hid ([m][0]? = some m) := lhd (rfl)
 have HRK := lhd hk
 have hnk_ := hk.nn
 have hlk_ := hk.len
 have hsk_ := hk.spot
 have hrk_ := hk.rdy
 have hmk_ := hk.mm
 clear hk
 have HDP := lhd hp
 have HDS := lhd hs
 clear hp hs
 go_enter Try.func8, Try.ntmps8
 go_wp2_with fail
 replace F1 := F1.new 42 #[.int .i64 (n : Int), .slice a1_ ls.length c1_, .slice (some ⟨x6, o7, none⟩) 1 c2_, .slice a3_ n c3_, .slice (some ⟨x9, o10, none⟩) 1 c4_] (n := w.heap.size) (by simp)
 refine (rcheck_c _ _ _ _ n ls p m _ ⟨⟨_, _, (F1.at 4 rfl : Sl ptEnc 5 lo1 hi1 _ (.slice a1_ ls.length c1_) ls), (Nat.le_trans hh1 F1.gb.size)⟩, ⟨_, _, (F1.at 3 rfl : Sl poEnc 7 lo2 hi2 _ (.slice (some ⟨x6, o7, none⟩) 1 c2_) [p]), (Nat.le_trans hh2 F1.gb.size)⟩, ⟨_, _, (F1.at 2 rfl : Sl spEnc 2 lo3 hi3 _ (.slice a3_ n c3_) (ws0 n)), (Nat.le_trans hh3 F1.gb.size)⟩, ⟨_, _, (F1.at 1 rfl : Sl chEnc 3 lo4 hi4 _ (.slice (some ⟨x9, o10, none⟩) 1 c4_) [m]), (Nat.le_trans hh4 F1.gb.size)⟩⟩ HRK.out).mono ?_
 rintro e w15 ⟨rfl, hg13⟩
 have hg13s := hg13.size
 (try simp at hg13s)
 replace F1 := F1.gn hg13
 clear hg13
 have b17 := F1.bx5 0 rfl
 go_wp2_with fail
 clear b17
 refine (rwithin_y (n := 0) (lo := 0) (hi := 0) (by omega) _).mono ?_
 rintro e _ ⟨rfl, rfl⟩
 go_wp2_with fail
 replace F1 := F1.drew
 refine ru_begin (fun W => W.cell? ⟨w.heap.size, 0, none⟩ = some (.int .i64 (n : Int)) /\ W.cell? ⟨w.heap.size, 1, none⟩ = some (.slice a1_ ls.length c1_) /\ W.cell? ⟨w.heap.size, 2, none⟩ = some (.slice (some ⟨x6, o7, none⟩) 1 c2_) /\ W.cell? ⟨w.heap.size, 3, none⟩ = some (.slice a3_ n c3_) /\ W.cell? ⟨w.heap.size, 4, none⟩ = some (.slice (some ⟨x9, o10, none⟩) 1 c4_) /\ W.cell? ⟨x6, o7, none⟩ = some (.int .i64 p.spot) /\ W.cell? ⟨x6, o7 + 1, none⟩ = some (.int .i64 p.lo) /\ W.cell? ⟨x6, o7 + 2, none⟩ = some (.int .i64 p.hi) /\ W.cell? ⟨x6, o7 + 3, none⟩ = some (.int .i64 0) /\ W.cell? ⟨x6, o7 + 4, none⟩ = some (.int .i64 0) /\ W.cell? ⟨x6, o7 + 5, none⟩ = some (.int .i64 0) /\ W.cell? ⟨x6, o7 + 6, none⟩ = some (.slice none 0 0)) 8 (by kernel_rfl) ?_ ?_
 · exact ⟨F1.q 0 0, F1.q 0 1, F1.q 0 2, F1.q 0 3, F1.q 0 4, (by have h_ := Sl.cells (F1.at 3 rfl) hz8.out 0 _ rfl; simpa [Nat.add_assoc] using h_), (by have h_ := Sl.cells (F1.at 3 rfl) hz8.out 1 _ rfl; simpa [Nat.add_assoc] using h_), (by have h_ := Sl.cells (F1.at 3 rfl) hz8.out 2 _ rfl; simpa [Nat.add_assoc] using h_), (by have h_ := Sl.cells (F1.at 3 rfl) hz8.out 3 _ rfl; simpa [Nat.add_assoc] using h_), (by have h_ := Sl.cells (F1.at 3 rfl) hz8.out 4 _ rfl; simpa [Nat.add_assoc] using h_), (by have h_ := Sl.cells (F1.at 3 rfl) hz8.out 5 _ rfl; simpa [Nat.add_assoc] using h_), (by have h_ := Sl.cells (F1.at 3 rfl) hz8.out 6 _ rfl; simpa [Nat.add_assoc] using h_)⟩
 obtain ⟨wd20, hwd_⟩ : ∃ x : World, w15.drew = x := ⟨_, rfl⟩
 rw [hwd_] at F1 ⊢
 have wd20s : w15.heap.size <= wd20.heap.size := by rw [← hwd_]; exact Nat.le_refl _
 clear hwd_
 have hS19 := (And.intro (F1.q 0 0) (And.intro (F1.q 0 1) (And.intro (F1.q 0 2) (And.intro (F1.q 0 3) (And.intro (F1.q 0 4) (And.intro ((by have h_ := Sl.cells (F1.at 3 rfl) hz8.out 0 _ rfl; simpa [Nat.add_assoc] using h_)) (And.intro ((by have h_ := Sl.cells (F1.at 3 rfl) hz8.out 1 _ rfl; simpa [Nat.add_assoc] using h_)) (And.intro ((by have h_ := Sl.cells (F1.at 3 rfl) hz8.out 2 _ rfl; simpa [Nat.add_assoc] using h_)) (And.intro ((by have h_ := Sl.cells (F1.at 3 rfl) hz8.out 3 _ rfl; simpa [Nat.add_assoc] using h_)) (And.intro ((by have h_ := Sl.cells (F1.at 3 rfl) hz8.out 4 _ rfl; simpa [Nat.add_assoc] using h_)) (And.intro ((by have h_ := Sl.cells (F1.at 3 rfl) hz8.out 5 _ rfl; simpa [Nat.add_assoc] using h_)) ((by have h_ := Sl.cells (F1.at 3 rfl) hz8.out 6 _ rfl; simpa [Nat.add_assoc] using h_)))))))))))))
 refine ru_t 0 [] ?_
 refine ru_t 1 [] ?_
 refine ru_t 2 [] ?_
 refine ru_t 3 [] ?_
 refine ru_t 4 [] ?_
 refine ru_t 5 [] ?_
 (try simp only [lpX])
 clear hS19
 refine ru_one 6 rfl (by kernel_rfl) (fun K hK => ?_)
 go_simp
 refine (goes_c _ _ _ _ n ls p m K0 mp ms _ ⟨⟨_, _, (F1.at 4 rfl : Sl ptEnc 5 lo1 hi1 _ (.slice a1_ ls.length c1_) ls), (Nat.le_trans hh1 F1.gb.size)⟩, ⟨_, _, (F1.at 3 rfl : Sl poEnc 7 lo2 hi2 _ (.slice (some ⟨x6, o7, none⟩) 1 c2_) [p]), (Nat.le_trans hh2 F1.gb.size)⟩, ⟨_, _, (F1.at 2 rfl : Sl spEnc 2 lo3 hi3 _ (.slice a3_ n c3_) (ws0 n)), (Nat.le_trans hh3 F1.gb.size)⟩, ⟨_, _, (F1.at 1 rfl : Sl chEnc 3 lo4 hi4 _ (.slice (some ⟨x9, o10, none⟩) 1 c4_) [m]), (Nat.le_trans hh4 F1.gb.size)⟩⟩ HRK.out hK0 HDP.out HDS.out).mono ?_
 rintro e w23 ⟨ags, cgs, logs, higs, rfl, ⟨hxgs, hygs⟩, hzgs, hg21⟩
 have hg21s := hg21.size
 (try simp at hg21s)
 replace F1 := F1.add (rsl spEnc 2 logs higs (.slice ags n cgs) (goL mp ms p n)) hg21 (hzgs) (fun g e => ⟨Nat.le_trans hxgs e.1, Nat.lt_of_lt_of_le e.2 hygs⟩)
 refine ru_back hK (by exact ⟨F1.q 1 0, F1.q 1 1, F1.q 1 2, F1.q 1 3, F1.q 1 4, (by have h_ := Sl.cells (F1.at 4 rfl) hz8.out 0 _ rfl; simpa [Nat.add_assoc] using h_), (by have h_ := Sl.cells (F1.at 4 rfl) hz8.out 1 _ rfl; simpa [Nat.add_assoc] using h_), (by have h_ := Sl.cells (F1.at 4 rfl) hz8.out 2 _ rfl; simpa [Nat.add_assoc] using h_), (by have h_ := Sl.cells (F1.at 4 rfl) hz8.out 3 _ rfl; simpa [Nat.add_assoc] using h_), (by have h_ := Sl.cells (F1.at 4 rfl) hz8.out 4 _ rfl; simpa [Nat.add_assoc] using h_), (by have h_ := Sl.cells (F1.at 4 rfl) hz8.out 5 _ rfl; simpa [Nat.add_assoc] using h_), (by have h_ := Sl.cells (F1.at 4 rfl) hz8.out 6 _ rfl; simpa [Nat.add_assoc] using h_)⟩) (fun _ => ?_)
 clear hK K
 (try simp only [lpX])
 refine ru_p 7 ?_
 (try simp only [lpX])
 refine ru_one 8 rfl (by kernel_rfl) (fun K hK => ?_)
 go_simp
 refine ru_back_late hK (by kernel_rfl) ?_
 clear hK K
 (try simp only [lpX])
 refine ru_done (by kernel_rfl) ?_
 have Fn_ := (F1.drop 1 rfl)
 (try dsimp only [List.eraseIdx_cons_succ, List.eraseIdx_cons_zero] at Fn_)
 obtain ⟨w25, hx26, F28, hxs27⟩ := Fn_.name
 (try simp at hxs27)
 rw [hx26]
 clear hx26 F1 Fn_
 go_wp2_with fail
 exact bodyPost_ret (v := .tuple #[.slice ags n cgs, .int .i64 0]) (by simp [results, Try.results8, go_sem]) rfl (⟨ags, cgs, logs, higs, rfl, ⟨(by first | omega | (simp; omega)), (by first | omega | (simp; omega))⟩, (F28.at 0 rfl : Sl spEnc 2 logs higs _ (.slice ags n cgs) (goL mp ms p n)), F28.gb⟩)
end Go.Proofs.Ytlefmbjipdlcfaa
