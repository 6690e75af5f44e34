/- the kit of build: nets made of numbers. -/
import Derived.Test.YtlefmbjipdlcfaaMF29
import Derived.Test.YtlefmbjipdlcfaaMK1
import Derived.Test.YtlefmbjipdlcfaaMKN
set_option linter.unusedVariables false
set_option linter.unusedSimpArgs false
set_option linter.unnecessarySimpa false
namespace Go.Proofs.Ytlefmbjipdlcfaa
open Go.RowKit
set_option maxRecDepth 100000
attribute [local go_sem] Oper.semAt_some
theorem of4_c (b : Nat) (w : World) (g c : Nat) (x y z u : Int) (hs : SeedAt w b) (hgb : g ≠ b) (h0 : w.cell? ⟨g, 0, none⟩ = some (.int .i64 x)) (h1 : w.cell? ⟨g, 1, none⟩ = some (.int .i64 y)) (h2 : w.cell? ⟨g, 2, none⟩ = some (.int .i64 z)) (h3 : w.cell? ⟨g, 3, none⟩ = some (.int .i64 u)) :
  Calls Try.prog 14 #[.pointer (some ⟨b, 0, none⟩), .slice (some ⟨g, 0, none⟩) 4 c] w (Gen .i64 (fun r => r = x ∨ r = y ∨ r = z ∨ r = u) b w) := by
 refine (of_c b w hs g 0 4 c (fun i => [x, y, z, u].getD i 0) (by decide) (by decide) hgb (fun i hi => ?_)).mono ?_
 ·
  rcases i with _ | _ | _ | _ | i
  · exact h0
  · exact h1
  · exact h2
  · exact h3
  · omega
 rintro e w' ⟨r, rfl, ⟨i, hi, rfl⟩, hs, hg⟩
 refine ⟨_, rfl, ?_, hs, hg⟩
 rcases i with _ | _ | _ | _ | i
 · exact .inl rfl
 · exact .inr (.inl rfl)
 · exact .inr (.inr (.inl rfl))
 · exact .inr (.inr (.inr rfl))
 · omega
theorem infoLg : (Try.prog.info? 44).map (fun i => (i.zero, i.size, i.bytes)) = some (some (.agg #[.int .i64 0, .int .i64 0, .int .i64 0, .int .i64 0, .int .i64 0]), 5, 40) := by kernel_rfl
theorem okLg : ElemOk Try.prog 25 44 5 40 lgEnc where
 under := Try.underlying25
 info := info5 infoLg rfl
 pos := by omega
 small := by omega
 len := fun _ => rfl
 one := fun x u hu => by
  simp [lgEnc] at hu
  rcases hu with rfl | rfl | rfl | rfl | rfl <;> rfl
theorem lgErr_of {n : Int} {l : Lg} (a : 0 <= l.a /\ l.a < n) (b : 0 <= l.b /\ l.b < n) (h : ¬ l.a = l.b) (hl : 1 <= l.long /\ l.long <= 1000000) (hc : 0 <= l.cost /\ l.cost <= 100000) (ho : 1 <= l.op /\ l.op <= 3) : lgErr n l = 0 := by
 unfold lgErr
 rw [if_neg (by omega), if_neg h, if_neg (by omega), if_neg (by omega)]
theorem lgsErr_all {n : Int} : ∀ {ls : List Lg}, (∀ l ∈ ls, lgErr n l = 0) -> lgsErr n ls = 0
 | [], _ => rfl
 | l :: ls, h => by rw [lgsErr, if_neg (not_not_intro (h l (.head _)))]; exact lgsErr_all fun l' h' => h l' (.tail _ h')
theorem netErr_of {n : Int} {ls : List Lg} (h : 1 <= n /\ n <= 40) (hl : ls.length <= 200) (ha : ∀ l ∈ ls, lgErr n l = 0) : netErr n ls = 0 := by
 unfold netErr
 rw [if_neg (by omega), if_neg (by omega)]
 exact lgsErr_all ha
theorem turn_ne {a r n m : Int} (ha : 0 <= a /\ a < n) (hr : 1 <= r /\ r <= n - 1) (hm : Int.tmod (a + r) n = m) : (0 <= m /\ m < n) /\ ¬ a = m := by
 have h1 := Int.tmod_lt_of_pos (a + r) (show 0 < n by omega)
 have h2 := Int.tmod_nonneg (a := a + r) n (by omega)
 rw [hm] at h1 h2
 refine ⟨⟨h2, h1⟩, fun e => ?_⟩
 have h3 := Int.tmod_add_mul_tdiv (a + r) n
 rw [hm] at h3
 subst e
 have h4 : n * Int.tdiv (a + r) n = r := by omega
 rcases Int.lt_or_le (Int.tdiv (a + r) n) 1 with h5 | h5
 ·
  have h6 : 0 <= Int.tdiv (a + r) n := Int.tdiv_nonneg (by omega) (by omega)
  have h7 : Int.tdiv (a + r) n = 0 := by omega
  rw [h7, Int.mul_zero] at h4
  omega
 have := Int.mul_le_mul_of_nonneg_left h5 (show 0 <= n by omega)
 rw [Int.mul_one] at this
 omega
def NetQ (sb : Nat) (nt : Int) (w : World) : Ending -> World -> Prop := fun e w' => ∃ (n : Nat) (ls : List Lg) (a : Option Addr) (c lo hi : Nat), e = .returned (.agg #[.int .i64 (n : Int), .slice a ls.length c]) /\ (w.heap.size <= lo /\ hi <= w'.heap.size) ∧
 Sl lgEnc 5 lo hi w' (.slice a ls.length c) ls /\ (netErr n ls = 0 /\ 1 <= n /\ (n : Int) <= nt) /\ (ls.length <= 120 /\ ∀ l ∈ ls, l.long <= 5000) /\ SeedAt w' sb /\ w.grownBy w' (some sb)
set_option maxHeartbeats 16000000 in
theorem netOfq_c (sb : Nat) (nt : Int) (w : World) (hs : SeedAt w sb) (hnt : 1 <= nt /\ nt <= 20) :
  Calls Try.prog 5 #[.pointer (some ⟨sb, 0, none⟩), .int .i64 nt] w (NetQ sb nt w) := by
 have F1 : Bus w sb [rseed sb] w := Bus.ofSeed hs
 have hsl := hs.lt
 clear hs
 go_enter Try.func5, Try.ntmps5
 go_wp2_with fail
 replace F1 := F1.new 27 #[.int .i64 0, .slice none 0 0] (n := w.heap.size) (by simp)
 refine (from_c sb 1 nt _ (F1.at 1 rfl : SeedAt _ sb) (by omega) (by omega) (by omega) (by omega)).mono ?_
 rintro e w7 ⟨r2, rfl, hr3, hs6, hg5⟩
 unfold fromR at hr3; have hr3b : 1 <= r2 /\ r2 <= nt := (by omega); clear hr3
 obtain ⟨n, rfl⟩ : ∃ n_ : Nat, r2 = (n_ : Int) := ⟨r2.toNat, by omega⟩
 have hg5s := hg5.size
 (try simp at hg5s)
 replace F1 := F1.seedAt 1 rfl hg5 hs6
 clear hg5
 go_wp2_with fail
 replace F1 := F1.new 27 #[.int .i64 (n : Int), .slice none 0 0] (n := w7.heap.size) (by simp)
 refine (below_c sb (3 * (n : Int)) _ (F1.at 2 rfl : SeedAt _ sb) (by omega) (by omega)).mono ?_
 rintro e w14 ⟨r9, rfl, hr10, hs13, hg12⟩
 unfold belowR at hr10
 have hg12s := hg12.size
 (try simp at hg12s)
 replace F1 := F1.seedAt 2 rfl hg12 hs13
 clear hg12
 go_wp2_with fail
 replace F1 := F1.nilrow lgEnc 44 5
 (skip)
 obtain ⟨HI17_, HI170⟩ : ∃ I : RelT, I = (fun t ds wr => ∃ (c : Nat) (vl : Value) (ll : List Lg), t 0 = .pointer (some ⟨sb, 0, none⟩) /\ t 4 = .pointer (some ⟨w.heap.size, 0, none⟩) /\ t 5 = .pointer (some ⟨w7.heap.size, 0, none⟩) /\ t 6 = .int .i64 (c : Int) /\ (ll.length + c <= 120) /\ (∀ l ∈ ll, lgErr n l = 0 /\ l.long <= 5000) /\ ds = [] /\ w14.heap.size <= wr.heap.size /\ Bus w sb [rown lgEnc 44 5 w.heap.size vl ll, rbox w7.heap.size 27 #[.int .i64 (n : Int), vl], rbox w.heap.size 27 #[.int .i64 0, .slice none 0 0], rseed sb] wr) := ⟨_, rfl⟩
 have HI17 := lhd HI170
 clear HI170
 refine wp_loopS 60 rfl HI17_ (fun t wr => (intOf (t 6)).toNat) ?atStart1 ?round1
 case round1 =>
  intro t ds wr hHid
  rw [HI17.out] at hHid
  obtain ⟨c, vl, ll, e0, e4, e5, e6, hrel⟩ := hHid
  have e : ((List.range 60).map t).toArray = #[t 0, t 1, t 2, t 3, t 4, t 5, t 6, t 7, t 8, t 9, t 10, t 11, t 12, t 13, t 14, t 15, t 16, t 17, t 18, t 19, t 20, t 21, t 22, t 23, t 24, t 25, t 26, t 27, t 28, t 29, t 30, t 31, t 32, t 33, t 34, t 35, t 36, t 37, t 38, t 39, t 40, t 41, t 42, t 43, t 44, t 45, t 46, t 47, t 48, t 49, t 50, t 51, t 52, t 53, t 54, t 55, t 56, t 57, t 58, t 59] := rfl
  (try dsimp only at e)
  rw [e0, e4, e5, e6] at e
  rw [e]
  simp only [e6]
  clear e e0 e4 e5 e6
  obtain ⟨hlen, hle, rfl, hs19, hF18⟩ := hrel
  clear F1
  obtain ⟨w20, rfl⟩ : ∃ x_ : World, x_ = wr := ⟨_, rfl⟩
  obtain ⟨al21, cl22, e_⟩ := (Own.sl (hF18.at 0 rfl : Own lgEnc 44 5 w.heap.size _ vl ll) (fun _ => rfl)).any
  subst e_
  have HLE := lhd hle
  clear hle
  by_cases c23 : 0 < (c : Int)
  ·
   have c23H := lhd c23
   by_cases c24 : 1 < (n : Int)
   ·
    have c24H := lhd c24
    have b27 := hF18.bx2 1 rfl
    go_wp2_with fail
    clear b27
    refine (below_c sb (n : Int) _ (hF18.at 3 rfl : SeedAt _ sb) (by omega) (by omega)).mono ?_
    rintro e w30 ⟨r25, rfl, hr26, hs29, hg28⟩
    unfold belowR at hr26
    have hg28s := hg28.size
    (try simp at hg28s)
    have F31 := hF18.seedAt 3 rfl hg28 hs29
    clear hF18
    clear hg28
    go_wp2_with fail
    replace F31 := F31.new 3 #[.int .i64 3, .int .i64 100] (n := w30.heap.size) (by simp)
    refine (of2_c sb _ w30.heap.size 2 3 100 (F31.at 4 rfl : SeedAt _ sb) (by omega) (F31.q 0 0) (F31.q 0 1)).mono ?_
    rintro e w37 ⟨r32, rfl, hr33, hs36, hg35⟩
    have hg35s := hg35.size
    (try simp at hg35s)
    replace F31 := F31.seedAt 4 rfl hg35 hs36
    clear hg35
    go_wp2_with fail
    refine (from_c sb 1 r32 _ (F31.at 4 rfl : SeedAt _ sb) (by omega) (by omega) (by omega) (by omega)).mono ?_
    rintro e w43 ⟨r39, rfl, hr40, hs42, hg41⟩
    unfold fromR at hr40; have hr40b : 1 <= r39 /\ r39 <= r32 := (by omega); clear hr40
    have hg41s := hg41.size
    (try simp at hg41s)
    replace F31 := F31.seedAt 4 rfl hg41 hs42
    clear hg41
    go_wp2_with fail
    replace F31 := F31.new 3 #[.int .i64 1, .int .i64 1, .int .i64 2, .int .i64 3] (n := w43.heap.size) (by simp)
    refine (of4_c sb _ w43.heap.size 4 1 1 2 3 (F31.at 5 rfl : SeedAt _ sb) (by omega) (F31.q 0 0) (F31.q 0 1) (F31.q 0 2) (F31.q 0 3)).mono ?_
    rintro e w50 ⟨r45, rfl, hr46, hs49, hg48⟩
    have hg48s := hg48.size
    (try simp at hg48s)
    replace F31 := F31.seedAt 5 rfl hg48 hs49
    clear hg48
    go_wp2_with fail
    refine (below_c sb 6 _ (F31.at 5 rfl : SeedAt _ sb) (by omega) (by omega)).mono ?_
    rintro e w56 ⟨r52, rfl, hr53, hs55, hg54⟩
    unfold belowR at hr53
    have hg54s := hg54.size
    (try simp at hg54s)
    replace F31 := F31.seedAt 5 rfl hg54 hs55
    clear hg54
    go_wp2_with fail
    replace F31 := F31.new 44 #[.int .i64 r25, .int .i64 0, .int .i64 r39, .int .i64 r45, .int .i64 r52] (n := w56.heap.size) (by simp)
    obtain ⟨w64, hx65, F67, hxs66⟩ := (show Bus w sb [rbox w56.heap.size 44 #[.int .i64 r25, .int .i64 0, .int .i64 r39, .int .i64 r45, .int .i64 r52], rown lgEnc 44 5 w.heap.size (.slice al21 ll.length cl22) ll, rbox w7.heap.size 27 #[.int .i64 (n : Int), .slice al21 ll.length cl22], rbox w.heap.size 27 #[.int .i64 0, .slice none 0 0], rseed sb] _ from ((F31.drop 1 rfl).drop 1 rfl)).name
    (try simp at hxs66)
    rw [hx65]
    clear hx65 F31
    have hw62 : IntKind.i64.wrap ((n : Int) - 1) = (n : Int) - 1 := IntWalk.i64_in _ (by omega)
    replace F67 := F67.drew
    refine ru_begin (fun W => W.cell? ⟨w56.heap.size, 0, none⟩ = some (.int .i64 r25) /\ W.cell? ⟨w7.heap.size, 0, none⟩ = some (.int .i64 (n : Int))) 12 (by kernel_rfl) ?_ ?_
    · exact ⟨F67.q 0 0, F67.q 2 0⟩
    obtain ⟨wd70, hwd_⟩ : ∃ x : World, w64.drew = x := ⟨_, rfl⟩
    rw [hwd_] at F67 ⊢
    have wd70s : w64.heap.size <= wd70.heap.size := by rw [← hwd_]; exact Nat.le_refl _
    clear hwd_
    have hS69 := (And.intro (F67.q 0 0) (F67.q 2 0))
    refine ru_t 0 [] ?_
    refine ru_t 1 [] ?_
    refine ru_t 2 [] ?_
    refine ru_t 3 [] ?_
    refine ru_t 4 [] ?_
    refine ru_t 5 [] ?_
    refine ru_t 8 [] ?_
    refine ru_t 9 [] ?_
    (try simp only [lpX])
    clear hS69
    refine ru_one 6 rfl (by kernel_rfl) (fun K hK => ?_)
    go_simp
    refine (from_c sb 1 ((n : Int) - 1) _ (F67.at 4 rfl : SeedAt _ sb) (by omega) (by omega) (by omega) (by omega)).mono ?_
    rintro e w75 ⟨r71, rfl, hr72, hs74, hg73⟩
    unfold fromR at hr72; have hr72b : 1 <= r71 /\ r71 <= ((n : Int) - 1) := (by omega); clear hr72
    have hg73s := hg73.size
    (try simp at hg73s)
    replace F67 := F67.seedAt 4 rfl hg73 hs74
    refine ru_back hK (by exact ⟨F67.q 0 0, F67.q 2 0⟩) (fun _ => ?_)
    clear hK K
    (try simp only [lpX])
    have hw77 : IntKind.i64.wrap (r25 + r71) = r25 + r71 := IntWalk.i64_in _ (by omega)
    refine ru_p 7 ?_
    (try simp only [lpX])
    obtain ⟨m78, hm79⟩ : ∃ m_, Int.tmod (r25 + r71) ((n : Int)) = m_ := ⟨_, rfl⟩
    have hm79k := turn_ne (show 0 <= r25 /\ r25 < (n : Int) by omega) (by omega) hm79
    have hm79w : IntKind.i64.wrap m78 = m78 := IntWalk.i64_in _ (by omega)
    have hm79z : ¬ n = 0 := by omega
    refine ru_p 10 ?_
    (try simp only [lpX])
    refine ru_p 11 ?_
    (try simp only [lpX])
    refine ru_one 12 rfl (by kernel_rfl) (fun K hK => ?_)
    have kb_ := F67.bx5 0 rfl
    go_simp
    clear kb_
    have F80 := (F67.set 1 (.int .i64 m78)).nf #[.int .i64 r25, .int .i64 m78, .int .i64 r39, .int .i64 r45, .int .i64 r52] rfl
    clear F67
    refine ru_back_late hK (by kernel_rfl) ?_
    clear hK K
    (try simp only [lpX])
    refine ru_done (by kernel_rfl) ?_
    (try clear hw62 hw77 hm79 hm79z hm79w hm79z)
    obtain ⟨w81, hx82, F84, hxs83⟩ := (show Bus w sb [rbox w56.heap.size 44 #[.int .i64 r25, .int .i64 m78, .int .i64 r39, .int .i64 r45, .int .i64 r52], rown lgEnc 44 5 w.heap.size (.slice al21 ll.length cl22) ll, rbox w7.heap.size 27 #[.int .i64 (n : Int), .slice al21 ll.length cl22], rbox w.heap.size 27 #[.int .i64 0, .slice none 0 0], rseed sb] _ from F80).name
    (try simp at hxs83)
    rw [hx82]
    clear hx82 F80
    have b85 := F84.bx5 0 rfl
    have b86 := F84.bx2 2 rfl
    go_wp2_with (at_builtin; refine wpList_app _ okLg rfl _ _ rfl w.heap.size (.slice al21 ll.length cl22) ll [(⟨r25, m78, r39, r45, r52⟩ : Lg)] rfl (by exact ((F84.at 1 rfl : Own lgEnc 44 5 w.heap.size _ (.slice al21 ll.length cl22) ll)).alloc _) ⟨_, 0, none⟩ 1 1 rfl rfl (by decide) (news_of (Bk.newAt _ _ _ (by simp))) (ll.length + 1) (by simp) (by omega) (by first | omega | (simp; omega)) _ rfl ?_; intro g87 cap88 w89 hp90; refine Hid.out ?_)
    refine lhd ?_
    have hp90s := hp90.gb.size
    (try simp at hp90s)
    clear b85 b86
    have F91 := ((F84.alloc (.cells #[.int .i64 r25, .int .i64 m78, .int .i64 r39, .int .i64 r45, .int .i64 r52] 44)).front 1 rfl rfl).app hp90 (by simp)
    clear F84
    have b92 := F91.bx2 2 rfl
    go_wp2_with fail
    clear b92
    have F93 := ((F91.front 2 rfl rfl).set 1 (.slice (some ⟨g87, 0, none⟩) (ll.length + 1) cap88)).nf #[.int .i64 (n : Int), .slice (some ⟨g87, 0, none⟩) (ll.length + 1) cap88] rfl
    clear F91
    have F94 : Bus w sb [rown lgEnc 44 5 w.heap.size (.slice (some ⟨g87, 0, none⟩) (ll.length + 1) cap88) (ll ++ [(⟨r25, m78, r39, r45, r52⟩ : Lg)]), rbox w7.heap.size 27 #[.int .i64 (n : Int), .slice (some ⟨g87, 0, none⟩) (ll.length + 1) cap88], rbox w.heap.size 27 #[.int .i64 0, .slice none 0 0], rseed sb] _ := F93.pick [1, 0, 3, 4] (by decide) rfl
    clear F93
    (first | refine ⟨by kernel_rfl, ?_, ?_⟩ | refine ⟨rfl, ?_, ?_⟩ | refine ⟨?_, ?_⟩)
    · rw [HI17.out]; exact ⟨c - 1, _, _, (by kernel_rfl), (by kernel_rfl), (by kernel_rfl), (by show Value.int .i64 ((c : Int) - 1) = _; rw [show ((c : Int) - 1) = ((c - 1 : Nat) : Int) by omega]), (by simp; omega), (by intro l_ h_; rcases List.mem_append.1 h_ with h_ | h_; exact HLE.out l_ h_; obtain rfl := List.mem_singleton.1 h_; exact ⟨lgErr_of (by simp only; omega) (by simp only; omega) (by simp only; omega) (by simp only; omega) (by simp only; omega) (by simp only; omega), by simp only; omega⟩), (by first | rfl | simp), (by first | omega | (simp; done) | (simp; omega)), F94⟩
    · simp [slot, intOf]; omega
   have c24H := lhd c24
   have c24a : decide (1 < (n : Int)) = false := dec_f c24
   have b95 := hF18.bx2 1 rfl
   have b96 := hF18.bx2 2 rfl
   go_wp2_with fail
   clear b95 b96
   have F97 := (hF18.front 2 rfl rfl).pt2 (.int .i64 (n : Int)) (.slice al21 ll.length cl22)
   clear hF18
   have kb98 := F97.bx2 0 rfl
   go_wp2_with fail
   exact bodyPost_ret (v := .agg #[.int .i64 (n : Int), .slice al21 ll.length cl22]) (by simp [results, Try.results5, go_sem, kb98]) rfl ((⟨n, ll, _, _, w.heap.size, _, rfl, ⟨Nat.le_refl _, Nat.le_refl _⟩, (Own.sl (F97.at 1 rfl : Own lgEnc 44 5 w.heap.size _ (.slice al21 ll.length cl22) ll) (fun _ => rfl)), ⟨netErr_of (by omega) (by omega) (fun l_ h_ => (HLE.out l_ h_).1), by omega, by omega⟩, ⟨by omega, fun l_ h_ => (HLE.out l_ h_).2⟩, (F97.at 3 rfl : SeedAt _ sb), F97.gb⟩))
  have c23H := lhd c23
  have c23a : decide (0 < (c : Int)) = false := dec_f c23
  have b99 := hF18.bx2 1 rfl
  have b100 := hF18.bx2 2 rfl
  go_wp2_with fail
  clear b99 b100
  have F101 := (hF18.front 2 rfl rfl).pt2 (.int .i64 (n : Int)) (.slice al21 ll.length cl22)
  clear hF18
  have kb102 := F101.bx2 0 rfl
  go_wp2_with fail
  exact bodyPost_ret (v := .agg #[.int .i64 (n : Int), .slice al21 ll.length cl22]) (by simp [results, Try.results5, go_sem, kb102]) rfl ((⟨n, ll, _, _, w.heap.size, _, rfl, ⟨Nat.le_refl _, Nat.le_refl _⟩, (Own.sl (F101.at 1 rfl : Own lgEnc 44 5 w.heap.size _ (.slice al21 ll.length cl22) ll) (fun _ => rfl)), ⟨netErr_of (by omega) (by omega) (fun l_ h_ => (HLE.out l_ h_).1), by omega, by omega⟩, ⟨by omega, fun l_ h_ => (HLE.out l_ h_).2⟩, (F101.at 3 rfl : SeedAt _ sb), F101.gb⟩))
 case atStart1 =>
  rw [HI17.out]
  exact ⟨r9.toNat, _, [], (by kernel_rfl), (by kernel_rfl), (by kernel_rfl), (by rw [Int.toNat_of_nonneg (by omega)]; first | kernel_rfl | rfl), (by simp; omega), (fun _ h => by cases h), rfl, (by first | exact Nat.le_refl _ | omega | (simp; done) | (simp; omega)), F1⟩
end Go.Proofs.Ytlefmbjipdlcfaa
