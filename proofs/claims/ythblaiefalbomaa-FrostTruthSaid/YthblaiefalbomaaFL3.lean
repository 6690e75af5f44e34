/- frost: FrostTruth walked. -/
import Derived.Test.YthblaiefalbomaaF37
import Derived.Test.YthblaiefalbomaaF33
import Derived.Test.YthblaiefalbomaaF26
import Derived.Test.YthblaiefalbomaaF24
set_option linter.unusedVariables false
set_option linter.unusedSimpArgs false
set_option linter.unnecessarySimpa false
namespace Go.Proofs.Ythblaiefalbomaa
open Go.RowKit
set_option maxRecDepth 100000

set_option maxHeartbeats 16000000 in
theorem truth_walk (vn : Value) (zs : List Int) (w : World) (hn : Sl intEnc 1 0 w.heap.size w vn zs) :
    Calls Try.prog 10 #[vn] w (Ret (.bool true) w) := by
  have F1 : Bun w [] w := Bun.nil _
  obtain ⟨na, nc, rfl⟩ := hn.any
  have hm_nums := hn.len
  unfold maxLen at hm_nums
  have F2 := F1.sl0 hn (Nat.le_refl _) rfl
  clear F1
  go_enter Try.func10, Try.ntmps10
  go_wp2_with fail
  refine (newSeed_c 0 w.heap.size _ zs _ (F2.at 0 rfl : Sl intEnc 1 0 w.heap.size _ (.slice na zs.length nc) zs)).mono ?_
  rintro e w5 ⟨sb, rfl, hsb, hsbs, hg3⟩
  have hsbl := hsbs.lt
  have hg3s := hg3.size
  (try simp at hg3s)
  have F6 := F2.add (rseed sb) hg3 (hsbs) (fun g e => by cases e; exact ⟨hsb, hsbs.lt⟩)
  clear F2
  clear hg3
  go_wp2_with fail
  refine (frostOf_c sb _ (F6.at 0 rfl : SeedAt _ sb)).mono ?_
  rintro e w9 ⟨l, vl, lo_l, hi_l, rfl, hxl, hyl, hzl, hfl, hs8, hg7⟩
  obtain ⟨sal, scl, rfl⟩ := hzl.any
  have HFl := Lib.hid hfl
  clear hfl
  have hml := hzl.len
  unfold maxLen at hml
  have hg7s := hg7.size
  (try simp at hg7s)
  have F10 := F6.seedAdd (rsl covEnc 3 lo_l hi_l (.slice sal l.cov.length scl) l.cov) hg7 hs8 (hzl) (fun g e => ⟨Nat.le_trans hxl e.1, Nat.lt_of_lt_of_le e.2 hyl⟩)
  clear F6
  clear hg7
  go_wp2_with fail
  refine (iceOf_c sb _ (F10.at 1 rfl : SeedAt _ sb)).mono ?_
  rintro e w13 ⟨ic, rfl, ⟨hic, hicm⟩, hs12, hg11⟩
  have hicb := iceB hic
  have hg11s := hg11.size
  (try simp at hg11s)
  have F14 := F10.seedAt 1 rfl hg11 hs12
  clear F10
  clear hg11
  go_wp2_with fail
  have F16 := F14.new 29 (froC l (.slice sal l.cov.length scl)) (n := w13.heap.size) (by simp)
  clear F14
  have F17 := F16.new 32 (iceC ic) (n := (w13.heap.size + 1)) (by simp)
  clear F16
  refine (yes_c sb 3 _ (F17.at 3 rfl : SeedAt _ sb) (by omega) (by omega)).mono ?_
  rintro e w20 ⟨yb15, rfl, hs19, hg18⟩
  have hg18s := hg18.size
  (try simp at hg18s)
  have F21 := F17.seedAt 3 rfl hg18 hs19
  clear F17
  clear hg18
  go_wp2_with fail
  refine (daysOf_s sb 12 yb15 _ ((F21.front 3 rfl rfl).at 0 rfl : SeedAt _ sb) (by omega)).mono ?_
  rintro e w24 ⟨dl, da_dl, dc_dl, ld_dl, hd_dl, rfl, ⟨hdxdl, hdydl, hdcdl⟩, hdzdl, hdndl, hdvdl, hs23, hg22⟩
  have HDdl := Lib.hid hdvdl
  clear hdvdl
  have hg22s := hg22.size
  (try simp at hg22s)
  have F25 := (F21.front 3 rfl rfl).seedAdd (rsl weaEnc 6 ld_dl hd_dl (.slice da_dl dl.length dc_dl) dl) hg22 hs23 (hdzdl) (fun g e => ⟨Nat.le_trans hdxdl e.1, Nat.lt_of_lt_of_le e.2 hdydl⟩)
  clear F21
  clear hg22
  have b26 := F25.bx8 2 rfl
  have b27 := F25.bx8 3 rfl
  go_wp2_with fail
  clear b26 b27
  refine (run_ok _ _ _ l ic _ _ _ dl _ (F25.at 4 rfl : Sl covEnc 3 lo_l hi_l _ (.slice sal l.cov.length scl) l.cov) (by first | omega | (simp; omega)) (F25.at 0 rfl : Sl weaEnc 6 ld_dl hd_dl _ (.slice da_dl dl.length dc_dl) dl) (by first | omega | (simp; omega)) (allE_of HFl.out hic (fun d_ h_ => (HDdl.out d_ h_).1) (by omega))).mono ?_
  rintro e w30 ⟨ra_a, rc_a, rl_a, rh_a, rfl, ⟨rxa, rya, rza⟩, rwa, hg28⟩
  have hg28s := hg28.size
  (try simp at hg28s)
  have F31 := F25.add (rsl iceEnc 8 rl_a rh_a (.slice ra_a dl.length rc_a) (runN l ic dl dl.length)) hg28 (rwa) (fun g e => ⟨Nat.le_trans rxa e.1, Nat.lt_of_lt_of_le e.2 rya⟩)
  clear F25
  clear hg28
  have b32 := F31.bx8 3 rfl
  go_wp2_with fail
  clear b32
  refine (trueIce_c sb ic _ (F31.at 2 rfl : SeedAt _ sb) hic).mono ?_
  rintro e w35 ⟨tt, rfl, htt, hs34, hg33⟩
  have httb := htt
  obtain ⟨⟨⟨htt1, htt2⟩, htt3, htt4⟩, ⟨htt5, htt6⟩, htt7, htt8⟩ := httb
  have hg33s := hg33.size
  (try simp at hg33s)
  have F36 := F31.seedAt 2 rfl hg33 hs34
  clear F31
  clear hg33
  go_wp2_with fail
  have F37 := F36.new 48 #[.int .i64 tt.bl, .int .i64 tt.wh, .int .i64 tt.we, .int .i64 tt.sn] (n := w35.heap.size) (by simp)
  clear F36
  have HL := Lib.hid (lawOk HFl.out)
  have HFa := Lib.hid (lawFalls HFl.out)
  have HIK := Lib.hid (iceK hic)
  have HWD : Hid (∀ d ∈ dl, WeaOk d) := Lib.hid (fun d_ h_ => weaOk (HDdl.out d_ h_).1)
  have HK := Lib.hid (stI_K HL.out HIK.out HWD.out (by omega))
  (skip)
  obtain ⟨HI38_, HI380⟩ : ∃ I : (Nat → Value) → List Deferred → World → Prop, I = (fun t ds wr => ∃ (k : Nat) (yy : Tr), t 3 = .pointer (some ⟨sb, 0, none⟩) ∧ t 4 = .pointer (some ⟨w13.heap.size, 0, none⟩) ∧ t 5 = .pointer (some ⟨w13.heap.size + 1, 0, none⟩) ∧ t 6 = .slice da_dl dl.length dc_dl ∧ t 7 = .slice ra_a dl.length rc_a ∧ t 9 = .pointer (some ⟨w35.heap.size, 0, none⟩) ∧ t 10 = .int .i64 (k : Int) ∧ k ≤ dl.length ∧ inI yy (stI l ic dl k) ∧ ds = [] ∧ w35.heap.size ≤ wr.heap.size ∧ Bun w [rbox w35.heap.size 48 #[.int .i64 yy.bl, .int .i64 yy.wh, .int .i64 yy.we, .int .i64 yy.sn], rsl iceEnc 8 rl_a rh_a (.slice ra_a dl.length rc_a) (runN l ic dl dl.length), rsl weaEnc 6 ld_dl hd_dl (.slice da_dl dl.length dc_dl) dl, rseed sb, rbox (w13.heap.size + 1) 32 (iceC ic), rbox w13.heap.size 29 (froC l (.slice sal l.cov.length scl)), rsl covEnc 3 lo_l hi_l (.slice sal l.cov.length scl) l.cov, rsl intEnc 1 0 w.heap.size (.slice na zs.length nc) zs] wr) := ⟨_, rfl⟩
  have HI38 := Lib.hid HI380
  clear HI380
  refine wp_loopS 130 rfl HI38_ (fun t wr => dl.length - (intOf (t 10)).toNat) ?atStart17 ?round17
  case round17 =>
    intro t ds wr hHid
    rw [HI38.out] at hHid
    obtain ⟨k, yy, e3, e4, e5, e6, e7, e9, e10, hrel⟩ := hHid
    have e : ((List.range 130).map t).toArray = #[t 0, t 1, t 2, t 3, t 4, t 5, t 6, t 7, t 8, t 9, t 10, t 11, t 12, t 13, t 14, t 15, t 16, t 17, t 18, t 19, t 20, t 21, t 22, t 23, t 24, t 25, t 26, t 27, t 28, t 29, t 30, t 31, t 32, t 33, t 34, t 35, t 36, t 37, t 38, t 39, t 40, t 41, t 42, t 43, t 44, t 45, t 46, t 47, t 48, t 49, t 50, t 51, t 52, t 53, t 54, t 55, t 56, t 57, t 58, t 59, t 60, t 61, t 62, t 63, t 64, t 65, t 66, t 67, t 68, t 69, t 70, t 71, t 72, t 73, t 74, t 75, t 76, t 77, t 78, t 79, t 80, t 81, t 82, t 83, t 84, t 85, t 86, t 87, t 88, t 89, t 90, t 91, t 92, t 93, t 94, t 95, t 96, t 97, t 98, t 99, t 100, t 101, t 102, t 103, t 104, t 105, t 106, t 107, t 108, t 109, t 110, t 111, t 112, t 113, t 114, t 115, t 116, t 117, t 118, t 119, t 120, t 121, t 122, t 123, t 124, t 125, t 126, t 127, t 128, t 129] := rfl
    (try dsimp only at e)
    rw [e3, e4, e5, e6, e7, e9, e10] at e
    rw [e]
    simp only [e10]
    clear e e3 e4 e5 e6 e7 e9 e10
    obtain ⟨hk, hin, rfl, hs40, hF39⟩ := hrel
    clear F37
    obtain ⟨w41, rfl⟩ : ∃ x_ : World, x_ = wr := ⟨_, rfl⟩
    have HIN := Lib.hid hin
    clear hin
    by_cases c42 : (k : Int) < (dl.length : Int)
    · skip
      have c42H := Lib.hid c42
      obtain ⟨x43, o44, e_⟩ := Sl.addr (hF39.at 2 rfl : Sl weaEnc 6 ld_dl hd_dl _ (.slice da_dl dl.length dc_dl) dl) (by omega)
      subst e_
      obtain ⟨x45, o46, e_⟩ := Sl.addr (hF39.at 1 rfl : Sl iceEnc 8 rl_a rh_a _ (.slice ra_a dl.length rc_a) (runN l ic dl dl.length)) (by rw [runN_len]; omega)
      subst e_
      obtain ⟨z, hz47_⟩ : ∃ z_, dl[k]? = some z_ := ⟨_, List.getElem?_eq_getElem (by omega)⟩
      have hz47 := Lib.hid hz47_
      clear hz47_
      obtain ⟨q, hz48_⟩ : ∃ z_, (runN l ic dl dl.length)[k]? = some z_ := ⟨_, List.getElem?_eq_getElem (by rw [runN_len]; omega)⟩
      have hz48 := Lib.hid hz48_
      clear hz48_
      obtain rfl : q = (stI l ic dl (k + 1)) := by have h_ := hz48.out; rw [runN_get (by omega)] at h_; injection h_ with h_; exact h_.symm
      have hk1 := HK.out k (by omega)
      go_wp2_with fail
      have F49 := hF39.drew
      clear hF39
      refine ru_begin (fun W => W.cell? ⟨w13.heap.size, 0, none⟩ = some (.int .i64 l.gr) ∧ W.cell? ⟨w13.heap.size, 1, none⟩ = some (.int .i64 l.la) ∧ W.cell? ⟨w13.heap.size, 2, none⟩ = some (.slice sal l.cov.length scl) ∧ W.cell? ⟨w13.heap.size, 3, none⟩ = some (.int .i64 l.melt.lo) ∧ W.cell? ⟨w13.heap.size, 4, none⟩ = some (.int .i64 l.melt.hi) ∧ W.cell? ⟨w13.heap.size, 5, none⟩ = some (.int .i64 l.soak) ∧ W.cell? ⟨w13.heap.size, 6, none⟩ = some (.int .i64 l.white.lo) ∧ W.cell? ⟨w13.heap.size, 7, none⟩ = some (.int .i64 l.white.hi) ∧ W.cell? ⟨w35.heap.size, 0, none⟩ = some (.int .i64 yy.bl) ∧ W.cell? ⟨w35.heap.size, 1, none⟩ = some (.int .i64 yy.wh) ∧ W.cell? ⟨w35.heap.size, 2, none⟩ = some (.int .i64 yy.we) ∧ W.cell? ⟨w35.heap.size, 3, none⟩ = some (.int .i64 yy.sn) ∧ W.cell? ⟨x43, o44 + k * 6, none⟩ = some (.int .i64 z.cold.lo) ∧ W.cell? ⟨x43, o44 + k * 6 + 1, none⟩ = some (.int .i64 z.cold.hi) ∧ W.cell? ⟨x43, o44 + k * 6 + 2, none⟩ = some (.int .i64 z.fall.lo) ∧ W.cell? ⟨x43, o44 + k * 6 + 3, none⟩ = some (.int .i64 z.fall.hi) ∧ W.cell? ⟨x43, o44 + k * 6 + 4, none⟩ = some (.int .i64 z.water) ∧ W.cell? ⟨x43, o44 + k * 6 + 5, none⟩ = some (.bool z.clear)) 8 (by kernel_rfl) ?_ ?_
      · exact ⟨F49.cl 5 0 rfl rfl, F49.cl 5 1 rfl rfl, F49.cl 5 2 rfl rfl, F49.cl 5 3 rfl rfl, F49.cl 5 4 rfl rfl, F49.cl 5 5 rfl rfl, F49.cl 5 6 rfl rfl, F49.cl 5 7 rfl rfl, F49.cl 0 0 rfl rfl, F49.cl 0 1 rfl rfl, F49.cl 0 2 rfl rfl, F49.cl 0 3 rfl rfl, (((F49.at 2 rfl : Sl weaEnc 6 ld_dl hd_dl _ (.slice (some ⟨x43, o44, none⟩) dl.length dc_dl) dl)).cells hz47.out 0 _ rfl), (((F49.at 2 rfl : Sl weaEnc 6 ld_dl hd_dl _ (.slice (some ⟨x43, o44, none⟩) dl.length dc_dl) dl)).cells hz47.out 1 _ rfl), (((F49.at 2 rfl : Sl weaEnc 6 ld_dl hd_dl _ (.slice (some ⟨x43, o44, none⟩) dl.length dc_dl) dl)).cells hz47.out 2 _ rfl), (((F49.at 2 rfl : Sl weaEnc 6 ld_dl hd_dl _ (.slice (some ⟨x43, o44, none⟩) dl.length dc_dl) dl)).cells hz47.out 3 _ rfl), (((F49.at 2 rfl : Sl weaEnc 6 ld_dl hd_dl _ (.slice (some ⟨x43, o44, none⟩) dl.length dc_dl) dl)).cells hz47.out 4 _ rfl), (((F49.at 2 rfl : Sl weaEnc 6 ld_dl hd_dl _ (.slice (some ⟨x43, o44, none⟩) dl.length dc_dl) dl)).cells hz47.out 5 _ rfl)⟩
      obtain ⟨wd51, hwd_⟩ : ∃ x : World, w41.drew = x := ⟨_, rfl⟩
      rw [hwd_] at F49 ⊢
      have wd51s : w41.heap.size ≤ wd51.heap.size := by rw [← hwd_]; exact Nat.le_refl _
      clear hwd_
      have hS50 := (And.intro (F49.cl 5 0 rfl rfl) (And.intro (F49.cl 5 1 rfl rfl) (And.intro (F49.cl 5 2 rfl rfl) (And.intro (F49.cl 5 3 rfl rfl) (And.intro (F49.cl 5 4 rfl rfl) (And.intro (F49.cl 5 5 rfl rfl) (And.intro (F49.cl 5 6 rfl rfl) (And.intro (F49.cl 5 7 rfl rfl) (And.intro (F49.cl 0 0 rfl rfl) (And.intro (F49.cl 0 1 rfl rfl) (And.intro (F49.cl 0 2 rfl rfl) (And.intro (F49.cl 0 3 rfl rfl) (And.intro ((((F49.at 2 rfl : Sl weaEnc 6 ld_dl hd_dl _ (.slice (some ⟨x43, o44, none⟩) dl.length dc_dl) dl)).cells hz47.out 0 _ rfl)) (And.intro ((((F49.at 2 rfl : Sl weaEnc 6 ld_dl hd_dl _ (.slice (some ⟨x43, o44, none⟩) dl.length dc_dl) dl)).cells hz47.out 1 _ rfl)) (And.intro ((((F49.at 2 rfl : Sl weaEnc 6 ld_dl hd_dl _ (.slice (some ⟨x43, o44, none⟩) dl.length dc_dl) dl)).cells hz47.out 2 _ rfl)) (And.intro ((((F49.at 2 rfl : Sl weaEnc 6 ld_dl hd_dl _ (.slice (some ⟨x43, o44, none⟩) dl.length dc_dl) dl)).cells hz47.out 3 _ rfl)) (And.intro ((((F49.at 2 rfl : Sl weaEnc 6 ld_dl hd_dl _ (.slice (some ⟨x43, o44, none⟩) dl.length dc_dl) dl)).cells hz47.out 4 _ rfl)) ((((F49.at 2 rfl : Sl weaEnc 6 ld_dl hd_dl _ (.slice (some ⟨x43, o44, none⟩) dl.length dc_dl) dl)).cells hz47.out 5 _ rfl)))))))))))))))))))
      refine ru_take 0 [] (v := ?_) rfl (by kernel_rfl) (fun _ _ _ h => h) (by assumption) (.inl ⟨by first | kernel_rfl | rfl, ?_⟩) ?_
      rotate_left
      · (intro wS hwS; (try dsimp only at hwS); go_simp; (try with_reducible rfl))
      (try simp only [Act.put, List.setIfInBounds_toArray, List.set_cons_zero, List.set_cons_succ])
      refine ru_take 1 [] (v := ?_) rfl (by kernel_rfl) (fun _ _ _ h => h) (by assumption) (.inl ⟨by first | kernel_rfl | rfl, ?_⟩) ?_
      rotate_left
      · (intro wS hwS; (try dsimp only at hwS); go_simp; (try with_reducible rfl))
      (try simp only [Act.put, List.setIfInBounds_toArray, List.set_cons_zero, List.set_cons_succ])
      refine ru_take 2 [] (v := ?_) rfl (by kernel_rfl) (fun _ _ _ h => h) (by assumption) (.inl ⟨by first | kernel_rfl | rfl, ?_⟩) ?_
      rotate_left
      · (intro wS hwS; (try dsimp only at hwS); go_simp; (try with_reducible rfl))
      (try simp only [Act.put, List.setIfInBounds_toArray, List.set_cons_zero, List.set_cons_succ])
      refine ru_take 3 [] (v := ?_) rfl (by kernel_rfl) (fun _ _ _ h => h) (by assumption) (.inl ⟨by first | kernel_rfl | rfl, ?_⟩) ?_
      rotate_left
      · (intro wS hwS; (try dsimp only at hwS); go_simp; (try with_reducible rfl))
      (try simp only [Act.put, List.setIfInBounds_toArray, List.set_cons_zero, List.set_cons_succ])
      refine ru_take 4 [] (v := ?_) rfl (by kernel_rfl) (fun _ _ _ h => h) (by assumption) (.inl ⟨by first | kernel_rfl | rfl, ?_⟩) ?_
      rotate_left
      · (intro wS hwS; (try dsimp only at hwS); go_simp; (try with_reducible rfl))
      (try simp only [Act.put, List.setIfInBounds_toArray, List.set_cons_zero, List.set_cons_succ])
      refine ru_take 5 [] (v := ?_) rfl (by kernel_rfl) (fun _ _ _ h => h) (by assumption) (.inl ⟨by first | kernel_rfl | rfl, ?_⟩) ?_
      rotate_left
      · (intro wS hwS; (try dsimp only at hwS); go_simp; (try with_reducible rfl))
      (try simp only [Act.put, List.setIfInBounds_toArray, List.set_cons_zero, List.set_cons_succ])
      refine ru_take 6 [] (v := ?_) rfl (by kernel_rfl) (fun _ _ _ h => h) (by assumption) (.inl ⟨by first | kernel_rfl | rfl, ?_⟩) ?_
      rotate_left
      · (intro wS hwS; (try dsimp only at hwS); go_simp; (try with_reducible rfl))
      (try simp only [Act.put, List.setIfInBounds_toArray, List.set_cons_zero, List.set_cons_succ])
      clear hS50
      refine ru_one 7 rfl (by kernel_rfl) (fun K hK => ?_)
      go_simp
      refine (afterK_c sb _ _ _ l yy (k : Int) z _ (F49.at 3 rfl : SeedAt _ sb) (F49.at 6 rfl : Sl covEnc 3 lo_l hi_l _ (.slice sal l.cov.length scl) l.cov) (by first | omega | (simp; omega)) (F49.neAt 3 6 rfl rfl (by decide) (.inl rfl) _ rfl) HL.out HFa.out (inI_K HIN.out (HK.out k (by omega))) (by omega) (HWD.out _ (List.mem_of_getElem? hz47.out))).mono ?_
      rintro e w54 ⟨uu, rfl, huu, hs53, hg52⟩
      have HIU : Hid (inI uu (stI l ic dl (k + 1))) := Lib.hid (by rw [stI_succ hz47.out]; exact huu _ _ (HK.out k (by omega)) HIN.out)
      clear huu
      have hg52s := hg52.size
      (try simp at hg52s)
      have F55 := F49.seedAt 3 rfl hg52 hs53
      clear F49
      refine ru_back hK (by exact ⟨F55.cl 5 0 rfl rfl, F55.cl 5 1 rfl rfl, F55.cl 5 2 rfl rfl, F55.cl 5 3 rfl rfl, F55.cl 5 4 rfl rfl, F55.cl 5 5 rfl rfl, F55.cl 5 6 rfl rfl, F55.cl 5 7 rfl rfl, F55.cl 0 0 rfl rfl, F55.cl 0 1 rfl rfl, F55.cl 0 2 rfl rfl, F55.cl 0 3 rfl rfl, (((F55.at 2 rfl : Sl weaEnc 6 ld_dl hd_dl _ (.slice (some ⟨x43, o44, none⟩) dl.length dc_dl) dl)).cells hz47.out 0 _ rfl), (((F55.at 2 rfl : Sl weaEnc 6 ld_dl hd_dl _ (.slice (some ⟨x43, o44, none⟩) dl.length dc_dl) dl)).cells hz47.out 1 _ rfl), (((F55.at 2 rfl : Sl weaEnc 6 ld_dl hd_dl _ (.slice (some ⟨x43, o44, none⟩) dl.length dc_dl) dl)).cells hz47.out 2 _ rfl), (((F55.at 2 rfl : Sl weaEnc 6 ld_dl hd_dl _ (.slice (some ⟨x43, o44, none⟩) dl.length dc_dl) dl)).cells hz47.out 3 _ rfl), (((F55.at 2 rfl : Sl weaEnc 6 ld_dl hd_dl _ (.slice (some ⟨x43, o44, none⟩) dl.length dc_dl) dl)).cells hz47.out 4 _ rfl), (((F55.at 2 rfl : Sl weaEnc 6 ld_dl hd_dl _ (.slice (some ⟨x43, o44, none⟩) dl.length dc_dl) dl)).cells hz47.out 5 _ rfl)⟩) (fun hHeld => ?_)
      clear hK K
      (try simp only [Act.put, List.setIfInBounds_toArray, List.set_cons_zero, List.set_cons_succ])
      refine ru_one 8 rfl (by kernel_rfl) (fun K hK => ?_)
      have kb_ := F55.bx4 0 rfl
      go_simp
      clear kb_
      have F56 := F55.pt4 (.int .i64 uu.bl) (.int .i64 uu.wh) (.int .i64 uu.we) (.int .i64 uu.sn)
      clear F55
      refine ru_back_late hK (by kernel_rfl) ?_
      clear hK K
      (try simp only [Act.put, List.setIfInBounds_toArray, List.set_cons_zero, List.set_cons_succ])
      refine ru_done (by kernel_rfl) ?_
      obtain ⟨w57, hx58, F60, hxs59⟩ := (show Bun w [rbox w35.heap.size 48 #[.int .i64 uu.bl, .int .i64 uu.wh, .int .i64 uu.we, .int .i64 uu.sn], rsl iceEnc 8 rl_a rh_a (.slice (some ⟨x45, o46, none⟩) dl.length rc_a) (runN l ic dl dl.length), rsl weaEnc 6 ld_dl hd_dl (.slice (some ⟨x43, o44, none⟩) dl.length dc_dl) dl, rseed sb, rbox (w13.heap.size + 1) 32 (iceC ic), rbox w13.heap.size 29 (froC l (.slice sal l.cov.length scl)), rsl covEnc 3 lo_l hi_l (.slice sal l.cov.length scl) l.cov, rsl intEnc 1 0 w.heap.size (.slice na zs.length nc) zs] _ from F56).name
      (try simp at hxs59)
      rw [hx58]
      clear hx58 F56
      go_wp2_with fail
      have F61 := F60.drew
      clear F60
      refine ru_begin (fun W => W.cell? ⟨w35.heap.size, 0, none⟩ = some (.int .i64 uu.bl) ∧ W.cell? ⟨w35.heap.size, 1, none⟩ = some (.int .i64 uu.wh) ∧ W.cell? ⟨w35.heap.size, 2, none⟩ = some (.int .i64 uu.we) ∧ W.cell? ⟨w35.heap.size, 3, none⟩ = some (.int .i64 uu.sn) ∧ W.cell? ⟨x45, o46 + k * 8, none⟩ = some (.int .i64 ((stI l ic dl (k + 1)).bl.lo)) ∧ W.cell? ⟨x45, o46 + k * 8 + 1, none⟩ = some (.int .i64 ((stI l ic dl (k + 1)).bl.hi)) ∧ W.cell? ⟨x45, o46 + k * 8 + 2, none⟩ = some (.int .i64 ((stI l ic dl (k + 1)).wh.lo)) ∧ W.cell? ⟨x45, o46 + k * 8 + 3, none⟩ = some (.int .i64 ((stI l ic dl (k + 1)).wh.hi)) ∧ W.cell? ⟨x45, o46 + k * 8 + 4, none⟩ = some (.int .i64 ((stI l ic dl (k + 1)).we.lo)) ∧ W.cell? ⟨x45, o46 + k * 8 + 5, none⟩ = some (.int .i64 ((stI l ic dl (k + 1)).we.hi)) ∧ W.cell? ⟨x45, o46 + k * 8 + 6, none⟩ = some (.int .i64 ((stI l ic dl (k + 1)).sn.lo)) ∧ W.cell? ⟨x45, o46 + k * 8 + 7, none⟩ = some (.int .i64 ((stI l ic dl (k + 1)).sn.hi))) 6 (by kernel_rfl) ?_ ?_
      · exact ⟨F61.cl 0 0 rfl rfl, F61.cl 0 1 rfl rfl, F61.cl 0 2 rfl rfl, F61.cl 0 3 rfl rfl, (((F61.at 1 rfl : Sl iceEnc 8 rl_a rh_a _ (.slice (some ⟨x45, o46, none⟩) dl.length rc_a) (runN l ic dl dl.length))).cells hz48.out 0 _ rfl), (((F61.at 1 rfl : Sl iceEnc 8 rl_a rh_a _ (.slice (some ⟨x45, o46, none⟩) dl.length rc_a) (runN l ic dl dl.length))).cells hz48.out 1 _ rfl), (((F61.at 1 rfl : Sl iceEnc 8 rl_a rh_a _ (.slice (some ⟨x45, o46, none⟩) dl.length rc_a) (runN l ic dl dl.length))).cells hz48.out 2 _ rfl), (((F61.at 1 rfl : Sl iceEnc 8 rl_a rh_a _ (.slice (some ⟨x45, o46, none⟩) dl.length rc_a) (runN l ic dl dl.length))).cells hz48.out 3 _ rfl), (((F61.at 1 rfl : Sl iceEnc 8 rl_a rh_a _ (.slice (some ⟨x45, o46, none⟩) dl.length rc_a) (runN l ic dl dl.length))).cells hz48.out 4 _ rfl), (((F61.at 1 rfl : Sl iceEnc 8 rl_a rh_a _ (.slice (some ⟨x45, o46, none⟩) dl.length rc_a) (runN l ic dl dl.length))).cells hz48.out 5 _ rfl), (((F61.at 1 rfl : Sl iceEnc 8 rl_a rh_a _ (.slice (some ⟨x45, o46, none⟩) dl.length rc_a) (runN l ic dl dl.length))).cells hz48.out 6 _ rfl), (((F61.at 1 rfl : Sl iceEnc 8 rl_a rh_a _ (.slice (some ⟨x45, o46, none⟩) dl.length rc_a) (runN l ic dl dl.length))).cells hz48.out 7 _ rfl)⟩
      obtain ⟨wd63, hwd_⟩ : ∃ x : World, w57.drew = x := ⟨_, rfl⟩
      rw [hwd_] at F61 ⊢
      have wd63s : w57.heap.size ≤ wd63.heap.size := by rw [← hwd_]; exact Nat.le_refl _
      clear hwd_
      have hS62 := (And.intro (F61.cl 0 0 rfl rfl) (And.intro (F61.cl 0 1 rfl rfl) (And.intro (F61.cl 0 2 rfl rfl) (And.intro (F61.cl 0 3 rfl rfl) (And.intro ((((F61.at 1 rfl : Sl iceEnc 8 rl_a rh_a _ (.slice (some ⟨x45, o46, none⟩) dl.length rc_a) (runN l ic dl dl.length))).cells hz48.out 0 _ rfl)) (And.intro ((((F61.at 1 rfl : Sl iceEnc 8 rl_a rh_a _ (.slice (some ⟨x45, o46, none⟩) dl.length rc_a) (runN l ic dl dl.length))).cells hz48.out 1 _ rfl)) (And.intro ((((F61.at 1 rfl : Sl iceEnc 8 rl_a rh_a _ (.slice (some ⟨x45, o46, none⟩) dl.length rc_a) (runN l ic dl dl.length))).cells hz48.out 2 _ rfl)) (And.intro ((((F61.at 1 rfl : Sl iceEnc 8 rl_a rh_a _ (.slice (some ⟨x45, o46, none⟩) dl.length rc_a) (runN l ic dl dl.length))).cells hz48.out 3 _ rfl)) (And.intro ((((F61.at 1 rfl : Sl iceEnc 8 rl_a rh_a _ (.slice (some ⟨x45, o46, none⟩) dl.length rc_a) (runN l ic dl dl.length))).cells hz48.out 4 _ rfl)) (And.intro ((((F61.at 1 rfl : Sl iceEnc 8 rl_a rh_a _ (.slice (some ⟨x45, o46, none⟩) dl.length rc_a) (runN l ic dl dl.length))).cells hz48.out 5 _ rfl)) (And.intro ((((F61.at 1 rfl : Sl iceEnc 8 rl_a rh_a _ (.slice (some ⟨x45, o46, none⟩) dl.length rc_a) (runN l ic dl dl.length))).cells hz48.out 6 _ rfl)) ((((F61.at 1 rfl : Sl iceEnc 8 rl_a rh_a _ (.slice (some ⟨x45, o46, none⟩) dl.length rc_a) (runN l ic dl dl.length))).cells hz48.out 7 _ rfl)))))))))))))
      refine ru_take 0 [5] (v := ?_) rfl (by kernel_rfl) (fun _ _ _ h => h) (by assumption) (.inl ⟨by first | kernel_rfl | rfl, ?_⟩) ?_
      rotate_left
      · (intro wS hwS; (try dsimp only at hwS); go_simp; (try with_reducible rfl))
      (try simp only [Act.put, List.setIfInBounds_toArray, List.set_cons_zero, List.set_cons_succ])
      refine ru_take 1 [5, 4, 3] (v := ?_) rfl (by kernel_rfl) (fun _ _ _ h => h) (by assumption) (.inl ⟨by first | kernel_rfl | rfl, ?_⟩) ?_
      rotate_left
      · (intro wS hwS; (try dsimp only at hwS); go_simp; (try with_reducible rfl))
      (try simp only [Act.put, List.setIfInBounds_toArray, List.set_cons_zero, List.set_cons_succ])
      refine ru_take 2 [5, 4, 3] (v := ?_) rfl (by kernel_rfl) (fun _ _ _ h => h) (by assumption) (.inl ⟨by first | kernel_rfl | rfl, ?_⟩) ?_
      rotate_left
      · (intro wS hwS; (try dsimp only at hwS); go_simp; (try with_reducible rfl))
      (try simp only [Act.put, List.setIfInBounds_toArray, List.set_cons_zero, List.set_cons_succ])
      refine ru_take 3 [5, 4] (v := ?_) rfl (by kernel_rfl) (fun _ _ _ h => h) (by assumption) (.inl ⟨by first | kernel_rfl | rfl, ?_⟩) ?_
      rotate_left
      · (intro wS hwS; (try dsimp only at hwS); go_simp; (try with_reducible rfl))
      (try simp only [Act.put, List.setIfInBounds_toArray, List.set_cons_zero, List.set_cons_succ])
      refine ru_take 4 [5] (v := ?_) rfl (by kernel_rfl) (fun _ _ _ h => h) (by assumption) (.inl ⟨by first | kernel_rfl | rfl, ?_⟩) ?_
      rotate_left
      · (intro wS hwS; (try dsimp only at hwS); go_simp; (try with_reducible rfl))
      (try simp only [Act.put, List.setIfInBounds_toArray, List.set_cons_zero, List.set_cons_succ])
      clear hS62
      refine ru_one 5 rfl (by kernel_rfl) (fun K hK => ?_)
      go_simp
      refine (inIce_yes HIU.out _).mono ?_
      rintro e w66 ⟨rfl, hg64⟩
      have hg64s := hg64.size
      (try simp at hg64s)
      have F67 := F61.gn hg64
      clear F61
      refine ru_back hK (by exact ⟨F67.cl 0 0 rfl rfl, F67.cl 0 1 rfl rfl, F67.cl 0 2 rfl rfl, F67.cl 0 3 rfl rfl, (((F67.at 1 rfl : Sl iceEnc 8 rl_a rh_a _ (.slice (some ⟨x45, o46, none⟩) dl.length rc_a) (runN l ic dl dl.length))).cells hz48.out 0 _ rfl), (((F67.at 1 rfl : Sl iceEnc 8 rl_a rh_a _ (.slice (some ⟨x45, o46, none⟩) dl.length rc_a) (runN l ic dl dl.length))).cells hz48.out 1 _ rfl), (((F67.at 1 rfl : Sl iceEnc 8 rl_a rh_a _ (.slice (some ⟨x45, o46, none⟩) dl.length rc_a) (runN l ic dl dl.length))).cells hz48.out 2 _ rfl), (((F67.at 1 rfl : Sl iceEnc 8 rl_a rh_a _ (.slice (some ⟨x45, o46, none⟩) dl.length rc_a) (runN l ic dl dl.length))).cells hz48.out 3 _ rfl), (((F67.at 1 rfl : Sl iceEnc 8 rl_a rh_a _ (.slice (some ⟨x45, o46, none⟩) dl.length rc_a) (runN l ic dl dl.length))).cells hz48.out 4 _ rfl), (((F67.at 1 rfl : Sl iceEnc 8 rl_a rh_a _ (.slice (some ⟨x45, o46, none⟩) dl.length rc_a) (runN l ic dl dl.length))).cells hz48.out 5 _ rfl), (((F67.at 1 rfl : Sl iceEnc 8 rl_a rh_a _ (.slice (some ⟨x45, o46, none⟩) dl.length rc_a) (runN l ic dl dl.length))).cells hz48.out 6 _ rfl), (((F67.at 1 rfl : Sl iceEnc 8 rl_a rh_a _ (.slice (some ⟨x45, o46, none⟩) dl.length rc_a) (runN l ic dl dl.length))).cells hz48.out 7 _ rfl)⟩) (fun hHeld => ?_)
      clear hK K
      (try simp only [Act.put, List.setIfInBounds_toArray, List.set_cons_zero, List.set_cons_succ])
      refine ru_one 6 rfl (by kernel_rfl) (fun K hK => ?_)
      go_simp
      refine ru_back_late hK (by kernel_rfl) ?_
      clear hK K
      (try simp only [Act.put, List.setIfInBounds_toArray, List.set_cons_zero, List.set_cons_succ])
      refine ru_done (by kernel_rfl) ?_
      obtain ⟨w68, hx69, F71, hxs70⟩ := (show Bun w [rbox w35.heap.size 48 #[.int .i64 uu.bl, .int .i64 uu.wh, .int .i64 uu.we, .int .i64 uu.sn], rsl iceEnc 8 rl_a rh_a (.slice (some ⟨x45, o46, none⟩) dl.length rc_a) (runN l ic dl dl.length), rsl weaEnc 6 ld_dl hd_dl (.slice (some ⟨x43, o44, none⟩) dl.length dc_dl) dl, rseed sb, rbox (w13.heap.size + 1) 32 (iceC ic), rbox w13.heap.size 29 (froC l (.slice sal l.cov.length scl)), rsl covEnc 3 lo_l hi_l (.slice sal l.cov.length scl) l.cov, rsl intEnc 1 0 w.heap.size (.slice na zs.length nc) zs] _ from F67).name
      (try simp at hxs70)
      rw [hx69]
      clear hx69 F67
      go_wp2_with fail
      (first | refine ⟨by kernel_rfl, ?_, ?_⟩ | refine ⟨rfl, ?_, ?_⟩ | refine ⟨?_, ?_⟩)
      · rw [HI38.out]; exact ⟨k + 1, uu, (by first | kernel_rfl | rfl), (by first | kernel_rfl | rfl), (by first | kernel_rfl | rfl), (by first | kernel_rfl | rfl), (by first | kernel_rfl | rfl), (by first | kernel_rfl | rfl), (by show Value.int .i64 ((k : Int) + 1) = _; simp), (by omega), HIU.out, (by first | rfl | simp), (by first | omega | (simp; done) | (simp; omega)), F71⟩
      · simp [slot, intOf]; omega
    · skip
      have c42H := Lib.hid c42
      have c42a : decide ((k : Int) < (dl.length : Int)) = false := dec_f c42
      have b72 := hF39.bx8 4 rfl
      have b73 := hF39.bx8 5 rfl
      go_wp2_with fail
      clear b72 b73
      refine (bearing_ok _ _ _ l ic _ (hF39.at 6 rfl : Sl covEnc 3 lo_l hi_l _ (.slice sal l.cov.length scl) l.cov) (by first | omega | (simp; omega)) (allE_of HFl.out hic (fun _ h_ => by cases h_) (by simp))).mono ?_
      rintro e w76 ⟨rfl, hg74⟩
      have hg74s := hg74.size
      (try simp at hg74s)
      have F77 := hF39.gn hg74
      clear hF39
      clear hg74
      have b78 := F77.bx8 4 rfl
      go_wp2_with fail
      clear b78
      have F79 := F77.new 27 #[.int .i64 ((brs l ic).lo), .int .i64 ((brs l ic).hi)] (n := w76.heap.size) (by simp)
      clear F77
      refine (trueIce_c sb ic _ (F79.at 4 rfl : SeedAt _ sb) hic).mono ?_
      rintro e w82 ⟨uu, rfl, huu, hs81, hg80⟩
      have huub := huu
      obtain ⟨⟨⟨huu1, huu2⟩, huu3, huu4⟩, ⟨huu5, huu6⟩, huu7, huu8⟩ := huub
      have htu := huu
      obtain ⟨hbe1, hbe2⟩ := bear_in HL.out HIK.out huu
      have hg80s := hg80.size
      (try simp at hg80s)
      have F83 := F79.seedAt 4 rfl hg80 hs81
      clear F79
      clear hg80
      go_wp2_with fail
      have F88 := F83.new 48 #[.int .i64 uu.bl, .int .i64 uu.wh, .int .i64 uu.we, .int .i64 uu.sn] (n := w82.heap.size) (by simp)
      clear F83
      have b93 := F88.bx4 0 rfl
      have b94 := F88.bx8 7 rfl
      have hd89w := HL.out.white
      have hd89 := dn_bd (n := uu.wh) (p := l.white.lo) (by omega) (by omega) (by omega)
      have hd91w := HL.out.white
      have hd91 := up_bd (n := uu.wh) (p := l.white.hi) (by omega) (by omega) (by omega)
      have hw90 : IntKind.i64.wrap (uu.bl + (dn uu.wh l.white.lo)) = uu.bl + (dn uu.wh l.white.lo) := IntWalk.i64_in _ (by omega)
      have hw92 : IntKind.i64.wrap (uu.bl + (upp uu.wh l.white.hi)) = uu.bl + (upp uu.wh l.white.hi) := IntWalk.i64_in _ (by omega)
      go_quiet (first | (go_at_call 51; exact Calls.quiet_of_same ((rdown_c _ _ _ (by omega) (by omega) (by omega) (by omega)).mono (fun _ _ h => ⟨h.1, h.2.symm⟩))) | (go_at_call 52; exact Calls.quiet_of_same ((rup_c _ _ _ (by omega) (by omega) (by omega) (by omega)).mono (fun _ _ h => ⟨h.1, h.2.symm⟩))))
      clear b93 b94 hw90 hw92
      have F95 := F88.drewN nq
      clear F88
      obtain ⟨w96, hx97, F99, hxs98⟩ := (show Bun w [rbox w82.heap.size 48 #[.int .i64 uu.bl, .int .i64 uu.wh, .int .i64 uu.we, .int .i64 uu.sn], rbox w76.heap.size 27 #[.int .i64 ((brs l ic).lo), .int .i64 ((brs l ic).hi)], rsl iceEnc 8 rl_a rh_a (.slice ra_a dl.length rc_a) (runN l ic dl dl.length), rsl weaEnc 6 ld_dl hd_dl (.slice da_dl dl.length dc_dl) dl, rseed sb, rsl covEnc 3 lo_l hi_l (.slice sal l.cov.length scl) l.cov, rsl intEnc 1 0 w.heap.size (.slice na zs.length nc) zs] _ from (((F95.drop 2 rfl).drop 5 rfl).drop 5 rfl)).name
      (try simp at hxs98)
      rw [hx97]
      clear hx97 F95
      have kn100 : (brs l ic).lo ≤ uu.bl + (dn uu.wh l.white.lo) := hbe1
      have kn100H := Lib.hid kn100
      have kn100a : decide ((brs l ic).lo ≤ uu.bl + (dn uu.wh l.white.lo)) = true := decide_eq_true kn100
      have kn101 : uu.bl + (upp uu.wh l.white.hi) ≤ (brs l ic).hi := hbe2
      have kn101H := Lib.hid kn101
      have kn101a : decide (uu.bl + (upp uu.wh l.white.hi) ≤ (brs l ic).hi) = true := decide_eq_true kn101
      by_cases c102 : soundV ic = 1
      · skip
        have c102a : ((soundV ic) == 1) = true := beq_t c102
        have c102b : ((soundV ic) != 1) = false := bne_f c102
        have c102H := Lib.hid c102
        clear c102
        have kn103 : uu.we = 0 := (by have h_ := c102H.out; unfold soundV at h_; have := htu; split at h_ <;> first | omega | (split at h_ <;> omega))
        have kn103H := Lib.hid kn103
        have kn103a : (uu.we == 0) = true := beq_t kn103
        have kn103b : (uu.we != 0) = false := bne_f kn103
        clear kn103
        by_cases c104 : soundV ic = 2
        · skip
          have c104a : ((soundV ic) == 2) = true := beq_t c104
          have c104b : ((soundV ic) != 2) = false := bne_f c104
          have c104H := Lib.hid c104
          clear c104
          have kn105 : 0 < uu.we := (by have h_ := c104H.out; unfold soundV at h_; have := htu; split at h_ <;> first | omega | (split at h_ <;> omega))
          have kn105H := Lib.hid kn105
          have kn105a : decide (0 < uu.we) = true := decide_eq_true kn105
          have b106 := F99.bx4 0 rfl
          have b107 := F99.bx2 1 rfl
          go_wp2_with fail
          clear b106 b107
          refine (awake_c _).mono ?_
          rintro e w110 ⟨rfl, hg108⟩
          have hg108s := hg108.size
          (try simp at hg108s)
          have F111 := F99.gn hg108
          clear F99
          clear hg108
          go_wp2_with fail
          go_ret
          exact ⟨rfl, F111.gb⟩
        · skip
          have c104a : ((soundV ic) == 2) = false := beq_f c104
          have c104b : ((soundV ic) != 2) = true := bne_t c104
          have c104H := Lib.hid c104
          clear c104
          have b112 := F99.bx4 0 rfl
          have b113 := F99.bx2 1 rfl
          go_wp2_with fail
          clear b112 b113
          refine (awake_c _).mono ?_
          rintro e w116 ⟨rfl, hg114⟩
          have hg114s := hg114.size
          (try simp at hg114s)
          have F117 := F99.gn hg114
          clear F99
          clear hg114
          go_wp2_with fail
          go_ret
          exact ⟨rfl, F117.gb⟩
      · skip
        have c102a : ((soundV ic) == 1) = false := beq_f c102
        have c102b : ((soundV ic) != 1) = true := bne_t c102
        have c102H := Lib.hid c102
        clear c102
        by_cases c118 : soundV ic = 2
        · skip
          have c118a : ((soundV ic) == 2) = true := beq_t c118
          have c118b : ((soundV ic) != 2) = false := bne_f c118
          have c118H := Lib.hid c118
          clear c118
          have kn119 : 0 < uu.we := (by have h_ := c118H.out; unfold soundV at h_; have := htu; split at h_ <;> first | omega | (split at h_ <;> omega))
          have kn119H := Lib.hid kn119
          have kn119a : decide (0 < uu.we) = true := decide_eq_true kn119
          have b120 := F99.bx4 0 rfl
          have b121 := F99.bx2 1 rfl
          go_wp2_with fail
          clear b120 b121
          refine (awake_c _).mono ?_
          rintro e w124 ⟨rfl, hg122⟩
          have hg122s := hg122.size
          (try simp at hg122s)
          have F125 := F99.gn hg122
          clear F99
          clear hg122
          go_wp2_with fail
          go_ret
          exact ⟨rfl, F125.gb⟩
        · skip
          have c118a : ((soundV ic) == 2) = false := beq_f c118
          have c118b : ((soundV ic) != 2) = true := bne_t c118
          have c118H := Lib.hid c118
          clear c118
          have b126 := F99.bx2 1 rfl
          go_wp2_with fail
          clear b126
          refine (awake_c _).mono ?_
          rintro e w129 ⟨rfl, hg127⟩
          have hg127s := hg127.size
          (try simp at hg127s)
          have F130 := F99.gn hg127
          clear F99
          clear hg127
          go_wp2_with fail
          go_ret
          exact ⟨rfl, F130.gb⟩
  case atStart17 =>
    rw [HI38.out]
    exact ⟨0, tt, (by first | kernel_rfl | rfl), (by first | kernel_rfl | rfl), (by first | kernel_rfl | rfl), (by first | kernel_rfl | rfl), (by first | kernel_rfl | rfl), (by first | kernel_rfl | rfl), rfl, Nat.zero_le _, htt, rfl, (by first | exact Nat.le_refl _ | omega | (simp; done) | (simp; omega)), F37⟩

end Go.Proofs.Ythblaiefalbomaa
