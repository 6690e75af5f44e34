/- frost: FrostNarrows walked. -/
import Derived.Test.YthblaiefalbomaaF38
import Derived.Test.YthblaiefalbomaaF26
import Derived.Test.YthblaiefalbomaaF24
set_option linter.unusedVariables false
set_option linter.unusedSimpArgs false
set_option linter.unnecessarySimpa false
namespace Go.Proofs.Ythblaiefalbomaa
open Go.RowKit
set_option maxRecDepth 100000

set_option maxHeartbeats 16000000 in
theorem narrows_walk (vn : Value) (zs : List Int) (w : World) (hn : Sl intEnc 1 0 w.heap.size w vn zs) :
    Calls Try.prog 11 #[vn] w (Ret (.bool true) w) := by
  have F1 : Bun w [] w := Bun.nil _
  obtain ⟨na, nc, rfl⟩ := hn.any
  have hm_nums := hn.len
  unfold maxLen at hm_nums
  have F2 := F1.sl0 hn (Nat.le_refl _) rfl
  clear F1
  go_enter Try.func11, Try.ntmps11
  go_wp2_with fail
  refine (newSeed_c 0 w.heap.size _ zs _ (F2.at 0 rfl : Sl intEnc 1 0 w.heap.size _ (.slice na zs.length nc) zs)).mono ?_
  rintro e w5 ⟨sb, rfl, hsb, hsbs, hg3⟩
  have hsbl := hsbs.lt
  have hg3s := hg3.size
  (try simp at hg3s)
  have F6 := F2.add (rseed sb) hg3 (hsbs) (fun g e => by cases e; exact ⟨hsb, hsbs.lt⟩)
  clear F2
  clear hg3
  go_wp2_with fail
  refine (frostOf_c sb _ (F6.at 0 rfl : SeedAt _ sb)).mono ?_
  rintro e w9 ⟨l, vl, lo_l, hi_l, rfl, hxl, hyl, hzl, hfl, hs8, hg7⟩
  obtain ⟨sal, scl, rfl⟩ := hzl.any
  have HFl := Lib.hid hfl
  clear hfl
  have hml := hzl.len
  unfold maxLen at hml
  have hg7s := hg7.size
  (try simp at hg7s)
  have F10 := F6.seedAdd (rsl covEnc 3 lo_l hi_l (.slice sal l.cov.length scl) l.cov) hg7 hs8 (hzl) (fun g e => ⟨Nat.le_trans hxl e.1, Nat.lt_of_lt_of_le e.2 hyl⟩)
  clear F6
  clear hg7
  go_wp2_with fail
  refine (iceOf_c sb _ (F10.at 1 rfl : SeedAt _ sb)).mono ?_
  rintro e w13 ⟨ic, rfl, ⟨hic, hicm⟩, hs12, hg11⟩
  have hicb := iceB hic
  have hg11s := hg11.size
  (try simp at hg11s)
  have F14 := F10.seedAt 1 rfl hg11 hs12
  clear F10
  clear hg11
  go_wp2_with fail
  have F16 := F14.new 29 (froC l (.slice sal l.cov.length scl)) (n := w13.heap.size) (by simp)
  clear F14
  have F17 := F16.new 32 (iceC ic) (n := (w13.heap.size + 1)) (by simp)
  clear F16
  refine (yes_c sb 2 _ (F17.at 3 rfl : SeedAt _ sb) (by omega) (by omega)).mono ?_
  rintro e w20 ⟨yb15, rfl, hs19, hg18⟩
  have hg18s := hg18.size
  (try simp at hg18s)
  have F21 := F17.seedAt 3 rfl hg18 hs19
  clear F17
  clear hg18
  go_wp2_with fail
  refine (daysOf_s sb 10 yb15 _ ((F21.front 3 rfl rfl).at 0 rfl : SeedAt _ sb) (by omega)).mono ?_
  rintro e w24 ⟨dl, da_dl, dc_dl, ld_dl, hd_dl, rfl, ⟨hdxdl, hdydl, hdcdl⟩, hdzdl, hdndl, hdvdl, hs23, hg22⟩
  have HDdl := Lib.hid hdvdl
  clear hdvdl
  have hg22s := hg22.size
  (try simp at hg22s)
  have F25 := (F21.front 3 rfl rfl).seedAdd (rsl weaEnc 6 ld_dl hd_dl (.slice da_dl dl.length dc_dl) dl) hg22 hs23 (hdzdl) (fun g e => ⟨Nat.le_trans hdxdl e.1, Nat.lt_of_lt_of_le e.2 hdydl⟩)
  clear F21
  clear hg22
  have b26 := F25.bx8 2 rfl
  go_wp2_with fail
  clear b26
  refine (innerIce_c sb ic _ (F25.at 1 rfl : SeedAt _ sb) hic).mono ?_
  rintro e w29 ⟨yy, rfl, hyy, hyys, hs28, hg27⟩
  have hyyb := iceB hyy
  have hg27s := hg27.size
  (try simp at hg27s)
  have F30 := F25.seedAt 1 rfl hg27 hs28
  clear F25
  clear hg27
  go_wp2_with fail
  refine (innerDays_c sb _ _ _ dl _ ((F30.front 1 rfl rfl).at 0 rfl : SeedAt _ sb) (F30.at 0 rfl : Sl weaEnc 6 ld_dl hd_dl _ (.slice da_dl dl.length dc_dl) dl) (by first | omega | (simp; omega)) (F30.neAt 1 0 rfl rfl (by decide) (.inl rfl) _ rfl) (fun d_ h_ => (HDdl.out d_ h_).1) (by omega)).mono ?_
  rintro e w33 ⟨vd_nar, nar, ld_nar, hd_nar, rfl, hdxnar, hdynar, hdznar, hdsnar, hdvnar, hs32, hg31⟩
  obtain ⟨da_nar, dc_nar, rfl⟩ := hdznar.any
  have HVnar := Lib.hid hdvnar
  have HSnar := Lib.hid hdsnar
  have hnlnar : nar.length ≤ dl.length := Nat.le_of_eq hdsnar.1
  have hnmnar : dl.length ≤ nar.length := Nat.le_of_eq hdsnar.1.symm
  clear hdvnar hdsnar
  have hg31s := hg31.size
  (try simp at hg31s)
  have F34 := (F30.front 1 rfl rfl).seedAdd (rsl weaEnc 6 ld_nar hd_nar (.slice da_nar nar.length dc_nar) nar) hg31 hs32 (hdznar) (fun g e => ⟨Nat.le_trans hdxnar e.1, Nat.lt_of_lt_of_le e.2 hdynar⟩)
  clear F30
  clear hg31
  have HL := Lib.hid (lawOk HFl.out)
  have HFa := Lib.hid (lawFalls HFl.out)
  have HW1 : Hid (∀ d ∈ dl, WeaOk d) := Lib.hid (fun d_ h_ => weaOk (HDdl.out d_ h_).1)
  have HW2 : Hid (∀ d ∈ nar, WeaOk d) := Lib.hid (fun d_ h_ => weaOk (HVnar.out d_ h_))
  have HSU := Lib.hid hyys
  have HRS := Lib.hid (runs_sub HL.out HFa.out (iceK hic) (iceK hyy) (okI_of hyy) HW1.out HW2.out (by omega) HSU.out HSnar.out)
  have HBS := Lib.hid (brs_sub HL.out (iceK hic) (iceK hyy) HSU.out)
  have b35 := F34.bx8 3 rfl
  have b36 := F34.bx8 4 rfl
  go_wp2_with fail
  clear b35 b36
  have F37 := F34.new 32 (iceC yy) (n := w33.heap.size) (by simp)
  clear F34
  refine (run_ok _ _ _ l ic _ _ _ dl _ (F37.at 6 rfl : Sl covEnc 3 lo_l hi_l _ (.slice sal l.cov.length scl) l.cov) (by first | omega | (simp; omega)) (F37.at 3 rfl : Sl weaEnc 6 ld_dl hd_dl _ (.slice da_dl dl.length dc_dl) dl) (by first | omega | (simp; omega)) (allE_of HFl.out hic (fun d_ h_ => (HDdl.out d_ h_).1) (by omega))).mono ?_
  rintro e w40 ⟨ra_a, rc_a, rl_a, rh_a, rfl, ⟨rxa, rya, rza⟩, rwa, hg38⟩
  have hg38s := hg38.size
  (try simp at hg38s)
  have F41 := F37.add (rsl iceEnc 8 rl_a rh_a (.slice ra_a dl.length rc_a) (runN l ic dl dl.length)) hg38 (rwa) (fun g e => ⟨Nat.le_trans rxa e.1, Nat.lt_of_lt_of_le e.2 rya⟩)
  clear F37
  clear hg38
  have b42 := F41.bx8 1 rfl
  have b43 := F41.bx8 6 rfl
  go_wp2_with fail
  clear b42 b43
  refine (run_ok _ _ _ l yy _ _ _ nar _ (F41.at 7 rfl : Sl covEnc 3 lo_l hi_l _ (.slice sal l.cov.length scl) l.cov) (by first | omega | (simp; omega)) (F41.at 2 rfl : Sl weaEnc 6 ld_nar hd_nar _ (.slice da_nar nar.length dc_nar) nar) (by first | omega | (simp; omega)) (allE_of HFl.out hyy HVnar.out (by omega))).mono ?_
  rintro e w46 ⟨ra_b, rc_b, rl_b, rh_b, rfl, ⟨rxb, ryb, rzb⟩, rwb, hg44⟩
  have hg44s := hg44.size
  (try simp at hg44s)
  have F47 := F41.add (rsl iceEnc 8 rl_b rh_b (.slice ra_b nar.length rc_b) (runN l yy nar nar.length)) hg44 (rwb) (fun g e => ⟨Nat.le_trans rxb e.1, Nat.lt_of_lt_of_le e.2 ryb⟩)
  clear F41
  clear hg44
  go_wp2_with fail
  have F52 := F47.drew
  clear F47
  refine ru_begin (fun W => W.cell? ⟨(w13.heap.size + 1), 0, none⟩ = some (.int .i64 ic.bl.lo)) 6 (by kernel_rfl) ?_ ?_
  · exact F52.cl 6 0 rfl rfl
  obtain ⟨wd54, hwd_⟩ : ∃ x : World, w46.drew = x := ⟨_, rfl⟩
  rw [hwd_] at F52 ⊢
  have wd54s : w46.heap.size ≤ wd54.heap.size := by rw [← hwd_]; exact Nat.le_refl _
  clear hwd_
  have hS53 := (F52.cl 6 0 rfl rfl)
  refine ru_take 0 [] (v := ?_) rfl (by kernel_rfl) (fun _ _ _ h => h) (by assumption) (.inl ⟨by first | kernel_rfl | rfl, ?_⟩) ?_
  rotate_left
  · (intro wS hwS; (try dsimp only at hwS); go_simp; (try with_reducible rfl))
  (try simp only [Act.put, List.setIfInBounds_toArray, List.set_cons_zero, List.set_cons_succ])
  refine ru_take 1 [] (v := ?_) rfl (by kernel_rfl) (fun _ _ _ h => h) (by assumption) (.inl ⟨by first | kernel_rfl | rfl, ?_⟩) ?_
  rotate_left
  · (intro wS hwS; (try dsimp only at hwS); go_simp; (try with_reducible rfl))
  (try simp only [Act.put, List.setIfInBounds_toArray, List.set_cons_zero, List.set_cons_succ])
  refine ru_take 2 [] (v := ?_) rfl (by kernel_rfl) (fun _ _ _ h => h) (by assumption) (.inl ⟨by first | kernel_rfl | rfl, ?_⟩) ?_
  rotate_left
  · (intro wS hwS; (try dsimp only at hwS); go_simp; (try with_reducible rfl))
  (try simp only [Act.put, List.setIfInBounds_toArray, List.set_cons_zero, List.set_cons_succ])
  refine ru_take 3 [] (v := ?_) rfl (by kernel_rfl) (fun _ _ _ h => h) (by assumption) (.inl ⟨by first | kernel_rfl | rfl, ?_⟩) ?_
  rotate_left
  · (intro wS hwS; (try dsimp only at hwS); go_simp; (try with_reducible rfl))
  (try simp only [Act.put, List.setIfInBounds_toArray, List.set_cons_zero, List.set_cons_succ])
  clear hS53
  refine ru_one 4 rfl (by kernel_rfl) (fun K hK => ?_)
  go_simp
  refine (from_c sb (-5) 200 _ (F52.at 4 rfl : SeedAt _ sb) (by omega) (by omega) (by omega) (by omega)).mono ?_
  rintro e w59 ⟨r55, rfl, hr56, hs58, hg57⟩
  unfold fromR at hr56; have hr56b : (-5) ≤ r55 ∧ r55 ≤ 200 := (by omega); clear hr56
  have hg57s := hg57.size
  (try simp at hg57s)
  have F60 := F52.seedAt 4 rfl hg57 hs58
  clear F52
  refine ru_back hK (by exact F60.cl 6 0 rfl rfl) (fun hHeld => ?_)
  clear hK K
  (try simp only [Act.put, List.setIfInBounds_toArray, List.set_cons_zero, List.set_cons_succ])
  have hw61 : IntKind.i64.wrap (ic.bl.lo + r55) = ic.bl.lo + r55 := IntWalk.i64_in _ (by omega)
  refine ru_pure 5 (v := ?_) rfl (by kernel_rfl) (fun _ _ _ h => h) (fun hd_ => by first | assumption | (exact absurd hd_ (by decide))) (.inl ⟨by first | kernel_rfl | rfl, ?_⟩) ?_
  rotate_left
  · (intro wS hwS; clear hwS; go_simp; (try with_reducible rfl))
  (try simp only [Act.put, List.setIfInBounds_toArray, List.set_cons_zero, List.set_cons_succ])
  refine ru_one 6 rfl (by kernel_rfl) (fun K hK => ?_)
  go_simp
  refine ru_back_late hK (by kernel_rfl) ?_
  clear hK K
  (try simp only [Act.put, List.setIfInBounds_toArray, List.set_cons_zero, List.set_cons_succ])
  refine ru_done (by kernel_rfl) ?_
  (try clear hw61)
  obtain ⟨w62, hx63, F65, hxs64⟩ := (show Bun w [rsl iceEnc 8 rl_b rh_b (.slice ra_b nar.length rc_b) (runN l yy nar nar.length), rsl iceEnc 8 rl_a rh_a (.slice ra_a dl.length rc_a) (runN l ic dl dl.length), rbox w33.heap.size 32 (iceC yy), rsl weaEnc 6 ld_nar hd_nar (.slice da_nar nar.length dc_nar) nar, rseed sb, rsl weaEnc 6 ld_dl hd_dl (.slice da_dl dl.length dc_dl) dl, rbox (w13.heap.size + 1) 32 (iceC ic), rbox w13.heap.size 29 (froC l (.slice sal l.cov.length scl)), rsl covEnc 3 lo_l hi_l (.slice sal l.cov.length scl) l.cov, rsl intEnc 1 0 w.heap.size (.slice na zs.length nc) zs] _ from F60).name
  (try simp at hxs64)
  rw [hx63]
  clear hx63 F60
  by_cases c66 : ic.bl.lo + r55 < 0
  · skip
    have c66H := Lib.hid c66
    have b67 := F65.bx8 6 rfl
    have b68 := F65.bx8 7 rfl
    go_wp2_with fail
    clear b67 b68
    refine (ready_ok _ _ _ l ic _ _ _ dl 0 _ (F65.at 8 rfl : Sl covEnc 3 lo_l hi_l _ (.slice sal l.cov.length scl) l.cov) (by first | omega | (simp; omega)) (F65.at 5 rfl : Sl weaEnc 6 ld_dl hd_dl _ (.slice da_dl dl.length dc_dl) dl) (by first | omega | (simp; omega)) (allE_of HFl.out hic (fun d_ h_ => (HDdl.out d_ h_).1) (by omega)) (by omega)).mono ?_
    rintro e w71 ⟨rfl, hg69⟩
    have hg69s := hg69.size
    (try simp at hg69s)
    have F72 := F65.gn hg69
    clear F65
    clear hg69
    have b73 := F72.bx8 2 rfl
    have b74 := F72.bx8 7 rfl
    go_wp2_with fail
    clear b73 b74
    refine (ready_ok _ _ _ l yy _ _ _ nar 0 _ (F72.at 8 rfl : Sl covEnc 3 lo_l hi_l _ (.slice sal l.cov.length scl) l.cov) (by first | omega | (simp; omega)) (F72.at 3 rfl : Sl weaEnc 6 ld_nar hd_nar _ (.slice da_nar nar.length dc_nar) nar) (by first | omega | (simp; omega)) (allE_of HFl.out hyy HVnar.out (by omega)) (by omega)).mono ?_
    rintro e w77 ⟨rfl, hg75⟩
    have hg75s := hg75.size
    (try simp at hg75s)
    have F78 := F72.gn hg75
    clear F72
    clear hg75
    have HRDY := Lib.hid (ready_sub HL.out HFa.out (iceK hic) (iceK hyy) (okI_of hyy) HW1.out HW2.out (by omega) HSU.out HSnar.out (readyE_ok (need := 0) (allE_of HFl.out hic (fun d_ h_ => (HDdl.out d_ h_).1) (by omega)) (by omega)) (readyE_ok (allE_of HFl.out hyy HVnar.out (by omega)) (by omega)))
    have b79 := F78.bx8 6 rfl
    have b80 := F78.bx8 7 rfl
    go_wp2_with fail
    clear b79 b80
    refine (bearing_ok _ _ _ l ic _ (F78.at 8 rfl : Sl covEnc 3 lo_l hi_l _ (.slice sal l.cov.length scl) l.cov) (by first | omega | (simp; omega)) (allE_of HFl.out hic (fun _ h_ => by cases h_) (by simp))).mono ?_
    rintro e w83 ⟨rfl, hg81⟩
    have hg81s := hg81.size
    (try simp at hg81s)
    have F84 := F78.gn hg81
    clear F78
    clear hg81
    have b85 := F84.bx8 2 rfl
    have b86 := F84.bx8 7 rfl
    go_wp2_with fail
    clear b85 b86
    have F87 := F84.new 27 #[.int .i64 ((brs l ic).lo), .int .i64 ((brs l ic).hi)] (n := w83.heap.size) (by simp)
    clear F84
    refine (bearing_ok _ _ _ l yy _ (F87.at 9 rfl : Sl covEnc 3 lo_l hi_l _ (.slice sal l.cov.length scl) l.cov) (by first | omega | (simp; omega)) (allE_of HFl.out hyy (fun _ h_ => by cases h_) (by simp))).mono ?_
    rintro e w90 ⟨rfl, hg88⟩
    have hg88s := hg88.size
    (try simp at hg88s)
    have F91 := F87.gn hg88
    clear F87
    clear hg88
    have kn92 : (dl.length : Int) = (nar.length : Int) := (by omega)
    have kn92H := Lib.hid kn92
    have kn92a : ((dl.length : Int) == (nar.length : Int)) = true := beq_t kn92
    have kn92b : ((dl.length : Int) != (nar.length : Int)) = false := bne_f kn92
    clear kn92
    have b93 := F91.bx2 0 rfl
    go_wp2_with fail
    clear b93
    have F94 := F91.new 27 #[.int .i64 ((brs l yy).lo), .int .i64 ((brs l yy).hi)] (n := w90.heap.size) (by simp)
    clear F91
    refine (in_yes HBS.out _).mono ?_
    rintro e w97 ⟨rfl, hg95⟩
    have hg95s := hg95.size
    (try simp at hg95s)
    have F98 := F94.gn hg95
    clear F94
    clear hg95
    go_wp2_with fail
    (skip)
    obtain ⟨HI99_, HI990⟩ : ∃ I : (Nat → Value) → List Deferred → World → Prop, I = (fun t ds wr => ∃ (k : Nat), t 9 = .slice ra_a dl.length rc_a ∧ t 11 = .slice ra_b nar.length rc_b ∧ t 14 = .int .i64 (readyS l ic dl 0) ∧ t 15 = .int .i64 (readyP l ic dl 0) ∧ t 17 = .int .i64 (readyS l yy nar 0) ∧ t 18 = .int .i64 (readyP l yy nar 0) ∧ t 26 = .int .i64 (k : Int) ∧ k ≤ dl.length ∧ ds = [] ∧ w97.heap.size ≤ wr.heap.size ∧ Bun w [rsl iceEnc 8 rl_b rh_b (.slice ra_b nar.length rc_b) (runN l yy nar nar.length), rsl iceEnc 8 rl_a rh_a (.slice ra_a dl.length rc_a) (runN l ic dl dl.length), rsl weaEnc 6 ld_nar hd_nar (.slice da_nar nar.length dc_nar) nar, rseed sb, rsl weaEnc 6 ld_dl hd_dl (.slice da_dl dl.length dc_dl) dl, rsl covEnc 3 lo_l hi_l (.slice sal l.cov.length scl) l.cov, rsl intEnc 1 0 w.heap.size (.slice na zs.length nc) zs] wr) := ⟨_, rfl⟩
    have HI99 := Lib.hid HI990
    clear HI990
    refine wp_loopS 175 rfl HI99_ (fun t wr => dl.length - (intOf (t 26)).toNat) ?atStart15 ?round15
    case round15 =>
      intro t ds wr hHid
      rw [HI99.out] at hHid
      obtain ⟨k, e9, e11, e14, e15, e17, e18, e26, hrel⟩ := hHid
      have e : ((List.range 175).map t).toArray = #[t 0, t 1, t 2, t 3, t 4, t 5, t 6, t 7, t 8, t 9, t 10, t 11, t 12, t 13, t 14, t 15, t 16, t 17, t 18, t 19, t 20, t 21, t 22, t 23, t 24, t 25, t 26, t 27, t 28, t 29, t 30, t 31, t 32, t 33, t 34, t 35, t 36, t 37, t 38, t 39, t 40, t 41, t 42, t 43, t 44, t 45, t 46, t 47, t 48, t 49, t 50, t 51, t 52, t 53, t 54, t 55, t 56, t 57, t 58, t 59, t 60, t 61, t 62, t 63, t 64, t 65, t 66, t 67, t 68, t 69, t 70, t 71, t 72, t 73, t 74, t 75, t 76, t 77, t 78, t 79, t 80, t 81, t 82, t 83, t 84, t 85, t 86, t 87, t 88, t 89, t 90, t 91, t 92, t 93, t 94, t 95, t 96, t 97, t 98, t 99, t 100, t 101, t 102, t 103, t 104, t 105, t 106, t 107, t 108, t 109, t 110, t 111, t 112, t 113, t 114, t 115, t 116, t 117, t 118, t 119, t 120, t 121, t 122, t 123, t 124, t 125, t 126, t 127, t 128, t 129, t 130, t 131, t 132, t 133, t 134, t 135, t 136, t 137, t 138, t 139, t 140, t 141, t 142, t 143, t 144, t 145, t 146, t 147, t 148, t 149, t 150, t 151, t 152, t 153, t 154, t 155, t 156, t 157, t 158, t 159, t 160, t 161, t 162, t 163, t 164, t 165, t 166, t 167, t 168, t 169, t 170, t 171, t 172, t 173, t 174] := rfl
      (try dsimp only at e)
      rw [e9, e11, e14, e15, e17, e18, e26] at e
      rw [e]
      simp only [e26]
      clear e e9 e11 e14 e15 e17 e18 e26
      obtain ⟨hk, rfl, hs101, hF100⟩ := hrel
      clear F98
      obtain ⟨w102, rfl⟩ : ∃ x_ : World, x_ = wr := ⟨_, rfl⟩
      by_cases c103 : (k : Int) < (dl.length : Int)
      · skip
        have c103H := Lib.hid c103
        have hkn : (k : Int) < (nar.length : Int) := by omega
        obtain ⟨x104, o105, e_⟩ := Sl.addr (hF100.at 1 rfl : Sl iceEnc 8 rl_a rh_a _ (.slice ra_a dl.length rc_a) (runN l ic dl dl.length)) (by rw [runN_len]; omega)
        subst e_
        obtain ⟨x106, o107, e_⟩ := Sl.addr (hF100.at 0 rfl : Sl iceEnc 8 rl_b rh_b _ (.slice ra_b nar.length rc_b) (runN l yy nar nar.length)) (by rw [runN_len]; omega)
        subst e_
        obtain ⟨qa, hz108_⟩ : ∃ z_, (runN l ic dl dl.length)[k]? = some z_ := ⟨_, List.getElem?_eq_getElem (by rw [runN_len]; omega)⟩
        have hz108 := Lib.hid hz108_
        clear hz108_
        obtain rfl : qa = (stI l ic dl (k + 1)) := by have h_ := hz108.out; rw [runN_get (by omega)] at h_; injection h_ with h_; exact h_.symm
        obtain ⟨qb, hz109_⟩ : ∃ z_, (runN l yy nar nar.length)[k]? = some z_ := ⟨_, List.getElem?_eq_getElem (by rw [runN_len]; omega)⟩
        have hz109 := Lib.hid hz109_
        clear hz109_
        obtain rfl : qb = (stI l yy nar (k + 1)) := by have h_ := hz109.out; rw [runN_get (by omega)] at h_; injection h_ with h_; exact h_.symm
        go_wp2_with fail
        have F110 := hF100.drew
        clear hF100
        refine ru_begin (fun W => W.cell? ⟨x106, o107 + k * 8, none⟩ = some (.int .i64 ((stI l yy nar (k + 1)).bl.lo)) ∧ W.cell? ⟨x106, o107 + k * 8 + 1, none⟩ = some (.int .i64 ((stI l yy nar (k + 1)).bl.hi)) ∧ W.cell? ⟨x106, o107 + k * 8 + 2, none⟩ = some (.int .i64 ((stI l yy nar (k + 1)).wh.lo)) ∧ W.cell? ⟨x106, o107 + k * 8 + 3, none⟩ = some (.int .i64 ((stI l yy nar (k + 1)).wh.hi)) ∧ W.cell? ⟨x106, o107 + k * 8 + 4, none⟩ = some (.int .i64 ((stI l yy nar (k + 1)).we.lo)) ∧ W.cell? ⟨x106, o107 + k * 8 + 5, none⟩ = some (.int .i64 ((stI l yy nar (k + 1)).we.hi)) ∧ W.cell? ⟨x106, o107 + k * 8 + 6, none⟩ = some (.int .i64 ((stI l yy nar (k + 1)).sn.lo)) ∧ W.cell? ⟨x106, o107 + k * 8 + 7, none⟩ = some (.int .i64 ((stI l yy nar (k + 1)).sn.hi)) ∧ W.cell? ⟨x104, o105 + k * 8, none⟩ = some (.int .i64 ((stI l ic dl (k + 1)).bl.lo)) ∧ W.cell? ⟨x104, o105 + k * 8 + 1, none⟩ = some (.int .i64 ((stI l ic dl (k + 1)).bl.hi)) ∧ W.cell? ⟨x104, o105 + k * 8 + 2, none⟩ = some (.int .i64 ((stI l ic dl (k + 1)).wh.lo)) ∧ W.cell? ⟨x104, o105 + k * 8 + 3, none⟩ = some (.int .i64 ((stI l ic dl (k + 1)).wh.hi)) ∧ W.cell? ⟨x104, o105 + k * 8 + 4, none⟩ = some (.int .i64 ((stI l ic dl (k + 1)).we.lo)) ∧ W.cell? ⟨x104, o105 + k * 8 + 5, none⟩ = some (.int .i64 ((stI l ic dl (k + 1)).we.hi)) ∧ W.cell? ⟨x104, o105 + k * 8 + 6, none⟩ = some (.int .i64 ((stI l ic dl (k + 1)).sn.lo)) ∧ W.cell? ⟨x104, o105 + k * 8 + 7, none⟩ = some (.int .i64 ((stI l ic dl (k + 1)).sn.hi))) 9 (by kernel_rfl) ?_ ?_
        · exact ⟨(((F110.at 0 rfl : Sl iceEnc 8 rl_b rh_b _ (.slice (some ⟨x106, o107, none⟩) nar.length rc_b) (runN l yy nar nar.length))).cells hz109.out 0 _ rfl), (((F110.at 0 rfl : Sl iceEnc 8 rl_b rh_b _ (.slice (some ⟨x106, o107, none⟩) nar.length rc_b) (runN l yy nar nar.length))).cells hz109.out 1 _ rfl), (((F110.at 0 rfl : Sl iceEnc 8 rl_b rh_b _ (.slice (some ⟨x106, o107, none⟩) nar.length rc_b) (runN l yy nar nar.length))).cells hz109.out 2 _ rfl), (((F110.at 0 rfl : Sl iceEnc 8 rl_b rh_b _ (.slice (some ⟨x106, o107, none⟩) nar.length rc_b) (runN l yy nar nar.length))).cells hz109.out 3 _ rfl), (((F110.at 0 rfl : Sl iceEnc 8 rl_b rh_b _ (.slice (some ⟨x106, o107, none⟩) nar.length rc_b) (runN l yy nar nar.length))).cells hz109.out 4 _ rfl), (((F110.at 0 rfl : Sl iceEnc 8 rl_b rh_b _ (.slice (some ⟨x106, o107, none⟩) nar.length rc_b) (runN l yy nar nar.length))).cells hz109.out 5 _ rfl), (((F110.at 0 rfl : Sl iceEnc 8 rl_b rh_b _ (.slice (some ⟨x106, o107, none⟩) nar.length rc_b) (runN l yy nar nar.length))).cells hz109.out 6 _ rfl), (((F110.at 0 rfl : Sl iceEnc 8 rl_b rh_b _ (.slice (some ⟨x106, o107, none⟩) nar.length rc_b) (runN l yy nar nar.length))).cells hz109.out 7 _ rfl), (((F110.at 1 rfl : Sl iceEnc 8 rl_a rh_a _ (.slice (some ⟨x104, o105, none⟩) dl.length rc_a) (runN l ic dl dl.length))).cells hz108.out 0 _ rfl), (((F110.at 1 rfl : Sl iceEnc 8 rl_a rh_a _ (.slice (some ⟨x104, o105, none⟩) dl.length rc_a) (runN l ic dl dl.length))).cells hz108.out 1 _ rfl), (((F110.at 1 rfl : Sl iceEnc 8 rl_a rh_a _ (.slice (some ⟨x104, o105, none⟩) dl.length rc_a) (runN l ic dl dl.length))).cells hz108.out 2 _ rfl), (((F110.at 1 rfl : Sl iceEnc 8 rl_a rh_a _ (.slice (some ⟨x104, o105, none⟩) dl.length rc_a) (runN l ic dl dl.length))).cells hz108.out 3 _ rfl), (((F110.at 1 rfl : Sl iceEnc 8 rl_a rh_a _ (.slice (some ⟨x104, o105, none⟩) dl.length rc_a) (runN l ic dl dl.length))).cells hz108.out 4 _ rfl), (((F110.at 1 rfl : Sl iceEnc 8 rl_a rh_a _ (.slice (some ⟨x104, o105, none⟩) dl.length rc_a) (runN l ic dl dl.length))).cells hz108.out 5 _ rfl), (((F110.at 1 rfl : Sl iceEnc 8 rl_a rh_a _ (.slice (some ⟨x104, o105, none⟩) dl.length rc_a) (runN l ic dl dl.length))).cells hz108.out 6 _ rfl), (((F110.at 1 rfl : Sl iceEnc 8 rl_a rh_a _ (.slice (some ⟨x104, o105, none⟩) dl.length rc_a) (runN l ic dl dl.length))).cells hz108.out 7 _ rfl)⟩
        obtain ⟨wd112, hwd_⟩ : ∃ x : World, w102.drew = x := ⟨_, rfl⟩
        rw [hwd_] at F110 ⊢
        have wd112s : w102.heap.size ≤ wd112.heap.size := by rw [← hwd_]; exact Nat.le_refl _
        clear hwd_
        have hS111 := (And.intro ((((F110.at 0 rfl : Sl iceEnc 8 rl_b rh_b _ (.slice (some ⟨x106, o107, none⟩) nar.length rc_b) (runN l yy nar nar.length))).cells hz109.out 0 _ rfl)) (And.intro ((((F110.at 0 rfl : Sl iceEnc 8 rl_b rh_b _ (.slice (some ⟨x106, o107, none⟩) nar.length rc_b) (runN l yy nar nar.length))).cells hz109.out 1 _ rfl)) (And.intro ((((F110.at 0 rfl : Sl iceEnc 8 rl_b rh_b _ (.slice (some ⟨x106, o107, none⟩) nar.length rc_b) (runN l yy nar nar.length))).cells hz109.out 2 _ rfl)) (And.intro ((((F110.at 0 rfl : Sl iceEnc 8 rl_b rh_b _ (.slice (some ⟨x106, o107, none⟩) nar.length rc_b) (runN l yy nar nar.length))).cells hz109.out 3 _ rfl)) (And.intro ((((F110.at 0 rfl : Sl iceEnc 8 rl_b rh_b _ (.slice (some ⟨x106, o107, none⟩) nar.length rc_b) (runN l yy nar nar.length))).cells hz109.out 4 _ rfl)) (And.intro ((((F110.at 0 rfl : Sl iceEnc 8 rl_b rh_b _ (.slice (some ⟨x106, o107, none⟩) nar.length rc_b) (runN l yy nar nar.length))).cells hz109.out 5 _ rfl)) (And.intro ((((F110.at 0 rfl : Sl iceEnc 8 rl_b rh_b _ (.slice (some ⟨x106, o107, none⟩) nar.length rc_b) (runN l yy nar nar.length))).cells hz109.out 6 _ rfl)) (And.intro ((((F110.at 0 rfl : Sl iceEnc 8 rl_b rh_b _ (.slice (some ⟨x106, o107, none⟩) nar.length rc_b) (runN l yy nar nar.length))).cells hz109.out 7 _ rfl)) (And.intro ((((F110.at 1 rfl : Sl iceEnc 8 rl_a rh_a _ (.slice (some ⟨x104, o105, none⟩) dl.length rc_a) (runN l ic dl dl.length))).cells hz108.out 0 _ rfl)) (And.intro ((((F110.at 1 rfl : Sl iceEnc 8 rl_a rh_a _ (.slice (some ⟨x104, o105, none⟩) dl.length rc_a) (runN l ic dl dl.length))).cells hz108.out 1 _ rfl)) (And.intro ((((F110.at 1 rfl : Sl iceEnc 8 rl_a rh_a _ (.slice (some ⟨x104, o105, none⟩) dl.length rc_a) (runN l ic dl dl.length))).cells hz108.out 2 _ rfl)) (And.intro ((((F110.at 1 rfl : Sl iceEnc 8 rl_a rh_a _ (.slice (some ⟨x104, o105, none⟩) dl.length rc_a) (runN l ic dl dl.length))).cells hz108.out 3 _ rfl)) (And.intro ((((F110.at 1 rfl : Sl iceEnc 8 rl_a rh_a _ (.slice (some ⟨x104, o105, none⟩) dl.length rc_a) (runN l ic dl dl.length))).cells hz108.out 4 _ rfl)) (And.intro ((((F110.at 1 rfl : Sl iceEnc 8 rl_a rh_a _ (.slice (some ⟨x104, o105, none⟩) dl.length rc_a) (runN l ic dl dl.length))).cells hz108.out 5 _ rfl)) (And.intro ((((F110.at 1 rfl : Sl iceEnc 8 rl_a rh_a _ (.slice (some ⟨x104, o105, none⟩) dl.length rc_a) (runN l ic dl dl.length))).cells hz108.out 6 _ rfl)) ((((F110.at 1 rfl : Sl iceEnc 8 rl_a rh_a _ (.slice (some ⟨x104, o105, none⟩) dl.length rc_a) (runN l ic dl dl.length))).cells hz108.out 7 _ rfl)))))))))))))))))
        refine ru_take 0 [8, 3, 2] (v := ?_) rfl (by kernel_rfl) (fun _ _ _ h => h) (by assumption) (.inl ⟨by first | kernel_rfl | rfl, ?_⟩) ?_
        rotate_left
        · (intro wS hwS; (try dsimp only at hwS); go_simp; (try with_reducible rfl))
        (try simp only [Act.put, List.setIfInBounds_toArray, List.set_cons_zero, List.set_cons_succ])
        refine ru_take 1 [8, 3, 2] (v := ?_) rfl (by kernel_rfl) (fun _ _ _ h => h) (by assumption) (.inl ⟨by first | kernel_rfl | rfl, ?_⟩) ?_
        rotate_left
        · (intro wS hwS; (try dsimp only at hwS); go_simp; (try with_reducible rfl))
        (try simp only [Act.put, List.setIfInBounds_toArray, List.set_cons_zero, List.set_cons_succ])
        refine ru_take 2 [8, 3] (v := ?_) rfl (by kernel_rfl) (fun _ _ _ h => h) (by assumption) (.inl ⟨by first | kernel_rfl | rfl, ?_⟩) ?_
        rotate_left
        · (intro wS hwS; (try dsimp only at hwS); go_simp; (try with_reducible rfl))
        (try simp only [Act.put, List.setIfInBounds_toArray, List.set_cons_zero, List.set_cons_succ])
        refine ru_take 3 [8] (v := ?_) rfl (by kernel_rfl) (fun _ _ _ h => h) (by assumption) (.inl ⟨by first | kernel_rfl | rfl, ?_⟩) ?_
        rotate_left
        · (intro wS hwS; (try dsimp only at hwS); go_simp; (try with_reducible rfl))
        (try simp only [Act.put, List.setIfInBounds_toArray, List.set_cons_zero, List.set_cons_succ])
        refine ru_take 4 [8, 7, 6] (v := ?_) rfl (by kernel_rfl) (fun _ _ _ h => h) (by assumption) (.inl ⟨by first | kernel_rfl | rfl, ?_⟩) ?_
        rotate_left
        · (intro wS hwS; (try dsimp only at hwS); go_simp; (try with_reducible rfl))
        (try simp only [Act.put, List.setIfInBounds_toArray, List.set_cons_zero, List.set_cons_succ])
        refine ru_take 5 [8, 7, 6] (v := ?_) rfl (by kernel_rfl) (fun _ _ _ h => h) (by assumption) (.inl ⟨by first | kernel_rfl | rfl, ?_⟩) ?_
        rotate_left
        · (intro wS hwS; (try dsimp only at hwS); go_simp; (try with_reducible rfl))
        (try simp only [Act.put, List.setIfInBounds_toArray, List.set_cons_zero, List.set_cons_succ])
        refine ru_take 6 [8, 7] (v := ?_) rfl (by kernel_rfl) (fun _ _ _ h => h) (by assumption) (.inl ⟨by first | kernel_rfl | rfl, ?_⟩) ?_
        rotate_left
        · (intro wS hwS; (try dsimp only at hwS); go_simp; (try with_reducible rfl))
        (try simp only [Act.put, List.setIfInBounds_toArray, List.set_cons_zero, List.set_cons_succ])
        refine ru_take 7 [8] (v := ?_) rfl (by kernel_rfl) (fun _ _ _ h => h) (by assumption) (.inl ⟨by first | kernel_rfl | rfl, ?_⟩) ?_
        rotate_left
        · (intro wS hwS; (try dsimp only at hwS); go_simp; (try with_reducible rfl))
        (try simp only [Act.put, List.setIfInBounds_toArray, List.set_cons_zero, List.set_cons_succ])
        clear hS111
        refine ru_one 8 rfl (by kernel_rfl) (fun K hK => ?_)
        go_simp
        refine (inside_yes (HRS.out (k + 1) (by omega)) _).mono ?_
        rintro e w115 ⟨rfl, hg113⟩
        have hg113s := hg113.size
        (try simp at hg113s)
        have F116 := F110.gn hg113
        clear F110
        refine ru_back hK (by exact ⟨(((F116.at 0 rfl : Sl iceEnc 8 rl_b rh_b _ (.slice (some ⟨x106, o107, none⟩) nar.length rc_b) (runN l yy nar nar.length))).cells hz109.out 0 _ rfl), (((F116.at 0 rfl : Sl iceEnc 8 rl_b rh_b _ (.slice (some ⟨x106, o107, none⟩) nar.length rc_b) (runN l yy nar nar.length))).cells hz109.out 1 _ rfl), (((F116.at 0 rfl : Sl iceEnc 8 rl_b rh_b _ (.slice (some ⟨x106, o107, none⟩) nar.length rc_b) (runN l yy nar nar.length))).cells hz109.out 2 _ rfl), (((F116.at 0 rfl : Sl iceEnc 8 rl_b rh_b _ (.slice (some ⟨x106, o107, none⟩) nar.length rc_b) (runN l yy nar nar.length))).cells hz109.out 3 _ rfl), (((F116.at 0 rfl : Sl iceEnc 8 rl_b rh_b _ (.slice (some ⟨x106, o107, none⟩) nar.length rc_b) (runN l yy nar nar.length))).cells hz109.out 4 _ rfl), (((F116.at 0 rfl : Sl iceEnc 8 rl_b rh_b _ (.slice (some ⟨x106, o107, none⟩) nar.length rc_b) (runN l yy nar nar.length))).cells hz109.out 5 _ rfl), (((F116.at 0 rfl : Sl iceEnc 8 rl_b rh_b _ (.slice (some ⟨x106, o107, none⟩) nar.length rc_b) (runN l yy nar nar.length))).cells hz109.out 6 _ rfl), (((F116.at 0 rfl : Sl iceEnc 8 rl_b rh_b _ (.slice (some ⟨x106, o107, none⟩) nar.length rc_b) (runN l yy nar nar.length))).cells hz109.out 7 _ rfl), (((F116.at 1 rfl : Sl iceEnc 8 rl_a rh_a _ (.slice (some ⟨x104, o105, none⟩) dl.length rc_a) (runN l ic dl dl.length))).cells hz108.out 0 _ rfl), (((F116.at 1 rfl : Sl iceEnc 8 rl_a rh_a _ (.slice (some ⟨x104, o105, none⟩) dl.length rc_a) (runN l ic dl dl.length))).cells hz108.out 1 _ rfl), (((F116.at 1 rfl : Sl iceEnc 8 rl_a rh_a _ (.slice (some ⟨x104, o105, none⟩) dl.length rc_a) (runN l ic dl dl.length))).cells hz108.out 2 _ rfl), (((F116.at 1 rfl : Sl iceEnc 8 rl_a rh_a _ (.slice (some ⟨x104, o105, none⟩) dl.length rc_a) (runN l ic dl dl.length))).cells hz108.out 3 _ rfl), (((F116.at 1 rfl : Sl iceEnc 8 rl_a rh_a _ (.slice (some ⟨x104, o105, none⟩) dl.length rc_a) (runN l ic dl dl.length))).cells hz108.out 4 _ rfl), (((F116.at 1 rfl : Sl iceEnc 8 rl_a rh_a _ (.slice (some ⟨x104, o105, none⟩) dl.length rc_a) (runN l ic dl dl.length))).cells hz108.out 5 _ rfl), (((F116.at 1 rfl : Sl iceEnc 8 rl_a rh_a _ (.slice (some ⟨x104, o105, none⟩) dl.length rc_a) (runN l ic dl dl.length))).cells hz108.out 6 _ rfl), (((F116.at 1 rfl : Sl iceEnc 8 rl_a rh_a _ (.slice (some ⟨x104, o105, none⟩) dl.length rc_a) (runN l ic dl dl.length))).cells hz108.out 7 _ rfl)⟩) (fun hHeld => ?_)
        clear hK K
        (try simp only [Act.put, List.setIfInBounds_toArray, List.set_cons_zero, List.set_cons_succ])
        refine ru_one 9 rfl (by kernel_rfl) (fun K hK => ?_)
        go_simp
        refine ru_back_late hK (by kernel_rfl) ?_
        clear hK K
        (try simp only [Act.put, List.setIfInBounds_toArray, List.set_cons_zero, List.set_cons_succ])
        refine ru_done (by kernel_rfl) ?_
        obtain ⟨w117, hx118, F120, hxs119⟩ := (show Bun w [rsl iceEnc 8 rl_b rh_b (.slice (some ⟨x106, o107, none⟩) nar.length rc_b) (runN l yy nar nar.length), rsl iceEnc 8 rl_a rh_a (.slice (some ⟨x104, o105, none⟩) dl.length rc_a) (runN l ic dl dl.length), rsl weaEnc 6 ld_nar hd_nar (.slice da_nar nar.length dc_nar) nar, rseed sb, rsl weaEnc 6 ld_dl hd_dl (.slice da_dl dl.length dc_dl) dl, rsl covEnc 3 lo_l hi_l (.slice sal l.cov.length scl) l.cov, rsl intEnc 1 0 w.heap.size (.slice na zs.length nc) zs] _ from F116).name
        (try simp at hxs119)
        rw [hx118]
        clear hx118 F116
        go_wp2_with fail
        (first | refine ⟨by kernel_rfl, ?_, ?_⟩ | refine ⟨rfl, ?_, ?_⟩ | refine ⟨?_, ?_⟩)
        · rw [HI99.out]; exact ⟨k + 1, (by first | kernel_rfl | rfl), (by first | kernel_rfl | rfl), (by first | kernel_rfl | rfl), (by first | kernel_rfl | rfl), (by first | kernel_rfl | rfl), (by first | kernel_rfl | rfl), (by show Value.int .i64 ((k : Int) + 1) = _; simp), (by omega), (by first | rfl | simp), (by first | omega | (simp; done) | (simp; omega)), F120⟩
        · simp [slot, intOf]; omega
      · skip
        have c103H := Lib.hid c103
        have c103a : decide ((k : Int) < (dl.length : Int)) = false := dec_f c103
        by_cases c121 : readyS l ic dl 0 = 0
        · skip
          have c121a : ((readyS l ic dl 0) == 0) = true := beq_t c121
          have c121b : ((readyS l ic dl 0) != 0) = false := bne_f c121
          have c121H := Lib.hid c121
          clear c121
          by_cases c122 : readyP l yy nar 0 = 0
          · skip
            have c122a : ((readyP l yy nar 0) == 0) = true := beq_t c122
            have c122b : ((readyP l yy nar 0) != 0) = false := bne_f c122
            have c122H := Lib.hid c122
            clear c122
            go_wp2_with fail
            refine (awake_c _).mono ?_
            rintro e w125 ⟨rfl, hg123⟩
            have hg123s := hg123.size
            (try simp at hg123s)
            have F126 := hF100.gn hg123
            clear hF100
            clear hg123
            go_wp2_with fail
            go_ret
            exact ⟨rfl, F126.gb⟩
          · skip
            have c122a : ((readyP l yy nar 0) == 0) = false := beq_f c122
            have c122b : ((readyP l yy nar 0) != 0) = true := bne_t c122
            have c122H := Lib.hid c122
            clear c122
            have kn127 : 0 < readyP l ic dl 0 := (HRDY.out.2.resolve_left c122H.out).1
            have kn127H := Lib.hid kn127
            have kn127a : decide (0 < readyP l ic dl 0) = true := decide_eq_true kn127
            have kn128 : readyP l ic dl 0 ≤ readyP l yy nar 0 := (HRDY.out.2.resolve_left c122H.out).2
            have kn128H := Lib.hid kn128
            have kn128a : decide (readyP l ic dl 0 ≤ readyP l yy nar 0) = true := decide_eq_true kn128
            go_wp2_with fail
            refine (awake_c _).mono ?_
            rintro e w131 ⟨rfl, hg129⟩
            have hg129s := hg129.size
            (try simp at hg129s)
            have F132 := hF100.gn hg129
            clear hF100
            clear hg129
            go_wp2_with fail
            go_ret
            exact ⟨rfl, F132.gb⟩
        · skip
          have c121a : ((readyS l ic dl 0) == 0) = false := beq_f c121
          have c121b : ((readyS l ic dl 0) != 0) = true := bne_t c121
          have c121H := Lib.hid c121
          clear c121
          have kn133 : 0 < readyS l yy nar 0 := (HRDY.out.1.resolve_left c121H.out).1
          have kn133H := Lib.hid kn133
          have kn133a : decide (0 < readyS l yy nar 0) = true := decide_eq_true kn133
          have kn134 : readyS l yy nar 0 ≤ readyS l ic dl 0 := (HRDY.out.1.resolve_left c121H.out).2
          have kn134H := Lib.hid kn134
          have kn134a : decide (readyS l yy nar 0 ≤ readyS l ic dl 0) = true := decide_eq_true kn134
          by_cases c135 : readyP l yy nar 0 = 0
          · skip
            have c135a : ((readyP l yy nar 0) == 0) = true := beq_t c135
            have c135b : ((readyP l yy nar 0) != 0) = false := bne_f c135
            have c135H := Lib.hid c135
            clear c135
            go_wp2_with fail
            refine (awake_c _).mono ?_
            rintro e w138 ⟨rfl, hg136⟩
            have hg136s := hg136.size
            (try simp at hg136s)
            have F139 := hF100.gn hg136
            clear hF100
            clear hg136
            go_wp2_with fail
            go_ret
            exact ⟨rfl, F139.gb⟩
          · skip
            have c135a : ((readyP l yy nar 0) == 0) = false := beq_f c135
            have c135b : ((readyP l yy nar 0) != 0) = true := bne_t c135
            have c135H := Lib.hid c135
            clear c135
            have kn140 : 0 < readyP l ic dl 0 := (HRDY.out.2.resolve_left c135H.out).1
            have kn140H := Lib.hid kn140
            have kn140a : decide (0 < readyP l ic dl 0) = true := decide_eq_true kn140
            have kn141 : readyP l ic dl 0 ≤ readyP l yy nar 0 := (HRDY.out.2.resolve_left c135H.out).2
            have kn141H := Lib.hid kn141
            have kn141a : decide (readyP l ic dl 0 ≤ readyP l yy nar 0) = true := decide_eq_true kn141
            go_wp2_with fail
            refine (awake_c _).mono ?_
            rintro e w144 ⟨rfl, hg142⟩
            have hg142s := hg142.size
            (try simp at hg142s)
            have F145 := hF100.gn hg142
            clear hF100
            clear hg142
            go_wp2_with fail
            go_ret
            exact ⟨rfl, F145.gb⟩
    case atStart15 =>
      rw [HI99.out]
      exact ⟨0, (by first | kernel_rfl | rfl), (by first | kernel_rfl | rfl), (by first | kernel_rfl | rfl), (by first | kernel_rfl | rfl), (by first | kernel_rfl | rfl), (by first | kernel_rfl | rfl), rfl, Nat.zero_le _, rfl, (by first | exact Nat.le_refl _ | omega | (simp; done) | (simp; omega)), (((((F98.drop 0 rfl).drop 0 rfl).drop 2 rfl).drop 5 rfl).drop 5 rfl)⟩
  · skip
    have c66H := Lib.hid c66
    have c66a : decide (ic.bl.lo + r55 < 0) = false := dec_f c66
    have b146 := F65.bx8 6 rfl
    have b147 := F65.bx8 7 rfl
    go_wp2_with fail
    clear b146 b147
    refine (ready_ok _ _ _ l ic _ _ _ dl (ic.bl.lo + r55) _ (F65.at 8 rfl : Sl covEnc 3 lo_l hi_l _ (.slice sal l.cov.length scl) l.cov) (by first | omega | (simp; omega)) (F65.at 5 rfl : Sl weaEnc 6 ld_dl hd_dl _ (.slice da_dl dl.length dc_dl) dl) (by first | omega | (simp; omega)) (allE_of HFl.out hic (fun d_ h_ => (HDdl.out d_ h_).1) (by omega)) (by omega)).mono ?_
    rintro e w150 ⟨rfl, hg148⟩
    have hg148s := hg148.size
    (try simp at hg148s)
    have F151 := F65.gn hg148
    clear F65
    clear hg148
    have b152 := F151.bx8 2 rfl
    have b153 := F151.bx8 7 rfl
    go_wp2_with fail
    clear b152 b153
    refine (ready_ok _ _ _ l yy _ _ _ nar (ic.bl.lo + r55) _ (F151.at 8 rfl : Sl covEnc 3 lo_l hi_l _ (.slice sal l.cov.length scl) l.cov) (by first | omega | (simp; omega)) (F151.at 3 rfl : Sl weaEnc 6 ld_nar hd_nar _ (.slice da_nar nar.length dc_nar) nar) (by first | omega | (simp; omega)) (allE_of HFl.out hyy HVnar.out (by omega)) (by omega)).mono ?_
    rintro e w156 ⟨rfl, hg154⟩
    have hg154s := hg154.size
    (try simp at hg154s)
    have F157 := F151.gn hg154
    clear F151
    clear hg154
    have HRDY := Lib.hid (ready_sub HL.out HFa.out (iceK hic) (iceK hyy) (okI_of hyy) HW1.out HW2.out (by omega) HSU.out HSnar.out (readyE_ok (need := (ic.bl.lo + r55)) (allE_of HFl.out hic (fun d_ h_ => (HDdl.out d_ h_).1) (by omega)) (by omega)) (readyE_ok (allE_of HFl.out hyy HVnar.out (by omega)) (by omega)))
    have b158 := F157.bx8 6 rfl
    have b159 := F157.bx8 7 rfl
    go_wp2_with fail
    clear b158 b159
    refine (bearing_ok _ _ _ l ic _ (F157.at 8 rfl : Sl covEnc 3 lo_l hi_l _ (.slice sal l.cov.length scl) l.cov) (by first | omega | (simp; omega)) (allE_of HFl.out hic (fun _ h_ => by cases h_) (by simp))).mono ?_
    rintro e w162 ⟨rfl, hg160⟩
    have hg160s := hg160.size
    (try simp at hg160s)
    have F163 := F157.gn hg160
    clear F157
    clear hg160
    have b164 := F163.bx8 2 rfl
    have b165 := F163.bx8 7 rfl
    go_wp2_with fail
    clear b164 b165
    have F166 := F163.new 27 #[.int .i64 ((brs l ic).lo), .int .i64 ((brs l ic).hi)] (n := w162.heap.size) (by simp)
    clear F163
    refine (bearing_ok _ _ _ l yy _ (F166.at 9 rfl : Sl covEnc 3 lo_l hi_l _ (.slice sal l.cov.length scl) l.cov) (by first | omega | (simp; omega)) (allE_of HFl.out hyy (fun _ h_ => by cases h_) (by simp))).mono ?_
    rintro e w169 ⟨rfl, hg167⟩
    have hg167s := hg167.size
    (try simp at hg167s)
    have F170 := F166.gn hg167
    clear F166
    clear hg167
    have kn171 : (dl.length : Int) = (nar.length : Int) := (by omega)
    have kn171H := Lib.hid kn171
    have kn171a : ((dl.length : Int) == (nar.length : Int)) = true := beq_t kn171
    have kn171b : ((dl.length : Int) != (nar.length : Int)) = false := bne_f kn171
    clear kn171
    have b172 := F170.bx2 0 rfl
    go_wp2_with fail
    clear b172
    have F173 := F170.new 27 #[.int .i64 ((brs l yy).lo), .int .i64 ((brs l yy).hi)] (n := w169.heap.size) (by simp)
    clear F170
    refine (in_yes HBS.out _).mono ?_
    rintro e w176 ⟨rfl, hg174⟩
    have hg174s := hg174.size
    (try simp at hg174s)
    have F177 := F173.gn hg174
    clear F173
    clear hg174
    go_wp2_with fail
    (skip)
    obtain ⟨HI178_, HI1780⟩ : ∃ I : (Nat → Value) → List Deferred → World → Prop, I = (fun t ds wr => ∃ (k : Nat), t 9 = .slice ra_a dl.length rc_a ∧ t 11 = .slice ra_b nar.length rc_b ∧ t 14 = .int .i64 (readyS l ic dl (ic.bl.lo + r55)) ∧ t 15 = .int .i64 (readyP l ic dl (ic.bl.lo + r55)) ∧ t 17 = .int .i64 (readyS l yy nar (ic.bl.lo + r55)) ∧ t 18 = .int .i64 (readyP l yy nar (ic.bl.lo + r55)) ∧ t 26 = .int .i64 (k : Int) ∧ k ≤ dl.length ∧ ds = [] ∧ w176.heap.size ≤ wr.heap.size ∧ Bun w [rsl iceEnc 8 rl_b rh_b (.slice ra_b nar.length rc_b) (runN l yy nar nar.length), rsl iceEnc 8 rl_a rh_a (.slice ra_a dl.length rc_a) (runN l ic dl dl.length), rsl weaEnc 6 ld_nar hd_nar (.slice da_nar nar.length dc_nar) nar, rseed sb, rsl weaEnc 6 ld_dl hd_dl (.slice da_dl dl.length dc_dl) dl, rsl covEnc 3 lo_l hi_l (.slice sal l.cov.length scl) l.cov, rsl intEnc 1 0 w.heap.size (.slice na zs.length nc) zs] wr) := ⟨_, rfl⟩
    have HI178 := Lib.hid HI1780
    clear HI1780
    refine wp_loopS 175 rfl HI178_ (fun t wr => dl.length - (intOf (t 26)).toNat) ?atStart16 ?round16
    case round16 =>
      intro t ds wr hHid
      rw [HI178.out] at hHid
      obtain ⟨k, e9, e11, e14, e15, e17, e18, e26, hrel⟩ := hHid
      have e : ((List.range 175).map t).toArray = #[t 0, t 1, t 2, t 3, t 4, t 5, t 6, t 7, t 8, t 9, t 10, t 11, t 12, t 13, t 14, t 15, t 16, t 17, t 18, t 19, t 20, t 21, t 22, t 23, t 24, t 25, t 26, t 27, t 28, t 29, t 30, t 31, t 32, t 33, t 34, t 35, t 36, t 37, t 38, t 39, t 40, t 41, t 42, t 43, t 44, t 45, t 46, t 47, t 48, t 49, t 50, t 51, t 52, t 53, t 54, t 55, t 56, t 57, t 58, t 59, t 60, t 61, t 62, t 63, t 64, t 65, t 66, t 67, t 68, t 69, t 70, t 71, t 72, t 73, t 74, t 75, t 76, t 77, t 78, t 79, t 80, t 81, t 82, t 83, t 84, t 85, t 86, t 87, t 88, t 89, t 90, t 91, t 92, t 93, t 94, t 95, t 96, t 97, t 98, t 99, t 100, t 101, t 102, t 103, t 104, t 105, t 106, t 107, t 108, t 109, t 110, t 111, t 112, t 113, t 114, t 115, t 116, t 117, t 118, t 119, t 120, t 121, t 122, t 123, t 124, t 125, t 126, t 127, t 128, t 129, t 130, t 131, t 132, t 133, t 134, t 135, t 136, t 137, t 138, t 139, t 140, t 141, t 142, t 143, t 144, t 145, t 146, t 147, t 148, t 149, t 150, t 151, t 152, t 153, t 154, t 155, t 156, t 157, t 158, t 159, t 160, t 161, t 162, t 163, t 164, t 165, t 166, t 167, t 168, t 169, t 170, t 171, t 172, t 173, t 174] := rfl
      (try dsimp only at e)
      rw [e9, e11, e14, e15, e17, e18, e26] at e
      rw [e]
      simp only [e26]
      clear e e9 e11 e14 e15 e17 e18 e26
      obtain ⟨hk, rfl, hs180, hF179⟩ := hrel
      clear F177
      obtain ⟨w181, rfl⟩ : ∃ x_ : World, x_ = wr := ⟨_, rfl⟩
      by_cases c182 : (k : Int) < (dl.length : Int)
      · skip
        have c182H := Lib.hid c182
        have hkn : (k : Int) < (nar.length : Int) := by omega
        obtain ⟨x183, o184, e_⟩ := Sl.addr (hF179.at 1 rfl : Sl iceEnc 8 rl_a rh_a _ (.slice ra_a dl.length rc_a) (runN l ic dl dl.length)) (by rw [runN_len]; omega)
        subst e_
        obtain ⟨x185, o186, e_⟩ := Sl.addr (hF179.at 0 rfl : Sl iceEnc 8 rl_b rh_b _ (.slice ra_b nar.length rc_b) (runN l yy nar nar.length)) (by rw [runN_len]; omega)
        subst e_
        obtain ⟨qa, hz187_⟩ : ∃ z_, (runN l ic dl dl.length)[k]? = some z_ := ⟨_, List.getElem?_eq_getElem (by rw [runN_len]; omega)⟩
        have hz187 := Lib.hid hz187_
        clear hz187_
        obtain rfl : qa = (stI l ic dl (k + 1)) := by have h_ := hz187.out; rw [runN_get (by omega)] at h_; injection h_ with h_; exact h_.symm
        obtain ⟨qb, hz188_⟩ : ∃ z_, (runN l yy nar nar.length)[k]? = some z_ := ⟨_, List.getElem?_eq_getElem (by rw [runN_len]; omega)⟩
        have hz188 := Lib.hid hz188_
        clear hz188_
        obtain rfl : qb = (stI l yy nar (k + 1)) := by have h_ := hz188.out; rw [runN_get (by omega)] at h_; injection h_ with h_; exact h_.symm
        go_wp2_with fail
        have F189 := hF179.drew
        clear hF179
        refine ru_begin (fun W => W.cell? ⟨x185, o186 + k * 8, none⟩ = some (.int .i64 ((stI l yy nar (k + 1)).bl.lo)) ∧ W.cell? ⟨x185, o186 + k * 8 + 1, none⟩ = some (.int .i64 ((stI l yy nar (k + 1)).bl.hi)) ∧ W.cell? ⟨x185, o186 + k * 8 + 2, none⟩ = some (.int .i64 ((stI l yy nar (k + 1)).wh.lo)) ∧ W.cell? ⟨x185, o186 + k * 8 + 3, none⟩ = some (.int .i64 ((stI l yy nar (k + 1)).wh.hi)) ∧ W.cell? ⟨x185, o186 + k * 8 + 4, none⟩ = some (.int .i64 ((stI l yy nar (k + 1)).we.lo)) ∧ W.cell? ⟨x185, o186 + k * 8 + 5, none⟩ = some (.int .i64 ((stI l yy nar (k + 1)).we.hi)) ∧ W.cell? ⟨x185, o186 + k * 8 + 6, none⟩ = some (.int .i64 ((stI l yy nar (k + 1)).sn.lo)) ∧ W.cell? ⟨x185, o186 + k * 8 + 7, none⟩ = some (.int .i64 ((stI l yy nar (k + 1)).sn.hi)) ∧ W.cell? ⟨x183, o184 + k * 8, none⟩ = some (.int .i64 ((stI l ic dl (k + 1)).bl.lo)) ∧ W.cell? ⟨x183, o184 + k * 8 + 1, none⟩ = some (.int .i64 ((stI l ic dl (k + 1)).bl.hi)) ∧ W.cell? ⟨x183, o184 + k * 8 + 2, none⟩ = some (.int .i64 ((stI l ic dl (k + 1)).wh.lo)) ∧ W.cell? ⟨x183, o184 + k * 8 + 3, none⟩ = some (.int .i64 ((stI l ic dl (k + 1)).wh.hi)) ∧ W.cell? ⟨x183, o184 + k * 8 + 4, none⟩ = some (.int .i64 ((stI l ic dl (k + 1)).we.lo)) ∧ W.cell? ⟨x183, o184 + k * 8 + 5, none⟩ = some (.int .i64 ((stI l ic dl (k + 1)).we.hi)) ∧ W.cell? ⟨x183, o184 + k * 8 + 6, none⟩ = some (.int .i64 ((stI l ic dl (k + 1)).sn.lo)) ∧ W.cell? ⟨x183, o184 + k * 8 + 7, none⟩ = some (.int .i64 ((stI l ic dl (k + 1)).sn.hi))) 9 (by kernel_rfl) ?_ ?_
        · exact ⟨(((F189.at 0 rfl : Sl iceEnc 8 rl_b rh_b _ (.slice (some ⟨x185, o186, none⟩) nar.length rc_b) (runN l yy nar nar.length))).cells hz188.out 0 _ rfl), (((F189.at 0 rfl : Sl iceEnc 8 rl_b rh_b _ (.slice (some ⟨x185, o186, none⟩) nar.length rc_b) (runN l yy nar nar.length))).cells hz188.out 1 _ rfl), (((F189.at 0 rfl : Sl iceEnc 8 rl_b rh_b _ (.slice (some ⟨x185, o186, none⟩) nar.length rc_b) (runN l yy nar nar.length))).cells hz188.out 2 _ rfl), (((F189.at 0 rfl : Sl iceEnc 8 rl_b rh_b _ (.slice (some ⟨x185, o186, none⟩) nar.length rc_b) (runN l yy nar nar.length))).cells hz188.out 3 _ rfl), (((F189.at 0 rfl : Sl iceEnc 8 rl_b rh_b _ (.slice (some ⟨x185, o186, none⟩) nar.length rc_b) (runN l yy nar nar.length))).cells hz188.out 4 _ rfl), (((F189.at 0 rfl : Sl iceEnc 8 rl_b rh_b _ (.slice (some ⟨x185, o186, none⟩) nar.length rc_b) (runN l yy nar nar.length))).cells hz188.out 5 _ rfl), (((F189.at 0 rfl : Sl iceEnc 8 rl_b rh_b _ (.slice (some ⟨x185, o186, none⟩) nar.length rc_b) (runN l yy nar nar.length))).cells hz188.out 6 _ rfl), (((F189.at 0 rfl : Sl iceEnc 8 rl_b rh_b _ (.slice (some ⟨x185, o186, none⟩) nar.length rc_b) (runN l yy nar nar.length))).cells hz188.out 7 _ rfl), (((F189.at 1 rfl : Sl iceEnc 8 rl_a rh_a _ (.slice (some ⟨x183, o184, none⟩) dl.length rc_a) (runN l ic dl dl.length))).cells hz187.out 0 _ rfl), (((F189.at 1 rfl : Sl iceEnc 8 rl_a rh_a _ (.slice (some ⟨x183, o184, none⟩) dl.length rc_a) (runN l ic dl dl.length))).cells hz187.out 1 _ rfl), (((F189.at 1 rfl : Sl iceEnc 8 rl_a rh_a _ (.slice (some ⟨x183, o184, none⟩) dl.length rc_a) (runN l ic dl dl.length))).cells hz187.out 2 _ rfl), (((F189.at 1 rfl : Sl iceEnc 8 rl_a rh_a _ (.slice (some ⟨x183, o184, none⟩) dl.length rc_a) (runN l ic dl dl.length))).cells hz187.out 3 _ rfl), (((F189.at 1 rfl : Sl iceEnc 8 rl_a rh_a _ (.slice (some ⟨x183, o184, none⟩) dl.length rc_a) (runN l ic dl dl.length))).cells hz187.out 4 _ rfl), (((F189.at 1 rfl : Sl iceEnc 8 rl_a rh_a _ (.slice (some ⟨x183, o184, none⟩) dl.length rc_a) (runN l ic dl dl.length))).cells hz187.out 5 _ rfl), (((F189.at 1 rfl : Sl iceEnc 8 rl_a rh_a _ (.slice (some ⟨x183, o184, none⟩) dl.length rc_a) (runN l ic dl dl.length))).cells hz187.out 6 _ rfl), (((F189.at 1 rfl : Sl iceEnc 8 rl_a rh_a _ (.slice (some ⟨x183, o184, none⟩) dl.length rc_a) (runN l ic dl dl.length))).cells hz187.out 7 _ rfl)⟩
        obtain ⟨wd191, hwd_⟩ : ∃ x : World, w181.drew = x := ⟨_, rfl⟩
        rw [hwd_] at F189 ⊢
        have wd191s : w181.heap.size ≤ wd191.heap.size := by rw [← hwd_]; exact Nat.le_refl _
        clear hwd_
        have hS190 := (And.intro ((((F189.at 0 rfl : Sl iceEnc 8 rl_b rh_b _ (.slice (some ⟨x185, o186, none⟩) nar.length rc_b) (runN l yy nar nar.length))).cells hz188.out 0 _ rfl)) (And.intro ((((F189.at 0 rfl : Sl iceEnc 8 rl_b rh_b _ (.slice (some ⟨x185, o186, none⟩) nar.length rc_b) (runN l yy nar nar.length))).cells hz188.out 1 _ rfl)) (And.intro ((((F189.at 0 rfl : Sl iceEnc 8 rl_b rh_b _ (.slice (some ⟨x185, o186, none⟩) nar.length rc_b) (runN l yy nar nar.length))).cells hz188.out 2 _ rfl)) (And.intro ((((F189.at 0 rfl : Sl iceEnc 8 rl_b rh_b _ (.slice (some ⟨x185, o186, none⟩) nar.length rc_b) (runN l yy nar nar.length))).cells hz188.out 3 _ rfl)) (And.intro ((((F189.at 0 rfl : Sl iceEnc 8 rl_b rh_b _ (.slice (some ⟨x185, o186, none⟩) nar.length rc_b) (runN l yy nar nar.length))).cells hz188.out 4 _ rfl)) (And.intro ((((F189.at 0 rfl : Sl iceEnc 8 rl_b rh_b _ (.slice (some ⟨x185, o186, none⟩) nar.length rc_b) (runN l yy nar nar.length))).cells hz188.out 5 _ rfl)) (And.intro ((((F189.at 0 rfl : Sl iceEnc 8 rl_b rh_b _ (.slice (some ⟨x185, o186, none⟩) nar.length rc_b) (runN l yy nar nar.length))).cells hz188.out 6 _ rfl)) (And.intro ((((F189.at 0 rfl : Sl iceEnc 8 rl_b rh_b _ (.slice (some ⟨x185, o186, none⟩) nar.length rc_b) (runN l yy nar nar.length))).cells hz188.out 7 _ rfl)) (And.intro ((((F189.at 1 rfl : Sl iceEnc 8 rl_a rh_a _ (.slice (some ⟨x183, o184, none⟩) dl.length rc_a) (runN l ic dl dl.length))).cells hz187.out 0 _ rfl)) (And.intro ((((F189.at 1 rfl : Sl iceEnc 8 rl_a rh_a _ (.slice (some ⟨x183, o184, none⟩) dl.length rc_a) (runN l ic dl dl.length))).cells hz187.out 1 _ rfl)) (And.intro ((((F189.at 1 rfl : Sl iceEnc 8 rl_a rh_a _ (.slice (some ⟨x183, o184, none⟩) dl.length rc_a) (runN l ic dl dl.length))).cells hz187.out 2 _ rfl)) (And.intro ((((F189.at 1 rfl : Sl iceEnc 8 rl_a rh_a _ (.slice (some ⟨x183, o184, none⟩) dl.length rc_a) (runN l ic dl dl.length))).cells hz187.out 3 _ rfl)) (And.intro ((((F189.at 1 rfl : Sl iceEnc 8 rl_a rh_a _ (.slice (some ⟨x183, o184, none⟩) dl.length rc_a) (runN l ic dl dl.length))).cells hz187.out 4 _ rfl)) (And.intro ((((F189.at 1 rfl : Sl iceEnc 8 rl_a rh_a _ (.slice (some ⟨x183, o184, none⟩) dl.length rc_a) (runN l ic dl dl.length))).cells hz187.out 5 _ rfl)) (And.intro ((((F189.at 1 rfl : Sl iceEnc 8 rl_a rh_a _ (.slice (some ⟨x183, o184, none⟩) dl.length rc_a) (runN l ic dl dl.length))).cells hz187.out 6 _ rfl)) ((((F189.at 1 rfl : Sl iceEnc 8 rl_a rh_a _ (.slice (some ⟨x183, o184, none⟩) dl.length rc_a) (runN l ic dl dl.length))).cells hz187.out 7 _ rfl)))))))))))))))))
        refine ru_take 0 [8, 3, 2] (v := ?_) rfl (by kernel_rfl) (fun _ _ _ h => h) (by assumption) (.inl ⟨by first | kernel_rfl | rfl, ?_⟩) ?_
        rotate_left
        · (intro wS hwS; (try dsimp only at hwS); go_simp; (try with_reducible rfl))
        (try simp only [Act.put, List.setIfInBounds_toArray, List.set_cons_zero, List.set_cons_succ])
        refine ru_take 1 [8, 3, 2] (v := ?_) rfl (by kernel_rfl) (fun _ _ _ h => h) (by assumption) (.inl ⟨by first | kernel_rfl | rfl, ?_⟩) ?_
        rotate_left
        · (intro wS hwS; (try dsimp only at hwS); go_simp; (try with_reducible rfl))
        (try simp only [Act.put, List.setIfInBounds_toArray, List.set_cons_zero, List.set_cons_succ])
        refine ru_take 2 [8, 3] (v := ?_) rfl (by kernel_rfl) (fun _ _ _ h => h) (by assumption) (.inl ⟨by first | kernel_rfl | rfl, ?_⟩) ?_
        rotate_left
        · (intro wS hwS; (try dsimp only at hwS); go_simp; (try with_reducible rfl))
        (try simp only [Act.put, List.setIfInBounds_toArray, List.set_cons_zero, List.set_cons_succ])
        refine ru_take 3 [8] (v := ?_) rfl (by kernel_rfl) (fun _ _ _ h => h) (by assumption) (.inl ⟨by first | kernel_rfl | rfl, ?_⟩) ?_
        rotate_left
        · (intro wS hwS; (try dsimp only at hwS); go_simp; (try with_reducible rfl))
        (try simp only [Act.put, List.setIfInBounds_toArray, List.set_cons_zero, List.set_cons_succ])
        refine ru_take 4 [8, 7, 6] (v := ?_) rfl (by kernel_rfl) (fun _ _ _ h => h) (by assumption) (.inl ⟨by first | kernel_rfl | rfl, ?_⟩) ?_
        rotate_left
        · (intro wS hwS; (try dsimp only at hwS); go_simp; (try with_reducible rfl))
        (try simp only [Act.put, List.setIfInBounds_toArray, List.set_cons_zero, List.set_cons_succ])
        refine ru_take 5 [8, 7, 6] (v := ?_) rfl (by kernel_rfl) (fun _ _ _ h => h) (by assumption) (.inl ⟨by first | kernel_rfl | rfl, ?_⟩) ?_
        rotate_left
        · (intro wS hwS; (try dsimp only at hwS); go_simp; (try with_reducible rfl))
        (try simp only [Act.put, List.setIfInBounds_toArray, List.set_cons_zero, List.set_cons_succ])
        refine ru_take 6 [8, 7] (v := ?_) rfl (by kernel_rfl) (fun _ _ _ h => h) (by assumption) (.inl ⟨by first | kernel_rfl | rfl, ?_⟩) ?_
        rotate_left
        · (intro wS hwS; (try dsimp only at hwS); go_simp; (try with_reducible rfl))
        (try simp only [Act.put, List.setIfInBounds_toArray, List.set_cons_zero, List.set_cons_succ])
        refine ru_take 7 [8] (v := ?_) rfl (by kernel_rfl) (fun _ _ _ h => h) (by assumption) (.inl ⟨by first | kernel_rfl | rfl, ?_⟩) ?_
        rotate_left
        · (intro wS hwS; (try dsimp only at hwS); go_simp; (try with_reducible rfl))
        (try simp only [Act.put, List.setIfInBounds_toArray, List.set_cons_zero, List.set_cons_succ])
        clear hS190
        refine ru_one 8 rfl (by kernel_rfl) (fun K hK => ?_)
        go_simp
        refine (inside_yes (HRS.out (k + 1) (by omega)) _).mono ?_
        rintro e w194 ⟨rfl, hg192⟩
        have hg192s := hg192.size
        (try simp at hg192s)
        have F195 := F189.gn hg192
        clear F189
        refine ru_back hK (by exact ⟨(((F195.at 0 rfl : Sl iceEnc 8 rl_b rh_b _ (.slice (some ⟨x185, o186, none⟩) nar.length rc_b) (runN l yy nar nar.length))).cells hz188.out 0 _ rfl), (((F195.at 0 rfl : Sl iceEnc 8 rl_b rh_b _ (.slice (some ⟨x185, o186, none⟩) nar.length rc_b) (runN l yy nar nar.length))).cells hz188.out 1 _ rfl), (((F195.at 0 rfl : Sl iceEnc 8 rl_b rh_b _ (.slice (some ⟨x185, o186, none⟩) nar.length rc_b) (runN l yy nar nar.length))).cells hz188.out 2 _ rfl), (((F195.at 0 rfl : Sl iceEnc 8 rl_b rh_b _ (.slice (some ⟨x185, o186, none⟩) nar.length rc_b) (runN l yy nar nar.length))).cells hz188.out 3 _ rfl), (((F195.at 0 rfl : Sl iceEnc 8 rl_b rh_b _ (.slice (some ⟨x185, o186, none⟩) nar.length rc_b) (runN l yy nar nar.length))).cells hz188.out 4 _ rfl), (((F195.at 0 rfl : Sl iceEnc 8 rl_b rh_b _ (.slice (some ⟨x185, o186, none⟩) nar.length rc_b) (runN l yy nar nar.length))).cells hz188.out 5 _ rfl), (((F195.at 0 rfl : Sl iceEnc 8 rl_b rh_b _ (.slice (some ⟨x185, o186, none⟩) nar.length rc_b) (runN l yy nar nar.length))).cells hz188.out 6 _ rfl), (((F195.at 0 rfl : Sl iceEnc 8 rl_b rh_b _ (.slice (some ⟨x185, o186, none⟩) nar.length rc_b) (runN l yy nar nar.length))).cells hz188.out 7 _ rfl), (((F195.at 1 rfl : Sl iceEnc 8 rl_a rh_a _ (.slice (some ⟨x183, o184, none⟩) dl.length rc_a) (runN l ic dl dl.length))).cells hz187.out 0 _ rfl), (((F195.at 1 rfl : Sl iceEnc 8 rl_a rh_a _ (.slice (some ⟨x183, o184, none⟩) dl.length rc_a) (runN l ic dl dl.length))).cells hz187.out 1 _ rfl), (((F195.at 1 rfl : Sl iceEnc 8 rl_a rh_a _ (.slice (some ⟨x183, o184, none⟩) dl.length rc_a) (runN l ic dl dl.length))).cells hz187.out 2 _ rfl), (((F195.at 1 rfl : Sl iceEnc 8 rl_a rh_a _ (.slice (some ⟨x183, o184, none⟩) dl.length rc_a) (runN l ic dl dl.length))).cells hz187.out 3 _ rfl), (((F195.at 1 rfl : Sl iceEnc 8 rl_a rh_a _ (.slice (some ⟨x183, o184, none⟩) dl.length rc_a) (runN l ic dl dl.length))).cells hz187.out 4 _ rfl), (((F195.at 1 rfl : Sl iceEnc 8 rl_a rh_a _ (.slice (some ⟨x183, o184, none⟩) dl.length rc_a) (runN l ic dl dl.length))).cells hz187.out 5 _ rfl), (((F195.at 1 rfl : Sl iceEnc 8 rl_a rh_a _ (.slice (some ⟨x183, o184, none⟩) dl.length rc_a) (runN l ic dl dl.length))).cells hz187.out 6 _ rfl), (((F195.at 1 rfl : Sl iceEnc 8 rl_a rh_a _ (.slice (some ⟨x183, o184, none⟩) dl.length rc_a) (runN l ic dl dl.length))).cells hz187.out 7 _ rfl)⟩) (fun hHeld => ?_)
        clear hK K
        (try simp only [Act.put, List.setIfInBounds_toArray, List.set_cons_zero, List.set_cons_succ])
        refine ru_one 9 rfl (by kernel_rfl) (fun K hK => ?_)
        go_simp
        refine ru_back_late hK (by kernel_rfl) ?_
        clear hK K
        (try simp only [Act.put, List.setIfInBounds_toArray, List.set_cons_zero, List.set_cons_succ])
        refine ru_done (by kernel_rfl) ?_
        obtain ⟨w196, hx197, F199, hxs198⟩ := (show Bun w [rsl iceEnc 8 rl_b rh_b (.slice (some ⟨x185, o186, none⟩) nar.length rc_b) (runN l yy nar nar.length), rsl iceEnc 8 rl_a rh_a (.slice (some ⟨x183, o184, none⟩) dl.length rc_a) (runN l ic dl dl.length), rsl weaEnc 6 ld_nar hd_nar (.slice da_nar nar.length dc_nar) nar, rseed sb, rsl weaEnc 6 ld_dl hd_dl (.slice da_dl dl.length dc_dl) dl, rsl covEnc 3 lo_l hi_l (.slice sal l.cov.length scl) l.cov, rsl intEnc 1 0 w.heap.size (.slice na zs.length nc) zs] _ from F195).name
        (try simp at hxs198)
        rw [hx197]
        clear hx197 F195
        go_wp2_with fail
        (first | refine ⟨by kernel_rfl, ?_, ?_⟩ | refine ⟨rfl, ?_, ?_⟩ | refine ⟨?_, ?_⟩)
        · rw [HI178.out]; exact ⟨k + 1, (by first | kernel_rfl | rfl), (by first | kernel_rfl | rfl), (by first | kernel_rfl | rfl), (by first | kernel_rfl | rfl), (by first | kernel_rfl | rfl), (by first | kernel_rfl | rfl), (by show Value.int .i64 ((k : Int) + 1) = _; simp), (by omega), (by first | rfl | simp), (by first | omega | (simp; done) | (simp; omega)), F199⟩
        · simp [slot, intOf]; omega
      · skip
        have c182H := Lib.hid c182
        have c182a : decide ((k : Int) < (dl.length : Int)) = false := dec_f c182
        by_cases c200 : readyS l ic dl (ic.bl.lo + r55) = 0
        · skip
          have c200a : ((readyS l ic dl (ic.bl.lo + r55)) == 0) = true := beq_t c200
          have c200b : ((readyS l ic dl (ic.bl.lo + r55)) != 0) = false := bne_f c200
          have c200H := Lib.hid c200
          clear c200
          by_cases c201 : readyP l yy nar (ic.bl.lo + r55) = 0
          · skip
            have c201a : ((readyP l yy nar (ic.bl.lo + r55)) == 0) = true := beq_t c201
            have c201b : ((readyP l yy nar (ic.bl.lo + r55)) != 0) = false := bne_f c201
            have c201H := Lib.hid c201
            clear c201
            go_wp2_with fail
            refine (awake_c _).mono ?_
            rintro e w204 ⟨rfl, hg202⟩
            have hg202s := hg202.size
            (try simp at hg202s)
            have F205 := hF179.gn hg202
            clear hF179
            clear hg202
            go_wp2_with fail
            go_ret
            exact ⟨rfl, F205.gb⟩
          · skip
            have c201a : ((readyP l yy nar (ic.bl.lo + r55)) == 0) = false := beq_f c201
            have c201b : ((readyP l yy nar (ic.bl.lo + r55)) != 0) = true := bne_t c201
            have c201H := Lib.hid c201
            clear c201
            have kn206 : 0 < readyP l ic dl (ic.bl.lo + r55) := (HRDY.out.2.resolve_left c201H.out).1
            have kn206H := Lib.hid kn206
            have kn206a : decide (0 < readyP l ic dl (ic.bl.lo + r55)) = true := decide_eq_true kn206
            have kn207 : readyP l ic dl (ic.bl.lo + r55) ≤ readyP l yy nar (ic.bl.lo + r55) := (HRDY.out.2.resolve_left c201H.out).2
            have kn207H := Lib.hid kn207
            have kn207a : decide (readyP l ic dl (ic.bl.lo + r55) ≤ readyP l yy nar (ic.bl.lo + r55)) = true := decide_eq_true kn207
            go_wp2_with fail
            refine (awake_c _).mono ?_
            rintro e w210 ⟨rfl, hg208⟩
            have hg208s := hg208.size
            (try simp at hg208s)
            have F211 := hF179.gn hg208
            clear hF179
            clear hg208
            go_wp2_with fail
            go_ret
            exact ⟨rfl, F211.gb⟩
        · skip
          have c200a : ((readyS l ic dl (ic.bl.lo + r55)) == 0) = false := beq_f c200
          have c200b : ((readyS l ic dl (ic.bl.lo + r55)) != 0) = true := bne_t c200
          have c200H := Lib.hid c200
          clear c200
          have kn212 : 0 < readyS l yy nar (ic.bl.lo + r55) := (HRDY.out.1.resolve_left c200H.out).1
          have kn212H := Lib.hid kn212
          have kn212a : decide (0 < readyS l yy nar (ic.bl.lo + r55)) = true := decide_eq_true kn212
          have kn213 : readyS l yy nar (ic.bl.lo + r55) ≤ readyS l ic dl (ic.bl.lo + r55) := (HRDY.out.1.resolve_left c200H.out).2
          have kn213H := Lib.hid kn213
          have kn213a : decide (readyS l yy nar (ic.bl.lo + r55) ≤ readyS l ic dl (ic.bl.lo + r55)) = true := decide_eq_true kn213
          by_cases c214 : readyP l yy nar (ic.bl.lo + r55) = 0
          · skip
            have c214a : ((readyP l yy nar (ic.bl.lo + r55)) == 0) = true := beq_t c214
            have c214b : ((readyP l yy nar (ic.bl.lo + r55)) != 0) = false := bne_f c214
            have c214H := Lib.hid c214
            clear c214
            go_wp2_with fail
            refine (awake_c _).mono ?_
            rintro e w217 ⟨rfl, hg215⟩
            have hg215s := hg215.size
            (try simp at hg215s)
            have F218 := hF179.gn hg215
            clear hF179
            clear hg215
            go_wp2_with fail
            go_ret
            exact ⟨rfl, F218.gb⟩
          · skip
            have c214a : ((readyP l yy nar (ic.bl.lo + r55)) == 0) = false := beq_f c214
            have c214b : ((readyP l yy nar (ic.bl.lo + r55)) != 0) = true := bne_t c214
            have c214H := Lib.hid c214
            clear c214
            have kn219 : 0 < readyP l ic dl (ic.bl.lo + r55) := (HRDY.out.2.resolve_left c214H.out).1
            have kn219H := Lib.hid kn219
            have kn219a : decide (0 < readyP l ic dl (ic.bl.lo + r55)) = true := decide_eq_true kn219
            have kn220 : readyP l ic dl (ic.bl.lo + r55) ≤ readyP l yy nar (ic.bl.lo + r55) := (HRDY.out.2.resolve_left c214H.out).2
            have kn220H := Lib.hid kn220
            have kn220a : decide (readyP l ic dl (ic.bl.lo + r55) ≤ readyP l yy nar (ic.bl.lo + r55)) = true := decide_eq_true kn220
            go_wp2_with fail
            refine (awake_c _).mono ?_
            rintro e w223 ⟨rfl, hg221⟩
            have hg221s := hg221.size
            (try simp at hg221s)
            have F224 := hF179.gn hg221
            clear hF179
            clear hg221
            go_wp2_with fail
            go_ret
            exact ⟨rfl, F224.gb⟩
    case atStart16 =>
      rw [HI178.out]
      exact ⟨0, (by first | kernel_rfl | rfl), (by first | kernel_rfl | rfl), (by first | kernel_rfl | rfl), (by first | kernel_rfl | rfl), (by first | kernel_rfl | rfl), (by first | kernel_rfl | rfl), rfl, Nat.zero_le _, rfl, (by first | exact Nat.le_refl _ | omega | (simp; done) | (simp; omega)), (((((F177.drop 0 rfl).drop 0 rfl).drop 2 rfl).drop 5 rfl).drop 5 rfl)⟩

end Go.Proofs.Ythblaiefalbomaa
