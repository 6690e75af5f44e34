/- the law: BuildDry walked. -/
import Derived.Test.YtkclabflkocbaaaRD2
import Derived.Test.YtkclabflkocbaaaRW2
import Derived.Test.YtkclabflkocbaaaRKF2
import Derived.Test.YtkclabflkocbaaaRKF3
set_option linter.unusedVariables false
set_option linter.unusedSimpArgs false
set_option linter.unnecessarySimpa false
namespace Go.Proofs.Ytkclabflkocbaaa
open Go.RowKit
set_option maxRecDepth 100000
attribute [local go_sem] Oper.semAt_some
theorem rgD3156 (t : Nat -> Value) : ((List.range 156).map t).toArray = #[t 0, t 1, t 2, t 3, t 4, t 5, t 6, t 7, t 8, t 9, t 10, t 11, t 12, t 13, t 14, t 15, t 16, t 17, t 18, t 19, t 20, t 21, t 22, t 23, t 24, t 25, t 26, t 27, t 28, t 29, t 30, t 31, t 32, t 33, t 34, t 35, t 36, t 37, t 38, t 39, t 40, t 41, t 42, t 43, t 44, t 45, t 46, t 47, t 48, t 49, t 50, t 51, t 52, t 53, t 54, t 55, t 56, t 57, t 58, t 59, t 60, t 61, t 62, t 63, t 64, t 65, t 66, t 67, t 68, t 69, t 70, t 71, t 72, t 73, t 74, t 75, t 76, t 77, t 78, t 79, t 80, t 81, t 82, t 83, t 84, t 85, t 86, t 87, t 88, t 89, t 90, t 91, t 92, t 93, t 94, t 95, t 96, t 97, t 98, t 99, t 100, t 101, t 102, t 103, t 104, t 105, t 106, t 107, t 108, t 109, t 110, t 111, t 112, t 113, t 114, t 115, t 116, t 117, t 118, t 119, t 120, t 121, t 122, t 123, t 124, t 125, t 126, t 127, t 128, t 129, t 130, t 131, t 132, t 133, t 134, t 135, t 136, t 137, t 138, t 139, t 140, t 141, t 142, t 143, t 144, t 145, t 146, t 147, t 148, t 149, t 150, t 151, t 152, t 153, t 154, t 155] := rfl
theorem iceErr_dry {x : Ice} (h : iceErr x = 0) : iceErr ⟨x.bl, x.wh, ⟨0, 0⟩, x.sn⟩ = 0 := by
 unfold iceErr at h ⊢
 split at h
 · contradiction
 rename_i h1
 split at h
 · contradiction
 rename_i h2
 split at h
 · contradiction
 rw [if_neg h1, if_neg h2, if_neg (by show ¬ ¬ spanErr 0 0 0 5000 = 0; decide)]
 exact h
def ThOk (l : Fro) (x : Ice) (dl : List Wea) (need most : Int) (w : World) : Ending -> World -> Prop := fun e w' => ∃ (a : Option Addr) (c lo hi : Nat) (d : Int), e = .returned (.tuple #[.slice a dl.length c, .int .i64 d, .int .i64 0]) /\ ((w.heap.size <= lo /\ hi <= w'.heap.size) /\ (0 <= d /\ d <= (dl.length : Int)) /\ readyS l x (thkS l x dl most dl.length) need = d) /\ Sl intEnc 1 lo hi w' (.slice a dl.length c) (thkL l x dl most dl.length) /\ w.grownBy w' none
theorem thick_ok (lo hi : Nat) (v : Value) (l : Fro) (x : Ice) (lo2 hi2 : Nat) (vd : Value) (dl : List Wea) (need most : Int) (w : World) (hl : Sl covEnc 3 lo hi w v l.cov) (h2 : hi <= w.heap.size) (hl2 : Sl weaEnc 6 lo2 hi2 w vd dl) (h22 : hi2 <= w.heap.size) (hF : ThF l x dl most) (hn : 0 <= need /\ need <= 5000) :
  Calls Try.prog 11 #[.agg (froC l v), .agg (iceC x), vd, .int .i64 need, .int .i64 most] w (ThOk l x dl need most w) := by
 refine (thicken_c lo hi v l x lo2 hi2 vd dl need most w hl h2 hl2 h22).mono ?_
 rintro e w' ⟨a, c, l1, l2, he', ⟨hb, _⟩, hs, hg⟩
 have hm := hF.m
 have e0 : thkE l x dl need most = 0 := by rw [thkE, if_neg (not_not_intro (show allE l x dl = 0 from thkS_allE hF (k := 0) (Nat.zero_le _))), if_neg (by omega)]
 have e1 : thkW l x dl need most = thkL l x dl most dl.length := by rw [thkW, if_pos e0]
 have e2 : thkD l x dl need most = readyS l x (thkS l x dl most dl.length) need := by rw [thkD, if_pos e0]
 rw [e1, thkL_len, e2, e0] at he'
 rw [e1, thkL_len] at hs
 refine ⟨a, c, l1, l2, _, he', ⟨hb, ?_, rfl⟩, hs, hg⟩
 rw [readyS, if_pos (readyE_ok (thkS_allE hF (Nat.le_refl _)) hn)]
 have h := fstP_bd (fun j => sureB l need (stI l x (thkS l x dl most dl.length) (j + 1))) (thkS l x dl most dl.length).length
 rw [thkS_len] at h ⊢
 exact h
theorem thick_okC (lo hi : Nat) (v : Value) (l : Fro) (x : Ice) (xc : Array Value) (hx : iceC x = xc) (lo2 hi2 : Nat) (vd : Value) (dl : List Wea) (need most : Int) (w : World) (hl : Sl covEnc 3 lo hi w v l.cov) (h2 : hi <= w.heap.size) (hl2 : Sl weaEnc 6 lo2 hi2 w vd dl) (h22 : hi2 <= w.heap.size) (hF : ThF l x dl most) (hn : 0 <= need /\ need <= 5000) :
  Calls Try.prog 11 #[.agg (froC l v), .agg xc, vd, .int .i64 need, .int .i64 most] w (ThOk l x dl need most w) := by
 subst hx
 exact thick_ok lo hi v l x lo2 hi2 vd dl need most w hl h2 hl2 h22 hF hn
theorem run_th (lo hi : Nat) (v : Value) (l : Fro) (x : Ice) (dl : List Wea) (most : Int) (lo2 hi2 : Nat) (vd : Value) (w : World) (hl : Sl covEnc 3 lo hi w v l.cov) (h2 : hi <= w.heap.size) (hl2 : Sl weaEnc 6 lo2 hi2 w vd (thkS l x dl most dl.length)) (h22 : hi2 <= w.heap.size) (hF : ThF l x dl most) :
  Calls Try.prog 12 #[.agg (froC l v), .agg (iceC x), vd] w (fun e w' => ∃ (a : Option Addr) (c lo hi : Nat), e = .returned (.tuple #[.slice a dl.length c, .int .i64 0]) /\ (w.heap.size <= lo /\ hi <= w'.heap.size) /\ Sl iceEnc 8 lo hi w' (.slice a dl.length c) (runN l x (thkS l x dl most dl.length) dl.length) /\ w.grownBy w' none) := by
 have h := run_ok lo hi v l x lo2 hi2 vd (thkS l x dl most dl.length) w hl h2 hl2 h22 (thkS_allE hF (Nat.le_refl _))
 rw [thkS_len] at h
 refine h.mono ?_
 rintro e w' ⟨a, c, l1, l2, he, ⟨h3, h4, _⟩, hs, hg⟩
 exact ⟨a, c, l1, l2, he, ⟨h3, h4⟩, hs, hg⟩
theorem ready_th (lo hi : Nat) (v : Value) (l : Fro) (x : Ice) (dl : List Wea) (need most d : Int) (lo2 hi2 : Nat) (vd : Value) (w : World) (hl : Sl covEnc 3 lo hi w v l.cov) (h2 : hi <= w.heap.size) (hl2 : Sl weaEnc 6 lo2 hi2 w vd (thkS l x dl most dl.length)) (h22 : hi2 <= w.heap.size) (hF : ThF l x dl most) (hn : 0 <= need /\ need <= 5000) (hd : readyS l x (thkS l x dl most dl.length) need = d) :
  Calls Try.prog 13 #[.agg (froC l v), .agg (iceC x), vd, .int .i64 need] w (fun e w' => ∃ p : Int, e = .returned (.tuple #[.int .i64 d, .int .i64 p, .int .i64 0]) /\ w.grownBy w' none) := by
 have h := ready_ok lo hi v l x lo2 hi2 vd (thkS l x dl most dl.length) need w hl h2 hl2 h22 (thkS_allE hF (Nat.le_refl _)) hn
 rw [hd] at h
 refine h.mono ?_
 rintro e w' ⟨he, hg⟩
 exact ⟨_, he, hg⟩
set_option maxHeartbeats 32000000 in
theorem dry_walk (vn : Value) (zs : List Int) (w : World) (hn : Sl intEnc 1 0 w.heap.size w vn zs) :
  Calls Try.prog 3 #[vn] w (Ret (.bool true) w) := by
 have F1 : Bun w [] w := Bun.nil _
 obtain ⟨na, nc, rfl⟩ := hn.any
 have hm_nums := hn.len
 unfold maxLen at hm_nums
 replace F1 := F1.sl0 hn (Nat.le_refl _) rfl
 go_enter Try.func3, Try.ntmps3
 go_wp2_with fail
 refine (newSeed_c 0 w.heap.size _ zs _ (F1.at 0 rfl : Sl intEnc 1 0 w.heap.size _ (.slice na zs.length nc) zs)).mono ?_
 rintro e w5 ⟨sb, rfl, hsb, hsbs, hg3⟩
 have hsbl := hsbs.lt
 have hg3s := hg3.size
 (try simp at hg3s)
 replace F1 := F1.add (rseed sb) hg3 (hsbs) (fun g e => by cases e; exact ⟨hsb, hsbs.lt⟩)
 clear hg3
 go_wp2_with fail
 refine (frostOf_c sb _ (F1.at 0 rfl : SeedAt _ sb)).mono ?_
 rintro e w9 ⟨l, vl, lo_l, hi_l, rfl, hxl, hyl, hzl, hfl, hs8, hg7⟩
 obtain ⟨sal, scl, rfl⟩ := hzl.any
 have HFl := lhd hfl
 clear hfl
 have hml := hzl.len
 unfold maxLen at hml
 have hg7s := hg7.size
 (try simp at hg7s)
 replace F1 := F1.seedAdd (rsl covEnc 3 lo_l hi_l (.slice sal l.cov.length scl) l.cov) hg7 hs8 (hzl) (fun g e => ⟨Nat.le_trans hxl e.1, Nat.lt_of_lt_of_le e.2 hyl⟩)
 clear hg7
 go_wp2_with fail
 refine (iceOf_c sb _ (F1.at 1 rfl : SeedAt _ sb)).mono ?_
 rintro e w13 ⟨ic, rfl, ⟨hic, hicm⟩, hs12, hg11⟩
 have hicb := iceB hic
 have hg11s := hg11.size
 (try simp at hg11s)
 replace F1 := F1.seedAt 1 rfl hg11 hs12
 clear hg11
 go_wp2_with fail
 replace F1 := F1.new 29 (froC l (.slice sal l.cov.length scl)) (n := w13.heap.size) (by simp)
 replace F1 := F1.new 32 (iceC ic) (n := (w13.heap.size + 1)) (by simp)
 refine (yes_c sb 2 _ (F1.at 3 rfl : SeedAt _ sb) (by omega) (by omega)).mono ?_
 rintro e w20 ⟨yb15, rfl, hs19, hg18⟩
 have hg18s := hg18.size
 (try simp at hg18s)
 replace F1 := F1.seedAt 3 rfl hg18 hs19
 clear hg18
 go_wp2_with fail
 refine (daysOf_s sb 6 yb15 _ ((F1.front 3 rfl rfl).at 0 rfl : SeedAt _ sb) (by omega)).mono ?_
 rintro e w24 ⟨dl, da_dl, dc_dl, ld_dl, hd_dl, rfl, ⟨hdxdl, hdydl, hdcdl⟩, hdzdl, hdndl, hdvdl, hs23, hg22⟩
 have HDdl := lhd hdvdl
 clear hdvdl
 have hg22s := hg22.size
 (try simp at hg22s)
 have F25 := (F1.front 3 rfl rfl).seedAdd (rsl weaEnc 6 ld_dl hd_dl (.slice da_dl dl.length dc_dl) dl) hg22 hs23 (hdzdl) (fun g e => ⟨Nat.le_trans hdxdl e.1, Nat.lt_of_lt_of_le e.2 hdydl⟩)
 clear F1
 clear hg22
 go_wp2_with fail
 refine (below_c sb 60 _ (F25.at 1 rfl : SeedAt _ sb) (by omega) (by omega)).mono ?_
 rintro e w30 ⟨r26, rfl, hr27, hs29, hg28⟩
 unfold belowR at hr27
 have hg28s := hg28.size
 (try simp at hg28s)
 replace F25 := F25.seedAt 1 rfl hg28 hs29
 clear hg28
 go_wp2_with fail
 replace F25 := F25.drew
 refine ru_begin (fun W => W.cell? ⟨(w13.heap.size + 1), 0, none⟩ = some (.int .i64 ic.bl.lo)) 7 (by kernel_rfl) ?_ ?_
 · exact F25.q 2 0
 obtain ⟨wd38, hwd_⟩ : ∃ x : World, w30.drew = x := ⟨_, rfl⟩
 rw [hwd_] at F25 ⊢
 have wd38s : w30.heap.size <= wd38.heap.size := by rw [← hwd_]; exact Nat.le_refl _
 clear hwd_
 have hS37 := (F25.q 2 0)
 refine ru_t 0 [] ?_
 refine ru_t 1 [] ?_
 refine ru_t 2 [] ?_
 refine ru_t 3 [] ?_
 (try simp only [lpX])
 clear hS37
 refine ru_one 4 rfl (by kernel_rfl) (fun K hK => ?_)
 go_simp
 refine (below_c sb 60 _ (F25.at 1 rfl : SeedAt _ sb) (by omega) (by omega)).mono ?_
 rintro e w43 ⟨r39, rfl, hr40, hs42, hg41⟩
 unfold belowR at hr40
 have hg41s := hg41.size
 (try simp at hg41s)
 replace F25 := F25.seedAt 1 rfl hg41 hs42
 refine ru_back hK (by exact F25.q 2 0) (fun _ => ?_)
 clear hK K
 (try simp only [lpX])
 have hw45 : IntKind.i64.wrap (ic.bl.lo + r39) = ic.bl.lo + r39 := IntWalk.i64_in _ (by omega)
 refine ru_p 5 ?_
 (try simp only [lpX])
 refine ru_p 6 ?_
 (try simp only [lpX])
 refine ru_one 7 rfl (by kernel_rfl) (fun K hK => ?_)
 go_simp
 refine ru_back_late hK (by kernel_rfl) ?_
 clear hK K
 (try simp only [lpX])
 refine ru_done (by kernel_rfl) ?_
 (try clear hw45)
 have Fn_ := F25
 (try dsimp only [List.eraseIdx_cons_succ, List.eraseIdx_cons_zero] at Fn_)
 obtain ⟨w46, hx47, F49, hxs48⟩ := Fn_.name
 (try simp at hxs48)
 rw [hx47]
 clear hx47 F25 Fn_
 go_wp2_with fail
 refine (yes_c sb 2 _ (F49.at 1 rfl : SeedAt _ sb) (by omega) (by omega)).mono ?_
 rintro e w53 ⟨yb50, rfl, hs52, hg51⟩
 have hg51s := hg51.size
 (try simp at hg51s)
 replace F49 := F49.seedAt 1 rfl hg51 hs52
 clear hg51
 cases c55 : yb50
 ·
  have c55H := lhd c55
  obtain ⟨y, hy_⟩ : ∃ y_ : Ice, y_ = ic := ⟨_, rfl⟩
  have hye : iceErr y = 0 := by rw [hy_]; exact hic
  have HTF : Hid (ThF l y dl r26) := lhd ⟨HFl.out, hye, fun d_ h_ => (HDdl.out d_ h_).1, by omega, by omega⟩
  have hnb : 0 <= (min 5000 (ic.bl.lo + r39)) /\ (min 5000 (ic.bl.lo + r39)) <= 5000 := by omega
  have HY := lhd hy_
  have F56 : Bun w [rsl weaEnc 6 ld_dl hd_dl (.slice da_dl dl.length dc_dl) dl, rseed sb, rbox (w13.heap.size + 1) 32 (iceC y), rbox w13.heap.size 29 (froC l (.slice sal l.cov.length scl)), rsl covEnc 3 lo_l hi_l (.slice sal l.cov.length scl) l.cov, rsl intEnc 1 0 w.heap.size (.slice na zs.length nc) zs] _ := (by rw [hy_]; exact F49)
  clear F49
  clear hy_
  have b57 := F56.bx8 2 rfl
  have b58 := F56.bx8 3 rfl
  go_wp2_with fail
  clear b57 b58
  refine (thick_okC _ _ _ l y _ (by rw [HY.out]) _ _ _ dl (min 5000 (ic.bl.lo + r39)) r26 _ (F56.at 4 rfl : Sl covEnc 3 lo_l hi_l _ (.slice sal l.cov.length scl) l.cov) (by first | omega | (simp; omega)) (F56.at 0 rfl : Sl weaEnc 6 ld_dl hd_dl _ (.slice da_dl dl.length dc_dl) dl) (by first | omega | (simp; omega)) HTF.out hnb).mono ?_
  rintro e w61 ⟨aW, cW, lW, hW, dd, rfl, ⟨⟨hWx, hWy⟩, hdd, hrd⟩, hWz, hg59⟩
  have HRD := lhd hrd
  clear hrd
  have hg59s := hg59.size
  (try simp at hg59s)
  replace F56 := F56.add (rsl intEnc 1 lW hW (.slice aW dl.length cW) (thkL l y dl r26 dl.length)) hg59 (hWz) (fun g e => ⟨Nat.le_trans hWx e.1, Nat.lt_of_lt_of_le e.2 hWy⟩)
  clear hg59
  have kn63 : ¬ (dd < 0) := (by omega)
  have kn63H := lhd kn63
  have kn63a : decide (dd < 0) = false := dec_f kn63
  have kn64 : ¬ ((dl.length : Int) < dd) := (by omega)
  have kn64H := lhd kn64
  have kn64a : decide ((dl.length : Int) < dd) = false := dec_f kn64
  go_wp2_with (at_builtin; refine wpList_copyB okWea rfl _ _ rfl w.heap.size w61.heap.size rfl (F56.new 43 #[] (n := w61.heap.size) (by simp)) (by first | omega | (simp; omega)) ld_dl hd_dl (.slice da_dl dl.length dc_dl) dl rfl ((F56.new 43 #[] (n := w61.heap.size) (by simp)).at 2 rfl) (by omega) ?_; intro vc65 w66 hB67 hs68; refine Hid.out ?_)
  refine lhd ?_
  (try simp at hs68)
  have F69 := hB67
  clear F56
  obtain ⟨ca70, cap71, e_⟩ := (Own.sl (F69.at 0 rfl : Own weaEnc 43 6 w.heap.size _ vc65 dl) (fun _ => rfl)).any
  subst e_
  go_wp2_with fail
  have F72 : Bun w [rown weaEnc 43 6 w.heap.size (.slice ca70 dl.length cap71) (thkS l y dl r26 0), rsl intEnc 1 lW hW (.slice aW dl.length cW) (thkL l y dl r26 dl.length), rsl weaEnc 6 ld_dl hd_dl (.slice da_dl dl.length dc_dl) dl, rseed sb, rbox (w13.heap.size + 1) 32 (iceC y), rbox w13.heap.size 29 (froC l (.slice sal l.cov.length scl)), rsl covEnc 3 lo_l hi_l (.slice sal l.cov.length scl) l.cov, rsl intEnc 1 0 w.heap.size (.slice na zs.length nc) zs] _ := F69
  clear F69
  (skip)
  obtain ⟨HI73_, HI730⟩ : ∃ I : RelT, I = (fun t ds wr => ∃ (i : Nat), t 4 = .pointer (some ⟨w13.heap.size, 0, none⟩) /\ t 5 = .pointer (some ⟨w13.heap.size + 1, 0, none⟩) /\ t 7 = .int .i64 r26 /\ t 8 = .int .i64 (min 5000 (ic.bl.lo + r39)) /\ t 9 = .slice aW dl.length cW /\ t 10 = .int .i64 dd /\ t 12 = .slice ca70 dl.length cap71 /\ t 13 = .int .i64 (i : Int) /\ i <= dl.length /\ ds = [] /\ w66.heap.size <= wr.heap.size /\ Bun w [rown weaEnc 43 6 w.heap.size (.slice ca70 dl.length cap71) (thkS l y dl r26 i), rsl intEnc 1 lW hW (.slice aW dl.length cW) (thkL l y dl r26 dl.length), rsl weaEnc 6 ld_dl hd_dl (.slice da_dl dl.length dc_dl) dl, rseed sb, rbox (w13.heap.size + 1) 32 (iceC y), rbox w13.heap.size 29 (froC l (.slice sal l.cov.length scl)), rsl covEnc 3 lo_l hi_l (.slice sal l.cov.length scl) l.cov, rsl intEnc 1 0 w.heap.size (.slice na zs.length nc) zs] wr) := ⟨_, rfl⟩
  have HI73 := lhd HI730
  clear HI730
  refine wp_loopS 156 rfl HI73_ (fun t wr => dl.length - (intOf (t 13)).toNat) ?atStart1 ?round1
  case round1 =>
   intro t ds wr hHid
   rw [HI73.out] at hHid
   obtain ⟨i, e4, e5, e7, e8, e9, e10, e12, e13, hrel⟩ := hHid
   have e := rgD3156 t
   (try dsimp only at e)
   rw [e4, e5, e7, e8, e9, e10, e12, e13] at e
   rw [e]
   simp only [e13]
   clear e e4 e5 e7 e8 e9 e10 e12 e13
   obtain ⟨hi_, rfl, hs75, hF74⟩ := hrel
   clear F72
   obtain ⟨w76, rfl⟩ : ∃ x_ : World, x_ = wr := ⟨_, rfl⟩
   by_cases c77 : (i : Int) < (dl.length : Int)
   ·
    have c77H := lhd c77
    have htl_ := thkS_len l y dl r26 i
    have htn_ := thkN_bd HTF.out (k := i) (by omega)
    obtain ⟨gO, cO, e_⟩ := Own.opnN (hF74.at 0 rfl : Own weaEnc 43 6 w.heap.size _ (.slice ca70 dl.length cap71) (thkS l y dl r26 i)) (n := dl.length) (thkS_len l y dl r26 i) (by omega)
    injection e_ with e1_ en_ e2_
    clear en_
    subst e1_ e2_
    have gOl := (hF74.ltAt 0 rfl _ rfl).1
    obtain ⟨x78, o79, e_⟩ := Sl.addr (hF74.at 1 rfl : Sl intEnc 1 lW hW _ (.slice aW dl.length cW) (thkL l y dl r26 dl.length)) (by rw [thkL_len]; omega)
    subst e_
    have hz80 : Hid ((thkL l y dl r26 dl.length)[i]? = some (thkN l y dl r26 i)) := lhd (thkL_get l y dl r26 (by omega))
    have kn81 : ¬ (thkN l y dl r26 i < 0) := (by omega)
    have kn81H := lhd kn81
    have kn81a : decide (thkN l y dl r26 i < 0) = false := dec_f kn81
    have kn82 : ¬ (r26 < thkN l y dl r26 i) := (by omega)
    have kn82H := lhd kn82
    have kn82a : decide (r26 < thkN l y dl r26 i) = false := dec_f kn82
    obtain ⟨z, hz83_⟩ : ∃ z_, (thkS l y dl r26 i)[i]? = some z_ := ⟨_, List.getElem?_eq_getElem (by omega)⟩
    have hz83 := lhd hz83_
    clear hz83_
    have ge84 : World.cell? _ ⟨x78, o79 + i, none⟩ = some (.int .i64 (thkN l y dl r26 i)) := (by have h_ := Sl.cells (hF74.at 1 rfl) hz80.out 0 _ rfl; simpa using h_)
    have gl85 := cell_lt ge84
    have ge86 : World.cell? _ ⟨gO, i * 6 + 4, none⟩ = some (.int .i64 z.water) := (by simpa using (Own.sl (hF74.at 0 rfl : Own weaEnc 43 6 w.heap.size _ (.slice (some ⟨gO, 0, none⟩) dl.length cap71) (thkS l y dl r26 i)) (fun _ => rfl)).cells hz83.out 4 _ rfl)
    have ge87 : World.frozen? _ ⟨gO, i * 6 + 4, none⟩ = false := Own.live (hF74.at 0 rfl : Own weaEnc 43 6 w.heap.size _ (.slice (some ⟨gO, 0, none⟩) dl.length cap71) (thkS l y dl r26 i)) _
    go_wp2_with fail
    clear ge84 gl85 ge86 ge87
    have F88 := Bun.setOwn (sz := 6) (fun _ => rfl) hF74 hz83.out (y := (⟨z.cold, z.fall, thkN l y dl r26 i, z.clear⟩ : Wea)) (j := 4) (u := (.int .i64 (thkN l y dl r26 i))) (by decide) rfl rfl
    clear hF74
    have eW_ : (thkS l y dl r26 i).set i (⟨z.cold, z.fall, thkN l y dl r26 i, z.clear⟩ : Wea) = (thkS l y dl r26 (i + 1)) := setW_at hz83.out _
    rw [eW_] at F88
    clear eW_
    (first | refine ⟨by kernel_rfl, ?_, ?_⟩ | refine ⟨rfl, ?_, ?_⟩ | refine ⟨?_, ?_⟩)
    · rw [HI73.out]; exact ⟨i + 1, by (iterate 7 refine ⟨by kernel_rfl, ?_⟩); exact ⟨(by show Value.int .i64 ((i : Int) + 1) = _; simp), (by omega), (by first | rfl | simp), (by first | omega | (simp; done) | (simp; omega)), F88⟩⟩
    · simp [slot, intOf]; omega
   have c77H := lhd c77
   have c77a : decide ((i : Int) < (dl.length : Int)) = false := dec_f c77
   obtain rfl : i = dl.length := by omega
   have b89 := hF74.bx8 4 rfl
   have b90 := hF74.bx8 5 rfl
   go_wp2_with fail
   clear b89 b90
   refine (run_th _ _ _ l y dl r26 _ _ _ _ (hF74.at 6 rfl : Sl covEnc 3 lo_l hi_l _ (.slice sal l.cov.length scl) l.cov) (by first | omega | (simp; omega)) (Own.sl (hF74.at 0 rfl : Own weaEnc 43 6 w.heap.size _ (.slice ca70 dl.length cap71) (thkS l y dl r26 dl.length)) (fun _ => rfl)) (Nat.le_refl _) HTF.out).mono ?_
   rintro e w93 ⟨aR, cR, lR, hR, rfl, ⟨hRx, hRy⟩, hRz, hg91⟩
   have hg91s := hg91.size
   (try simp at hg91s)
   have F94 := hF74.add (rsl iceEnc 8 lR hR (.slice aR dl.length cR) (runN l y (thkS l y dl r26 dl.length) dl.length)) hg91 (hRz) (fun g e => ⟨Nat.le_trans hRx e.1, Nat.lt_of_lt_of_le e.2 hRy⟩)
   clear hF74
   clear hg91
   have b95 := F94.bx8 5 rfl
   have b96 := F94.bx8 6 rfl
   go_wp2_with fail
   clear b95 b96
   refine (ready_th _ _ _ l y dl (min 5000 (ic.bl.lo + r39)) r26 dd _ _ _ _ (F94.at 7 rfl : Sl covEnc 3 lo_l hi_l _ (.slice sal l.cov.length scl) l.cov) (by first | omega | (simp; omega)) (Own.sl (F94.at 1 rfl : Own weaEnc 43 6 w.heap.size _ (.slice ca70 dl.length cap71) (thkS l y dl r26 dl.length)) (fun _ => rfl)) (Nat.le_refl _) HTF.out hnb HRD.out).mono ?_
   rintro e w99 ⟨pp, rfl, hg97⟩
   have hg97s := hg97.size
   (try simp at hg97s)
   replace F94 := F94.gn hg97
   clear hg97
   go_wp2_with fail
   obtain ⟨HI101_, HI1010⟩ : ∃ I : RelT, I = (fun t ds wr => ∃ (k : Nat), t 5 = .pointer (some ⟨w13.heap.size + 1, 0, none⟩) /\ t 14 = .slice aR dl.length cR /\ t 19 = .int .i64 (k : Int) /\ k <= dl.length /\ ds = [] /\ w99.heap.size <= wr.heap.size /\ Bun w [rsl iceEnc 8 lR hR (.slice aR dl.length cR) (runN l y (thkS l y dl r26 dl.length) dl.length), rown weaEnc 43 6 w.heap.size (.slice ca70 dl.length cap71) (thkS l y dl r26 dl.length), rsl intEnc 1 lW hW (.slice aW dl.length cW) (thkL l y dl r26 dl.length), rsl weaEnc 6 ld_dl hd_dl (.slice da_dl dl.length dc_dl) dl, rseed sb, rbox (w13.heap.size + 1) 32 (iceC y), rsl covEnc 3 lo_l hi_l (.slice sal l.cov.length scl) l.cov, rsl intEnc 1 0 w.heap.size (.slice na zs.length nc) zs] wr) := ⟨_, rfl⟩
   have HI101 := lhd HI1010
   clear HI1010
   refine wp_loopS 156 rfl HI101_ (fun t wr => dl.length - (intOf (t 19)).toNat) ?atStart2 ?round2
   case round2 =>
    intro t ds wr hHid
    rw [HI101.out] at hHid
    obtain ⟨k, e5, e14, e19, hrel⟩ := hHid
    have e := rgD3156 t
    (try dsimp only at e)
    rw [e5, e14, e19] at e
    rw [e]
    simp only [e19]
    clear e e5 e14 e19
    obtain ⟨hk_, rfl, hs103, hF102⟩ := hrel
    clear F94
    obtain ⟨w104, rfl⟩ : ∃ x_ : World, x_ = wr := ⟨_, rfl⟩
    by_cases c105 : (k : Int) < (dl.length : Int)
    ·
     have c105H := lhd c105
     obtain ⟨x106, o107, e_⟩ := Sl.addr (hF102.at 0 rfl : Sl iceEnc 8 lR hR _ (.slice aR dl.length cR) (runN l y (thkS l y dl r26 dl.length) dl.length)) (by rw [runN_len]; omega)
     subst e_
     have hz108 : Hid ((runN l y (thkS l y dl r26 dl.length) dl.length)[k]? = some (stI l y (thkS l y dl r26 dl.length) (k + 1))) := lhd (runN_get (by omega))
     by_cases c109 : y.we.hi = 0
     ·
      have c109a : (y.we.hi == 0) = true := beq_t c109
      have c109b : (y.we.hi != 0) = false := bne_f c109
      have c109H := lhd c109
      clear c109
      have kn110 : (stI l y (thkS l y dl r26 dl.length) (k + 1)).we.hi = 0 := (thkS_dry HTF.out c109H.out (k + 1) (by omega))
      have kn110H := lhd kn110
      have kn110a : (((stI l y (thkS l y dl r26 dl.length) (k + 1)).we.hi) == 0) = true := beq_t kn110
      have kn110b : (((stI l y (thkS l y dl r26 dl.length) (k + 1)).we.hi) != 0) = false := bne_f kn110
      clear kn110
      have b111 := hF102.bx8 5 rfl
      have ge112 : World.cell? _ ⟨x106, o107 + k * 8 + 4 + 1, none⟩ = some (.int .i64 ((stI l y (thkS l y dl r26 dl.length) (k + 1)).we.hi)) := (Sl.cells (hF102.at 0 rfl) hz108.out 5 _ rfl)
      have gl113 := cell_lt ge112
      go_wp2_with fail
      clear b111 ge112 gl113
      (first | refine ⟨by kernel_rfl, ?_, ?_⟩ | refine ⟨rfl, ?_, ?_⟩ | refine ⟨?_, ?_⟩)
      · rw [HI101.out]; exact ⟨k + 1, (by kernel_rfl), (by kernel_rfl), (by show Value.int .i64 ((k : Int) + 1) = _; simp), (by omega), (by first | rfl | simp), (by first | omega | (simp; done) | (simp; omega)), hF102⟩
      · simp [slot, intOf]; omega
     have c109a : (y.we.hi == 0) = false := beq_f c109
     have c109b : (y.we.hi != 0) = true := bne_t c109
     have c109H := lhd c109
     clear c109
     have b114 := hF102.bx8 5 rfl
     go_wp2_with fail
     clear b114
     (first | refine ⟨by kernel_rfl, ?_, ?_⟩ | refine ⟨rfl, ?_, ?_⟩ | refine ⟨?_, ?_⟩)
     · rw [HI101.out]; exact ⟨k + 1, (by kernel_rfl), (by kernel_rfl), (by show Value.int .i64 ((k : Int) + 1) = _; simp), (by omega), (by first | rfl | simp), (by first | omega | (simp; done) | (simp; omega)), hF102⟩
     · simp [slot, intOf]; omega
    have c105H := lhd c105
    have c105a : decide ((k : Int) < (dl.length : Int)) = false := dec_f c105
    go_wp2_with fail
    refine (awake_c _).mono ?_
    rintro e w117 ⟨rfl, hg115⟩
    have hg115s := hg115.size
    (try simp at hg115s)
    have F118 := hF102.gn hg115
    clear hF102
    clear hg115
    go_wp2_with fail
    go_ret
    exact ⟨rfl, F118.gb⟩
   case atStart2 =>
    rw [HI101.out]
    exact ⟨0, (by kernel_rfl), (by kernel_rfl), rfl, Nat.zero_le _, rfl, (by first | exact Nat.le_refl _ | omega | (simp; done) | (simp; omega)), (F94.drop 6 rfl)⟩
  case atStart1 =>
   rw [HI73.out]
   exact ⟨0, by (iterate 7 refine ⟨by kernel_rfl, ?_⟩); exact ⟨rfl, Nat.zero_le _, rfl, (by first | exact Nat.le_refl _ | omega | (simp; done) | (simp; omega)), F72⟩⟩
 have c55H := lhd c55
 go_wp2_with fail
 refine (aone_c 0 _).mono ?_
 rintro e w121 ⟨rfl, hg119⟩
 have hg119s := hg119.size
 (try simp at hg119s)
 replace F49 := F49.gn hg119
 clear hg119
 have b123 := F49.bx8 2 rfl
 have b124 := F49.bx8 3 rfl
 go_wp2_with fail
 clear b123 b124
 have F125 := ((F49.front 2 rfl rfl).set 4 (.int .i64 0)).nf #[.int .i64 ic.bl.lo, .int .i64 ic.bl.hi, .int .i64 ic.wh.lo, .int .i64 ic.wh.hi, .int .i64 0, .int .i64 ic.we.hi, .int .i64 ic.sn.lo, .int .i64 ic.sn.hi] rfl
 clear F49
 have F126 := (F125.set 5 (.int .i64 0)).nf #[.int .i64 ic.bl.lo, .int .i64 ic.bl.hi, .int .i64 ic.wh.lo, .int .i64 ic.wh.hi, .int .i64 0, .int .i64 0, .int .i64 ic.sn.lo, .int .i64 ic.sn.hi] rfl
 clear F125
 obtain ⟨y, hy_⟩ : ∃ y_ : Ice, y_ = (⟨ic.bl, ic.wh, ⟨0, 0⟩, ic.sn⟩ : Ice) := ⟨_, rfl⟩
 have hye : iceErr y = 0 := by rw [hy_]; exact iceErr_dry hic
 have HTF : Hid (ThF l y dl r26) := lhd ⟨HFl.out, hye, fun d_ h_ => (HDdl.out d_ h_).1, by omega, by omega⟩
 have hnb : 0 <= (min 5000 (ic.bl.lo + r39)) /\ (min 5000 (ic.bl.lo + r39)) <= 5000 := by omega
 have HY := lhd hy_
 have F127 : Bun w [rbox (w13.heap.size + 1) 32 (iceC y), rsl weaEnc 6 ld_dl hd_dl (.slice da_dl dl.length dc_dl) dl, rseed sb, rbox w13.heap.size 29 (froC l (.slice sal l.cov.length scl)), rsl covEnc 3 lo_l hi_l (.slice sal l.cov.length scl) l.cov, rsl intEnc 1 0 w.heap.size (.slice na zs.length nc) zs] _ := (by rw [hy_]; exact F126)
 clear F126
 clear hy_
 have b128 := F127.bx8 0 rfl
 have b129 := F127.bx8 3 rfl
 go_wp2_with fail
 clear b128 b129
 refine (thick_okC _ _ _ l y _ (by rw [HY.out]) _ _ _ dl (min 5000 (ic.bl.lo + r39)) r26 _ (F127.at 4 rfl : Sl covEnc 3 lo_l hi_l _ (.slice sal l.cov.length scl) l.cov) (by first | omega | (simp; omega)) (F127.at 1 rfl : Sl weaEnc 6 ld_dl hd_dl _ (.slice da_dl dl.length dc_dl) dl) (by first | omega | (simp; omega)) HTF.out hnb).mono ?_
 rintro e w132 ⟨aW, cW, lW, hW, dd, rfl, ⟨⟨hWx, hWy⟩, hdd, hrd⟩, hWz, hg130⟩
 have HRD := lhd hrd
 clear hrd
 have hg130s := hg130.size
 (try simp at hg130s)
 replace F127 := F127.add (rsl intEnc 1 lW hW (.slice aW dl.length cW) (thkL l y dl r26 dl.length)) hg130 (hWz) (fun g e => ⟨Nat.le_trans hWx e.1, Nat.lt_of_lt_of_le e.2 hWy⟩)
 clear hg130
 have kn134 : ¬ (dd < 0) := (by omega)
 have kn134H := lhd kn134
 have kn134a : decide (dd < 0) = false := dec_f kn134
 have kn135 : ¬ ((dl.length : Int) < dd) := (by omega)
 have kn135H := lhd kn135
 have kn135a : decide ((dl.length : Int) < dd) = false := dec_f kn135
 go_wp2_with (at_builtin; refine wpList_copyB okWea rfl _ _ rfl w.heap.size w132.heap.size rfl (F127.new 43 #[] (n := w132.heap.size) (by simp)) (by first | omega | (simp; omega)) ld_dl hd_dl (.slice da_dl dl.length dc_dl) dl rfl ((F127.new 43 #[] (n := w132.heap.size) (by simp)).at 3 rfl) (by omega) ?_; intro vc136 w137 hB138 hs139; refine Hid.out ?_)
 refine lhd ?_
 (try simp at hs139)
 have F140 := hB138
 clear F127
 obtain ⟨ca141, cap142, e_⟩ := (Own.sl (F140.at 0 rfl : Own weaEnc 43 6 w.heap.size _ vc136 dl) (fun _ => rfl)).any
 subst e_
 go_wp2_with fail
 have F143 : Bun w [rown weaEnc 43 6 w.heap.size (.slice ca141 dl.length cap142) (thkS l y dl r26 0), rsl intEnc 1 lW hW (.slice aW dl.length cW) (thkL l y dl r26 dl.length), rbox (w13.heap.size + 1) 32 (iceC y), rsl weaEnc 6 ld_dl hd_dl (.slice da_dl dl.length dc_dl) dl, rseed sb, rbox w13.heap.size 29 (froC l (.slice sal l.cov.length scl)), rsl covEnc 3 lo_l hi_l (.slice sal l.cov.length scl) l.cov, rsl intEnc 1 0 w.heap.size (.slice na zs.length nc) zs] _ := F140
 clear F140
 (skip)
 obtain ⟨HI144_, HI1440⟩ : ∃ I : RelT, I = (fun t ds wr => ∃ (i : Nat), t 4 = .pointer (some ⟨w13.heap.size, 0, none⟩) /\ t 5 = .pointer (some ⟨w13.heap.size + 1, 0, none⟩) /\ t 7 = .int .i64 r26 /\ t 8 = .int .i64 (min 5000 (ic.bl.lo + r39)) /\ t 9 = .slice aW dl.length cW /\ t 10 = .int .i64 dd /\ t 12 = .slice ca141 dl.length cap142 /\ t 13 = .int .i64 (i : Int) /\ i <= dl.length /\ ds = [] /\ w137.heap.size <= wr.heap.size /\ Bun w [rown weaEnc 43 6 w.heap.size (.slice ca141 dl.length cap142) (thkS l y dl r26 i), rsl intEnc 1 lW hW (.slice aW dl.length cW) (thkL l y dl r26 dl.length), rbox (w13.heap.size + 1) 32 (iceC y), rsl weaEnc 6 ld_dl hd_dl (.slice da_dl dl.length dc_dl) dl, rseed sb, rbox w13.heap.size 29 (froC l (.slice sal l.cov.length scl)), rsl covEnc 3 lo_l hi_l (.slice sal l.cov.length scl) l.cov, rsl intEnc 1 0 w.heap.size (.slice na zs.length nc) zs] wr) := ⟨_, rfl⟩
 have HI144 := lhd HI1440
 clear HI1440
 refine wp_loopS 156 rfl HI144_ (fun t wr => dl.length - (intOf (t 13)).toNat) ?atStart3 ?round3
 case round3 =>
  intro t ds wr hHid
  rw [HI144.out] at hHid
  obtain ⟨i, e4, e5, e7, e8, e9, e10, e12, e13, hrel⟩ := hHid
  have e := rgD3156 t
  (try dsimp only at e)
  rw [e4, e5, e7, e8, e9, e10, e12, e13] at e
  rw [e]
  simp only [e13]
  clear e e4 e5 e7 e8 e9 e10 e12 e13
  obtain ⟨hi_, rfl, hs146, hF145⟩ := hrel
  clear F143
  obtain ⟨w147, rfl⟩ : ∃ x_ : World, x_ = wr := ⟨_, rfl⟩
  by_cases c148 : (i : Int) < (dl.length : Int)
  ·
   have c148H := lhd c148
   have htl_ := thkS_len l y dl r26 i
   have htn_ := thkN_bd HTF.out (k := i) (by omega)
   obtain ⟨gO, cO, e_⟩ := Own.opnN (hF145.at 0 rfl : Own weaEnc 43 6 w.heap.size _ (.slice ca141 dl.length cap142) (thkS l y dl r26 i)) (n := dl.length) (thkS_len l y dl r26 i) (by omega)
   injection e_ with e1_ en_ e2_
   clear en_
   subst e1_ e2_
   have gOl := (hF145.ltAt 0 rfl _ rfl).1
   obtain ⟨x149, o150, e_⟩ := Sl.addr (hF145.at 1 rfl : Sl intEnc 1 lW hW _ (.slice aW dl.length cW) (thkL l y dl r26 dl.length)) (by rw [thkL_len]; omega)
   subst e_
   have hz151 : Hid ((thkL l y dl r26 dl.length)[i]? = some (thkN l y dl r26 i)) := lhd (thkL_get l y dl r26 (by omega))
   have kn152 : ¬ (thkN l y dl r26 i < 0) := (by omega)
   have kn152H := lhd kn152
   have kn152a : decide (thkN l y dl r26 i < 0) = false := dec_f kn152
   have kn153 : ¬ (r26 < thkN l y dl r26 i) := (by omega)
   have kn153H := lhd kn153
   have kn153a : decide (r26 < thkN l y dl r26 i) = false := dec_f kn153
   obtain ⟨z, hz154_⟩ : ∃ z_, (thkS l y dl r26 i)[i]? = some z_ := ⟨_, List.getElem?_eq_getElem (by omega)⟩
   have hz154 := lhd hz154_
   clear hz154_
   have ge155 : World.cell? _ ⟨x149, o150 + i, none⟩ = some (.int .i64 (thkN l y dl r26 i)) := (by have h_ := Sl.cells (hF145.at 1 rfl) hz151.out 0 _ rfl; simpa using h_)
   have gl156 := cell_lt ge155
   have ge157 : World.cell? _ ⟨gO, i * 6 + 4, none⟩ = some (.int .i64 z.water) := (by simpa using (Own.sl (hF145.at 0 rfl : Own weaEnc 43 6 w.heap.size _ (.slice (some ⟨gO, 0, none⟩) dl.length cap142) (thkS l y dl r26 i)) (fun _ => rfl)).cells hz154.out 4 _ rfl)
   have ge158 : World.frozen? _ ⟨gO, i * 6 + 4, none⟩ = false := Own.live (hF145.at 0 rfl : Own weaEnc 43 6 w.heap.size _ (.slice (some ⟨gO, 0, none⟩) dl.length cap142) (thkS l y dl r26 i)) _
   go_wp2_with fail
   clear ge155 gl156 ge157 ge158
   have F159 := Bun.setOwn (sz := 6) (fun _ => rfl) hF145 hz154.out (y := (⟨z.cold, z.fall, thkN l y dl r26 i, z.clear⟩ : Wea)) (j := 4) (u := (.int .i64 (thkN l y dl r26 i))) (by decide) rfl rfl
   clear hF145
   have eW_ : (thkS l y dl r26 i).set i (⟨z.cold, z.fall, thkN l y dl r26 i, z.clear⟩ : Wea) = (thkS l y dl r26 (i + 1)) := setW_at hz154.out _
   rw [eW_] at F159
   clear eW_
   (first | refine ⟨by kernel_rfl, ?_, ?_⟩ | refine ⟨rfl, ?_, ?_⟩ | refine ⟨?_, ?_⟩)
   · rw [HI144.out]; exact ⟨i + 1, by (iterate 7 refine ⟨by kernel_rfl, ?_⟩); exact ⟨(by show Value.int .i64 ((i : Int) + 1) = _; simp), (by omega), (by first | rfl | simp), (by first | omega | (simp; done) | (simp; omega)), F159⟩⟩
   · simp [slot, intOf]; omega
  have c148H := lhd c148
  have c148a : decide ((i : Int) < (dl.length : Int)) = false := dec_f c148
  obtain rfl : i = dl.length := by omega
  have b160 := hF145.bx8 2 rfl
  have b161 := hF145.bx8 5 rfl
  go_wp2_with fail
  clear b160 b161
  refine (run_th _ _ _ l y dl r26 _ _ _ _ (hF145.at 6 rfl : Sl covEnc 3 lo_l hi_l _ (.slice sal l.cov.length scl) l.cov) (by first | omega | (simp; omega)) (Own.sl (hF145.at 0 rfl : Own weaEnc 43 6 w.heap.size _ (.slice ca141 dl.length cap142) (thkS l y dl r26 dl.length)) (fun _ => rfl)) (Nat.le_refl _) HTF.out).mono ?_
  rintro e w164 ⟨aR, cR, lR, hR, rfl, ⟨hRx, hRy⟩, hRz, hg162⟩
  have hg162s := hg162.size
  (try simp at hg162s)
  have F165 := hF145.add (rsl iceEnc 8 lR hR (.slice aR dl.length cR) (runN l y (thkS l y dl r26 dl.length) dl.length)) hg162 (hRz) (fun g e => ⟨Nat.le_trans hRx e.1, Nat.lt_of_lt_of_le e.2 hRy⟩)
  clear hF145
  clear hg162
  have b166 := F165.bx8 3 rfl
  have b167 := F165.bx8 6 rfl
  go_wp2_with fail
  clear b166 b167
  refine (ready_th _ _ _ l y dl (min 5000 (ic.bl.lo + r39)) r26 dd _ _ _ _ (F165.at 7 rfl : Sl covEnc 3 lo_l hi_l _ (.slice sal l.cov.length scl) l.cov) (by first | omega | (simp; omega)) (Own.sl (F165.at 1 rfl : Own weaEnc 43 6 w.heap.size _ (.slice ca141 dl.length cap142) (thkS l y dl r26 dl.length)) (fun _ => rfl)) (Nat.le_refl _) HTF.out hnb HRD.out).mono ?_
  rintro e w170 ⟨pp, rfl, hg168⟩
  have hg168s := hg168.size
  (try simp at hg168s)
  replace F165 := F165.gn hg168
  clear hg168
  go_wp2_with fail
  obtain ⟨HI172_, HI1720⟩ : ∃ I : RelT, I = (fun t ds wr => ∃ (k : Nat), t 5 = .pointer (some ⟨w13.heap.size + 1, 0, none⟩) /\ t 14 = .slice aR dl.length cR /\ t 19 = .int .i64 (k : Int) /\ k <= dl.length /\ ds = [] /\ w170.heap.size <= wr.heap.size /\ Bun w [rsl iceEnc 8 lR hR (.slice aR dl.length cR) (runN l y (thkS l y dl r26 dl.length) dl.length), rown weaEnc 43 6 w.heap.size (.slice ca141 dl.length cap142) (thkS l y dl r26 dl.length), rsl intEnc 1 lW hW (.slice aW dl.length cW) (thkL l y dl r26 dl.length), rbox (w13.heap.size + 1) 32 (iceC y), rsl weaEnc 6 ld_dl hd_dl (.slice da_dl dl.length dc_dl) dl, rseed sb, rsl covEnc 3 lo_l hi_l (.slice sal l.cov.length scl) l.cov, rsl intEnc 1 0 w.heap.size (.slice na zs.length nc) zs] wr) := ⟨_, rfl⟩
  have HI172 := lhd HI1720
  clear HI1720
  refine wp_loopS 156 rfl HI172_ (fun t wr => dl.length - (intOf (t 19)).toNat) ?atStart4 ?round4
  case round4 =>
   intro t ds wr hHid
   rw [HI172.out] at hHid
   obtain ⟨k, e5, e14, e19, hrel⟩ := hHid
   have e := rgD3156 t
   (try dsimp only at e)
   rw [e5, e14, e19] at e
   rw [e]
   simp only [e19]
   clear e e5 e14 e19
   obtain ⟨hk_, rfl, hs174, hF173⟩ := hrel
   clear F165
   obtain ⟨w175, rfl⟩ : ∃ x_ : World, x_ = wr := ⟨_, rfl⟩
   by_cases c176 : (k : Int) < (dl.length : Int)
   ·
    have c176H := lhd c176
    obtain ⟨x177, o178, e_⟩ := Sl.addr (hF173.at 0 rfl : Sl iceEnc 8 lR hR _ (.slice aR dl.length cR) (runN l y (thkS l y dl r26 dl.length) dl.length)) (by rw [runN_len]; omega)
    subst e_
    have hz179 : Hid ((runN l y (thkS l y dl r26 dl.length) dl.length)[k]? = some (stI l y (thkS l y dl r26 dl.length) (k + 1))) := lhd (runN_get (by omega))
    by_cases c180 : y.we.hi = 0
    ·
     have c180a : (y.we.hi == 0) = true := beq_t c180
     have c180b : (y.we.hi != 0) = false := bne_f c180
     have c180H := lhd c180
     clear c180
     have kn181 : (stI l y (thkS l y dl r26 dl.length) (k + 1)).we.hi = 0 := (thkS_dry HTF.out c180H.out (k + 1) (by omega))
     have kn181H := lhd kn181
     have kn181a : (((stI l y (thkS l y dl r26 dl.length) (k + 1)).we.hi) == 0) = true := beq_t kn181
     have kn181b : (((stI l y (thkS l y dl r26 dl.length) (k + 1)).we.hi) != 0) = false := bne_f kn181
     clear kn181
     have b182 := hF173.bx8 3 rfl
     have ge183 : World.cell? _ ⟨x177, o178 + k * 8 + 4 + 1, none⟩ = some (.int .i64 ((stI l y (thkS l y dl r26 dl.length) (k + 1)).we.hi)) := (Sl.cells (hF173.at 0 rfl) hz179.out 5 _ rfl)
     have gl184 := cell_lt ge183
     go_wp2_with fail
     clear b182 ge183 gl184
     (first | refine ⟨by kernel_rfl, ?_, ?_⟩ | refine ⟨rfl, ?_, ?_⟩ | refine ⟨?_, ?_⟩)
     · rw [HI172.out]; exact ⟨k + 1, (by kernel_rfl), (by kernel_rfl), (by show Value.int .i64 ((k : Int) + 1) = _; simp), (by omega), (by first | rfl | simp), (by first | omega | (simp; done) | (simp; omega)), hF173⟩
     · simp [slot, intOf]; omega
    have c180a : (y.we.hi == 0) = false := beq_f c180
    have c180b : (y.we.hi != 0) = true := bne_t c180
    have c180H := lhd c180
    clear c180
    have b185 := hF173.bx8 3 rfl
    go_wp2_with fail
    clear b185
    (first | refine ⟨by kernel_rfl, ?_, ?_⟩ | refine ⟨rfl, ?_, ?_⟩ | refine ⟨?_, ?_⟩)
    · rw [HI172.out]; exact ⟨k + 1, (by kernel_rfl), (by kernel_rfl), (by show Value.int .i64 ((k : Int) + 1) = _; simp), (by omega), (by first | rfl | simp), (by first | omega | (simp; done) | (simp; omega)), hF173⟩
    · simp [slot, intOf]; omega
   have c176H := lhd c176
   have c176a : decide ((k : Int) < (dl.length : Int)) = false := dec_f c176
   go_wp2_with fail
   refine (awake_c _).mono ?_
   rintro e w188 ⟨rfl, hg186⟩
   have hg186s := hg186.size
   (try simp at hg186s)
   have F189 := hF173.gn hg186
   clear hF173
   clear hg186
   go_wp2_with fail
   go_ret
   exact ⟨rfl, F189.gb⟩
  case atStart4 =>
   rw [HI172.out]
   exact ⟨0, (by kernel_rfl), (by kernel_rfl), rfl, Nat.zero_le _, rfl, (by first | exact Nat.le_refl _ | omega | (simp; done) | (simp; omega)), (F165.drop 6 rfl)⟩
 case atStart3 =>
  rw [HI144.out]
  exact ⟨0, by (iterate 7 refine ⟨by kernel_rfl, ?_⟩); exact ⟨rfl, Nat.zero_le _, rfl, (by first | exact Nat.le_refl _ | omega | (simp; done) | (simp; omega)), F143⟩⟩
end Go.Proofs.Ytkclabflkocbaaa
