/- the law: TopThick walked. -/
import Derived.Test.YtdgplekokdeafaaQB13
import Derived.Test.YtdgplekokdeafaaQB4
import Derived.Test.YtdgplekokdeafaaQB7
import Derived.Test.YtdgplekokdeafaaQB11
import Derived.Test.YtdgplekokdeafaaQKD
import Derived.Test.YtdgplekokdeafaaQKF2
import Derived.Test.YtdgplekokdeafaaQKF4
import Derived.Test.YtdgplekokdeafaaQKF5
set_option linter.unusedVariables false
set_option linter.unusedSimpArgs false
set_option linter.unnecessarySimpa false
namespace Go.Proofs.Ytdgplekokdeafaa
open Go.RowKit
set_option maxRecDepth 100000
attribute [local go_sem] Oper.semAt_some
theorem rgB14191 (t : Nat -> Value) : ((List.range 191).map t).toArray = #[t 0, t 1, t 2, t 3, t 4, t 5, t 6, t 7, t 8, t 9, t 10, t 11, t 12, t 13, t 14, t 15, t 16, t 17, t 18, t 19, t 20, t 21, t 22, t 23, t 24, t 25, t 26, t 27, t 28, t 29, t 30, t 31, t 32, t 33, t 34, t 35, t 36, t 37, t 38, t 39, t 40, t 41, t 42, t 43, t 44, t 45, t 46, t 47, t 48, t 49, t 50, t 51, t 52, t 53, t 54, t 55, t 56, t 57, t 58, t 59, t 60, t 61, t 62, t 63, t 64, t 65, t 66, t 67, t 68, t 69, t 70, t 71, t 72, t 73, t 74, t 75, t 76, t 77, t 78, t 79, t 80, t 81, t 82, t 83, t 84, t 85, t 86, t 87, t 88, t 89, t 90, t 91, t 92, t 93, t 94, t 95, t 96, t 97, t 98, t 99, t 100, t 101, t 102, t 103, t 104, t 105, t 106, t 107, t 108, t 109, t 110, t 111, t 112, t 113, t 114, t 115, t 116, t 117, t 118, t 119, t 120, t 121, t 122, t 123, t 124, t 125, t 126, t 127, t 128, t 129, t 130, t 131, t 132, t 133, t 134, t 135, t 136, t 137, t 138, t 139, t 140, t 141, t 142, t 143, t 144, t 145, t 146, t 147, t 148, t 149, t 150, t 151, t 152, t 153, t 154, t 155, t 156, t 157, t 158, t 159, t 160, t 161, t 162, t 163, t 164, t 165, t 166, t 167, t 168, t 169, t 170, t 171, t 172, t 173, t 174, t 175, t 176, t 177, t 178, t 179, t 180, t 181, t 182, t 183, t 184, t 185, t 186, t 187, t 188, t 189, t 190] := rfl
def ThOk (l : Fro) (x : Ice) (dl : List Wea) (need most : Int) (w : World) : Ending -> World -> Prop := fun e w' => ∃ (a : Option Addr) (c lo hi : Nat) (d : Int), e = .returned (.tuple #[.slice a dl.length c, .int .i64 d, .int .i64 0]) /\ ((w.heap.size <= lo /\ hi <= w'.heap.size) /\ (0 <= d /\ d <= (dl.length : Int)) /\ readyS l x (thkS l x dl most dl.length) need = d) /\ Sl intEnc 1 lo hi w' (.slice a dl.length c) (thkL l x dl most dl.length) /\ w.grownBy w' none
theorem thick_ok (lo hi : Nat) (v : Value) (l : Fro) (x : Ice) (lo2 hi2 : Nat) (vd : Value) (dl : List Wea) (need most : Int) (w : World) (hl : Sl covEnc 3 lo hi w v l.cov) (h2 : hi <= w.heap.size) (hl2 : Sl weaEnc 6 lo2 hi2 w vd dl) (h22 : hi2 <= w.heap.size) (hF : ThF l x dl most) (hn : 0 <= need /\ need <= 5000) :
  Calls Try.prog 13 #[.agg (froC l v), .agg (iceC x), vd, .int .i64 need, .int .i64 most] w (ThOk l x dl need most w) := by
 refine (thicken_c lo hi v l x lo2 hi2 vd dl need most w hl h2 hl2 h22).mono ?_
 rintro e w' ⟨a, c, l1, l2, he', ⟨hb, _⟩, hs, hg⟩
 have hm := hF.m
 have e0 : thkE l x dl need most = 0 := by rw [thkE, if_neg (not_not_intro (show allE l x dl = 0 from thkS_allE hF (k := 0) (Nat.zero_le _))), if_neg (by omega)]
 have e1 : thkW l x dl need most = thkL l x dl most dl.length := by rw [thkW, if_pos e0]
 have e2 : thkD l x dl need most = readyS l x (thkS l x dl most dl.length) need := by rw [thkD, if_pos e0]
 rw [e1, thkL_len, e2, e0] at he'
 rw [e1, thkL_len] at hs
 refine ⟨a, c, l1, l2, _, he', ⟨hb, ?_, rfl⟩, hs, hg⟩
 rw [readyS, if_pos (readyE_ok (thkS_allE hF (Nat.le_refl _)) hn)]
 have h := fstP_bd (fun j => sureB l need (stI l x (thkS l x dl most dl.length) (j + 1))) (thkS l x dl most dl.length).length
 rw [thkS_len] at h ⊢
 exact h
theorem run_th (lo hi : Nat) (v : Value) (l : Fro) (x : Ice) (dl : List Wea) (most : Int) (lo2 hi2 : Nat) (vd : Value) (w : World) (hl : Sl covEnc 3 lo hi w v l.cov) (h2 : hi <= w.heap.size) (hl2 : Sl weaEnc 6 lo2 hi2 w vd (thkS l x dl most dl.length)) (h22 : hi2 <= w.heap.size) (hF : ThF l x dl most) :
  Calls Try.prog 14 #[.agg (froC l v), .agg (iceC x), vd] w (fun e w' => ∃ (a : Option Addr) (c lo hi : Nat), e = .returned (.tuple #[.slice a dl.length c, .int .i64 0]) /\ (w.heap.size <= lo /\ hi <= w'.heap.size) /\ Sl iceEnc 8 lo hi w' (.slice a dl.length c) (runN l x (thkS l x dl most dl.length) dl.length) /\ w.grownBy w' none) := by
 have h := run_ok lo hi v l x lo2 hi2 vd (thkS l x dl most dl.length) w hl h2 hl2 h22 (thkS_allE hF (Nat.le_refl _))
 rw [thkS_len] at h
 refine h.mono ?_
 rintro e w' ⟨a, c, l1, l2, he, ⟨h3, h4, _⟩, hs, hg⟩
 exact ⟨a, c, l1, l2, he, ⟨h3, h4⟩, hs, hg⟩
theorem fstP_at {p : Nat -> Bool} : ∀ n : Nat, 0 < fstP p n -> p ((fstP p n).toNat - 1) = true
 | 0, h => by rw [fstP] at h; omega
 | n + 1, h => by
  rw [fstP] at h ⊢
  by_cases h1 : fstP p n = 0
  ·
   rw [if_pos h1] at h ⊢
   by_cases h2 : p n = true
   · rw [if_pos h2, show ((n : Int) + 1).toNat - 1 = n by omega]; exact h2
   · rw [if_neg h2] at h; omega
  rw [if_neg h1] at h ⊢
  exact fstP_at n h
theorem ready_at {l : Fro} {x : Ice} {dl : List Wea} {need d : Int} {m : Nat} (h : readyS l x dl need = d) (hd : 0 < d) (hm : (d - 1).toNat = m) : sureB l need (stI l x dl (m + 1)) = true := by
 unfold readyS at h
 split at h
 ·
  have h1 := fstP_at (p := fun j => sureB l need (stI l x dl (j + 1))) dl.length (by omega)
  rw [h, show d.toNat - 1 = m by omega] at h1
  exact h1
 · omega
theorem sure_of {l : Fro} {y : Ice} {need : Int} (h : sureB l need y = true) : soundV y = 1 /\ need <= (brs l y).lo := by
 unfold sureB at h
 rw [Bool.and_eq_true, decide_eq_true_eq, decide_eq_true_eq] at h
 unfold soundV
 rw [if_pos h.1]
 exact ⟨rfl, h.2⟩
theorem brs_le {l : Fro} {y : Ice} (hL : LawOk l) (hy : iceErr y = 0) : (brs l y).lo <= (brs l y).hi := by
 have o1 := okI_of hy
 have k1 := iceK hy
 have hwl := hL.white
 have h1 := dn_mono (n := y.wh.lo) (n' := y.wh.hi) (p := l.white.lo) (p' := l.white.lo) (by have := k1.wh; omega) (by have := o1.1.2; omega) (by omega) (Int.le_refl _)
 have h2 : dn y.wh.hi l.white.lo <= upp y.wh.hi l.white.hi := by
  have h0 : 0 <= y.wh.hi := by have := k1.wh; omega
  unfold dn upp
  have h3 : y.wh.hi * l.white.lo <= y.wh.hi * l.white.hi := Int.mul_le_mul_of_nonneg_left (by omega) h0
  omega
 have := o1.1.1
 unfold brs
 simp only
 omega
theorem Own.opnT {α : Type} {enc : α -> List Value} {e : TypeId} {sz base n : Nat} {w : World} {v : Value} {l : List α} (h : Own enc e sz base w v l) (hn : l.length = n) (h0 : 0 < n) : ∃ g cap, v = .slice (some ⟨g, 0, none⟩) n cap := by
 subst hn
 exact Own.opn h h0
theorem rng_thick_walk (t : Nat -> Value) : ((List.range 191).map t).toArray = List.toArray [t 0, t 1, t 2, t 3, t 4, t 5, t 6, t 7, t 8, t 9, t 10, t 11, t 12, t 13, t 14, t 15, t 16, t 17, t 18, t 19, t 20, t 21, t 22, t 23, t 24, t 25, t 26, t 27, t 28, t 29, t 30, t 31, t 32, t 33, t 34, t 35, t 36, t 37, t 38, t 39, t 40, t 41, t 42, t 43, t 44, t 45, t 46, t 47, t 48, t 49, t 50, t 51, t 52, t 53, t 54, t 55, t 56, t 57, t 58, t 59, t 60, t 61, t 62, t 63, t 64, t 65, t 66, t 67, t 68, t 69, t 70, t 71, t 72, t 73, t 74, t 75, t 76, t 77, t 78, t 79, t 80, t 81, t 82, t 83, t 84, t 85, t 86, t 87, t 88, t 89, t 90, t 91, t 92, t 93, t 94, t 95, t 96, t 97, t 98, t 99, t 100, t 101, t 102, t 103, t 104, t 105, t 106, t 107, t 108, t 109, t 110, t 111, t 112, t 113, t 114, t 115, t 116, t 117, t 118, t 119, t 120, t 121, t 122, t 123, t 124, t 125, t 126, t 127, t 128, t 129, t 130, t 131, t 132, t 133, t 134, t 135, t 136, t 137, t 138, t 139, t 140, t 141, t 142, t 143, t 144, t 145, t 146, t 147, t 148, t 149, t 150, t 151, t 152, t 153, t 154, t 155, t 156, t 157, t 158, t 159, t 160, t 161, t 162, t 163, t 164, t 165, t 166, t 167, t 168, t 169, t 170, t 171, t 172, t 173, t 174, t 175, t 176, t 177, t 178, t 179, t 180, t 181, t 182, t 183, t 184, t 185, t 186, t 187, t 188, t 189, t 190] := rfl
set_option maxHeartbeats 64000000 in
theorem thick_walk (vn : Value) (zs : List Int) (w : World) (hn : Sl intEnc 1 0 w.heap.size w vn zs) :
  Calls Try.prog 3 #[vn] w (Ret (.bool true) w) := by
 have F1 : Bun w [] w := Bun.nil _
 obtain ⟨na, nc, rfl⟩ := hn.any
 have hm_nums := hn.len
 unfold maxLen at hm_nums
 replace F1 := F1.sl0 hn (Nat.le_refl _) rfl
 go_enter Try.func3, Try.ntmps3
 go_wp2_with fail
 refine (newSeed_c 0 w.heap.size _ zs _ (F1.s 0 rfl)).mono ?_
 rintro e w5 ⟨sb, rfl, hsb, hsbs, hg3⟩
 have hsbl := hsbs.lt
 have hg3s := hg3.size
 (try simp at hg3s)
 replace F1 := F1.add (rseed sb) hg3 (hsbs) (fun g e => by cases e; exact ⟨hsb, hsbs.lt⟩)
 clear hg3
 go_wp2_with fail
 refine (frostOf_c sb _ (F1.e 0 rfl)).mono ?_
 rintro e w9 ⟨l, vl, lo_l, hi_l, rfl, hxl, hyl, hzl, hfl, hs8, hg7⟩
 obtain ⟨sal, scl, rfl⟩ := hzl.any
 have HFl := lhd hfl
 clear hfl
 have hml := hzl.len
 unfold maxLen at hml
 have hg7s := hg7.size
 (try simp at hg7s)
 replace F1 := F1.seedAdd (rsl covEnc 3 lo_l hi_l (.slice sal l.cov.length scl) l.cov) hg7 hs8 (hzl) (fun g e => ⟨Nat.le_trans hxl e.1, Nat.lt_of_lt_of_le e.2 hyl⟩)
 clear hg7
 go_wp2_with fail
 refine (iceOf_c sb _ (F1.e 1 rfl)).mono ?_
 rintro e w13 ⟨ic, rfl, ⟨hic, hicm⟩, hs12, hg11⟩
 have hicb := iceB hic
 have hg11s := hg11.size
 (try simp at hg11s)
 replace F1 := F1.seedAt 1 rfl hg11 hs12
 clear hg11
 go_wp2_with fail
 refine (yes_c sb 2 _ (F1.e 1 rfl) (by omega) (by omega)).mono ?_
 rintro e w18 ⟨yb15, rfl, hs17, hg16⟩
 have hg16s := hg16.size
 (try simp at hg16s)
 replace F1 := F1.seedAt 1 rfl hg16 hs17
 clear hg16
 go_wp2_with fail
 refine (daysOf_s sb 6 yb15 _ ((F1.front 1 rfl rfl).at 0 rfl : SeedAt _ sb) (by omega)).mono ?_
 rintro e w22 ⟨dl, da_dl, dc_dl, ld_dl, hd_dl, rfl, ⟨hdxdl, hdydl, hdcdl⟩, hdzdl, hdndl, hdvdl, hs21, hg20⟩
 have HDdl := lhd hdvdl
 clear hdvdl
 have hg20s := hg20.size
 (try simp at hg20s)
 have F23 := (F1.front 1 rfl rfl).seedAdd (rsl weaEnc 6 ld_dl hd_dl (.slice da_dl dl.length dc_dl) dl) hg20 hs21 (hdzdl) (fun g e => ⟨Nat.le_trans hdxdl e.1, Nat.lt_of_lt_of_le e.2 hdydl⟩)
 clear F1
 clear hg20
 go_wp2_with fail
 replace F23 := F23.new 29 (froC l (.slice sal l.cov.length scl)) (n := w22.heap.size) (by simp)
 replace F23 := F23.new 32 (iceC ic) (n := (w22.heap.size + 1)) (by simp)
 refine (plateOf_c sb _ ((F23.front 3 rfl rfl).at 0 rfl : SeedAt _ sb)).mono ?_
 rintro e w28 ⟨p, as_, ac_, cs_, cc_, lop, hip, rfl, ⟨hpx, hpy⟩, hps, hpc, hpk, hs27, hg26⟩
 have HPK := lhd hpk
 clear hpk
 have hg26s := hg26.size
 (try simp at hg26s)
 have F29 := (F23.front 3 rfl rfl).seedAdd (rsl shaEnc 2 lop hip (.slice ac_ p.cr.length cc_) p.cr) hg26 hs27 (hpc) (fun g e => ⟨Nat.le_trans hpx e.1, Nat.lt_of_lt_of_le e.2 hpy⟩)
 clear F23
 clear hg26
 replace F29 := F29.more 0 (rsl shaEnc 2 lop hip (.slice as_ p.sh.length cs_) p.sh) rfl rfl rfl (fun _ h_ => h_) (Sl.gb hps (gb_refl _ none) (fun _ e => by cases e))
 have hm_sh := (F29.s 0 rfl).len
 unfold maxLen at hm_sh
 have hm_cr := (F29.s 1 rfl).len
 unfold maxLen at hm_cr
 go_wp2_with fail
 refine (below_c sb 20000 _ (F29.e 2 rfl) (by omega) (by omega)).mono ?_
 rintro e w35 ⟨r31, rfl, hr32, hs34, hg33⟩
 unfold belowR at hr32
 have hg33s := hg33.size
 (try simp at hg33s)
 replace F29 := F29.seedAt 2 rfl hg33 hs34
 clear hg33
 go_wp2_with fail
 replace F29 := F29.new 39 #[.int .i64 p.st.lo, .int .i64 p.st.hi, .slice as_ p.sh.length cs_, .slice ac_ p.cr.length cc_, .int .i64 p.near, .int .i64 p.edge, .int .i64 p.grav, .int .i64 p.low, .int .i64 p.high, .int .i64 p.shore, .int .i64 p.wider] (n := w35.heap.size) (by simp)
 refine (need_c lop hip lop hip _ _ p r31 0 _ HPK.out (tabC HPK.out.sh) (tabC HPK.out.cr) (F29.s 1 rfl) (by first | omega | (simp; omega)) (F29.s 2 rfl) (by first | omega | (simp; omega)) (by omega) (by omega)).mono ?_
 rintro e w40 ⟨nd, er, rfl, hner, hg38⟩
 have hg38s := hg38.size
 (try simp at hg38s)
 replace F29 := F29.gn hg38
 clear hg38
 rcases hner with rfl | ⟨rfl, hnb, hwb⟩
 ·
  go_wp2_with fail
  refine (tawake5_c _).mono ?_
  rintro e w44 ⟨rfl, hg42⟩
  have hg42s := hg42.size
  (try simp at hg42s)
  replace F29 := F29.gn hg42
  clear hg42
  go_wp2_with fail
  go_ret
  exact ⟨rfl, F29.gb⟩
 have HWB := lhd hwb
 clear hwb
 go_wp2_with fail
 replace F29 := F29.drew
 refine ru_begin (fun W => C8 W w22.heap.size (.int .i64 l.gr) (.int .i64 l.la) (.slice sal l.cov.length scl) (.int .i64 l.melt.lo) (.int .i64 l.melt.hi) (.int .i64 l.soak) (.int .i64 l.white.lo) (.int .i64 l.white.hi) /\ C8 W (w22.heap.size + 1) (.int .i64 ic.bl.lo) (.int .i64 ic.bl.hi) (.int .i64 ic.wh.lo) (.int .i64 ic.wh.hi) (.int .i64 ic.we.lo) (.int .i64 ic.we.hi) (.int .i64 ic.sn.lo) (.int .i64 ic.sn.hi)) 13 (by kernel_rfl) ?_ ?_
 · exact ⟨F29.c8 5, F29.c8 4⟩
 obtain ⟨wd52, hwd_⟩ : ∃ x : World, w40.drew = x := ⟨_, rfl⟩
 rw [hwd_] at F29 ⊢
 have wd52s : w40.heap.size <= wd52.heap.size := by rw [← hwd_]; exact Nat.le_refl _
 clear hwd_
 have hS51 := (And.intro (F29.c8 5) (F29.c8 4))
 refine ru_t 0 [] ?_
 refine ru_t 1 [] ?_
 refine ru_t 2 [] ?_
 refine ru_t 3 [] ?_
 refine ru_t 4 [] ?_
 (try simp only [lpX])
 clear hS51
 refine ru_o 5 fun K hK => ?_
 go_simp
 refine (below_c sb 60 _ (F29.e 3 rfl) (by omega) (by omega)).mono ?_
 rintro e w57 ⟨r53, rfl, hr54, hs56, hg55⟩
 unfold belowR at hr54
 have hg55s := hg55.size
 (try simp at hg55s)
 replace F29 := F29.seedAt 3 rfl hg55 hs56
 refine ru_back hK (by exact ⟨F29.c8 5, F29.c8 4⟩) (fun _ => ?_)
 clear hK K
 (try simp only [lpX])
 refine ru_o 6 fun K hK => ?_
 have HTF : Hid (ThF l ic dl r53) := lhd ⟨HFl.out, hic, fun d_ h_ => (HDdl.out d_ h_).1, by omega, by omega⟩
 go_simp
 refine (thick_ok _ _ _ l ic _ _ _ dl nd r53 _ (F29.s 7 rfl) (by first | omega | (simp; omega)) (F29.s 6 rfl) (by first | omega | (simp; omega)) HTF.out hnb).mono ?_
 rintro e w61 ⟨aW, cW, lW, hW, dd, rfl, ⟨⟨hWx, hWy⟩, hdd, hrd⟩, hWz, hg59⟩
 have HRD := lhd hrd
 clear hrd
 have hg59s := hg59.size
 (try simp at hg59s)
 replace F29 := F29.add (rsl intEnc 1 lW hW (.slice aW dl.length cW) (thkL l ic dl r53 dl.length)) hg59 (hWz) (fun g e => ⟨Nat.le_trans hWx e.1, Nat.lt_of_lt_of_le e.2 hWy⟩)
 refine ru_back hK (by exact ⟨F29.c8 6, F29.c8 5⟩) (fun _ => ?_)
 clear hK K
 (try simp only [lpX])
 refine ru_p 7 ?_
 (try simp only [lpX])
 refine ru_p 8 ?_
 refine ru_p 9 ?_
 refine ru_p 10 ?_
 (try simp only [lpX])
 refine ru_p 11 ?_
 (try simp only [lpX])
 refine ru_p 12 ?_
 (try simp only [lpX])
 refine ru_o 13 fun K hK => ?_
 go_simp
 refine ru_back_late hK (by kernel_rfl) ?_
 clear hK K
 (try simp only [lpX])
 refine ru_done (by kernel_rfl) ?_
 have Fn_ := F29
 (try dsimp only [lpF, lpG] at Fn_)
 obtain ⟨w63, hx64, F66, hxs65⟩ := Fn_.name
 (try simp at hxs65)
 rw [hx64]
 clear hx64 F29 Fn_
 have kn67 : ¬ (dd < 0) := (by omega)
 have kn67H := lhd kn67
 have kn67a : decide (dd < 0) = false := dec_f kn67
 have kn68 : ¬ ((dl.length : Int) < dd) := (by omega)
 have kn68H := lhd kn68
 have kn68a : decide ((dl.length : Int) < dd) = false := dec_f kn68
 go_wp2_with (at_builtin; refine wpList_copyB okWea rfl _ _ rfl w.heap.size w63.heap.size rfl (F66.new 49 #[] (n := w63.heap.size) (by simp)) (by first | omega | (simp; omega)) ld_dl hd_dl (.slice da_dl dl.length dc_dl) dl rfl ((F66.new 49 #[] (n := w63.heap.size) (by simp)).at 8 rfl) (by omega) ?_; intro vc69 w70 hB71 hs72; refine Hid.out ?_)
 refine lhd ?_
 (try simp at hs72)
 have F73 := hB71
 clear F66
 obtain ⟨ca74, cap75, e_⟩ := (Own.sl (F73.o 0 rfl) (fun _ => rfl)).any
 subst e_
 go_wp2_with fail
 have F76 : Bun w [rown weaEnc 49 6 w.heap.size (.slice ca74 dl.length cap75) (thkS l ic dl r53 0), rsl intEnc 1 lW hW (.slice aW dl.length cW) (thkL l ic dl r53 dl.length), rbox w35.heap.size 39 #[.int .i64 p.st.lo, .int .i64 p.st.hi, .slice as_ p.sh.length cs_, .slice ac_ p.cr.length cc_, .int .i64 p.near, .int .i64 p.edge, .int .i64 p.grav, .int .i64 p.low, .int .i64 p.high, .int .i64 p.shore, .int .i64 p.wider], rsl shaEnc 2 lop hip (.slice as_ p.sh.length cs_) p.sh, rsl shaEnc 2 lop hip (.slice ac_ p.cr.length cc_) p.cr, rseed sb, rbox (w22.heap.size + 1) 32 (iceC ic), rbox w22.heap.size 29 (froC l (.slice sal l.cov.length scl)), rsl weaEnc 6 ld_dl hd_dl (.slice da_dl dl.length dc_dl) dl, rsl covEnc 3 lo_l hi_l (.slice sal l.cov.length scl) l.cov, rsl intEnc 1 0 w.heap.size (.slice na zs.length nc) zs] _ := F73
 clear F73
 (skip)
 obtain ⟨HI77_, HI770⟩ : ∃ I : RelT, I = (fun t ds wr => ∃ (i : Nat), t 4 = .pointer (some ⟨w22.heap.size, 0, none⟩) /\ t 5 = .pointer (some ⟨w22.heap.size + 1, 0, none⟩) /\ t 7 = .pointer (some ⟨w35.heap.size, 0, none⟩) /\ t 8 = .int .i64 r31 /\ t 11 = .slice aW dl.length cW /\ t 12 = .int .i64 dd /\ t 14 = .slice ca74 dl.length cap75 /\ t 15 = .int .i64 (i : Int) /\ i <= dl.length /\ ds = [] /\ w70.heap.size <= wr.heap.size /\ Bun w [rown weaEnc 49 6 w.heap.size (.slice ca74 dl.length cap75) (thkS l ic dl r53 i), rsl intEnc 1 lW hW (.slice aW dl.length cW) (thkL l ic dl r53 dl.length), rbox w35.heap.size 39 #[.int .i64 p.st.lo, .int .i64 p.st.hi, .slice as_ p.sh.length cs_, .slice ac_ p.cr.length cc_, .int .i64 p.near, .int .i64 p.edge, .int .i64 p.grav, .int .i64 p.low, .int .i64 p.high, .int .i64 p.shore, .int .i64 p.wider], rsl shaEnc 2 lop hip (.slice as_ p.sh.length cs_) p.sh, rsl shaEnc 2 lop hip (.slice ac_ p.cr.length cc_) p.cr, rseed sb, rbox (w22.heap.size + 1) 32 (iceC ic), rbox w22.heap.size 29 (froC l (.slice sal l.cov.length scl)), rsl weaEnc 6 ld_dl hd_dl (.slice da_dl dl.length dc_dl) dl, rsl covEnc 3 lo_l hi_l (.slice sal l.cov.length scl) l.cov, rsl intEnc 1 0 w.heap.size (.slice na zs.length nc) zs] wr) := ⟨_, rfl⟩
 have HI77 := lhd HI770
 clear HI770
 refine wp_loopS 191 rfl HI77_ (fun t wr => dl.length - (intOf (t 15)).toNat) ?atStart1 ?round1
 case round1 =>
  intro t ds wr hHid
  rw [HI77.out] at hHid
  obtain ⟨i, e4, e5, e7, e8, e11, e12, e14, e15, hrel⟩ := hHid
  have e := rgB14191 t
  (try dsimp only at e)
  rw [e4, e5, e7, e8, e11, e12, e14, e15] at e
  rw [e]
  simp only [e15]
  clear e e4 e5 e7 e8 e11 e12 e14 e15
  obtain ⟨hi_, rfl, hs79, hF78⟩ := hrel
  clear F76
  obtain ⟨w80, rfl⟩ : ∃ x_ : World, x_ = wr := ⟨_, rfl⟩
  by_cases c81 : (i : Int) < (dl.length : Int)
  ·
   have c81H := lhd c81
   have htl_ := thkS_len l ic dl r53 i
   obtain ⟨gO, cO, e_⟩ := Own.opnT (hF78.o 0 rfl) (n := dl.length) (thkS_len l ic dl r53 i) (by omega)
   injection e_ with e1_ en_ e2_
   clear en_
   subst e1_ e2_
   have gOl := (hF78.ltAt 0 rfl _ rfl).1
   obtain ⟨x82, o83, e_⟩ := Sl.addr (hF78.s 1 rfl) (by rw [thkL_len]; omega)
   subst e_
   have hz84 : Hid ((thkL l ic dl r53 dl.length)[i]? = some (thkN l ic dl r53 i)) := lhd (thkL_get l ic dl r53 (by omega))
   obtain ⟨z, hz85_⟩ : ∃ z_, (thkS l ic dl r53 i)[i]? = some z_ := ⟨_, List.getElem?_eq_getElem (by omega)⟩
   have hz85 := lhd hz85_
   clear hz85_
   have ge86 : World.cell? _ ⟨x82, o83 + i, none⟩ = some (.int .i64 (thkN l ic dl r53 i)) := (by have h_ := Sl.cells (hF78.at 1 rfl) hz84.out 0 _ rfl; simpa using h_)
   have gl87 := cell_lt ge86
   have ge88 : World.cell? _ ⟨gO, i * 6 + 4, none⟩ = some (.int .i64 z.water) := (by simpa using (Own.sl (hF78.o 0 rfl) (fun _ => rfl)).cells hz85.out 4 _ rfl)
   have ge89 : World.frozen? _ ⟨gO, i * 6 + 4, none⟩ = false := Own.live (hF78.o 0 rfl) _
   go_wp2_with fail
   clear ge86 gl87 ge88 ge89
   have F90 := Bun.setOwn (sz := 6) (fun _ => rfl) hF78 hz85.out (y := (⟨z.cold, z.fall, thkN l ic dl r53 i, z.clear⟩ : Wea)) (j := 4) (u := (.int .i64 (thkN l ic dl r53 i))) (by decide) rfl rfl
   clear hF78
   have eW_ : (thkS l ic dl r53 i).set i (⟨z.cold, z.fall, thkN l ic dl r53 i, z.clear⟩ : Wea) = (thkS l ic dl r53 (i + 1)) := setW_at hz85.out _
   rw [eW_] at F90
   clear eW_
   (first | refine ⟨by kernel_rfl, ?_, ?_⟩ | refine ⟨rfl, ?_, ?_⟩ | refine ⟨?_, ?_⟩)
   · rw [HI77.out]; exact ⟨i + 1, by (iterate 7 refine ⟨by kernel_rfl, ?_⟩); exact ⟨(by show Value.int .i64 ((i : Int) + 1) = _; simp), (by omega), (by first | rfl | simp), (by first | omega | (simp; done) | (simp; omega)), F90⟩⟩
   · simp [slot, intOf]; omega
  have c81H := lhd c81
  have c81a := dec_f c81
  obtain rfl : i = dl.length := by omega
  have b91 := hF78.bx8 6 rfl
  have b92 := hF78.bx8 7 rfl
  go_wp2_with fail
  clear b91 b92
  refine (run_th _ _ _ l ic dl r53 _ _ _ _ (hF78.s 9 rfl) (by first | omega | (simp; omega)) (Own.sl (hF78.o 0 rfl) (fun _ => rfl)) (Nat.le_refl _) HTF.out).mono ?_
  rintro e w95 ⟨aR, cR, lR, hR, rfl, ⟨hRx, hRy⟩, hRz, hg93⟩
  have hg93s := hg93.size
  (try simp at hg93s)
  have F96 := hF78.add (rsl iceEnc 8 lR hR (.slice aR dl.length cR) (runN l ic (thkS l ic dl r53 dl.length) dl.length)) hg93 (hRz) (fun g e => ⟨Nat.le_trans hRx e.1, Nat.lt_of_lt_of_le e.2 hRy⟩)
  clear hF78
  clear hg93
  by_cases c97 : dd = 0
  ·
   obtain ⟨c97a, c97b⟩ := bqt c97
   have c97H := lhd c97
   clear c97
   go_wp2_with fail
   refine (tawake5_c _).mono ?_
   rintro e w100 ⟨rfl, hg98⟩
   have hg98s := hg98.size
   (try simp at hg98s)
   replace F96 := F96.gn hg98
   clear hg98
   go_wp2_with fail
   go_ret
   exact ⟨rfl, F96.gb⟩
  obtain ⟨c97a, c97b⟩ := bqf c97
  have c97H := lhd c97
  clear c97
  have hd1_ : 0 < dd := by have h_ := c97H.out; omega
  obtain ⟨m, hm_⟩ : ∃ m_, (dd - 1).toNat = m_ := ⟨_, rfl⟩
  have hk2 : (0 : Int) <= dd - 1 := by omega
  have hk6 : (1 : Int) <= dd := by omega
  have hk3 : dd - 1 < (dl.length : Int) := by omega
  have hk5 : IntKind.i64.wrap (dd - 1) = dd - 1 := IntWalk.i64_in _ (by omega)
  have hmn : m < dl.length := by omega
  obtain ⟨Y, hY_⟩ : ∃ y_, stI l ic (thkS l ic dl r53 dl.length) (m + 1) = y_ := ⟨_, rfl⟩
  have HSU := lhd (ready_at HRD.out hd1_ hm_)
  rw [hY_] at HSU
  have HYE := lhd hY_
  obtain ⟨x102, o103, e_⟩ := Sl.addr (F96.s 0 rfl) (by rw [runN_len]; omega)
  subst e_
  have hz104 : Hid ((runN l ic (thkS l ic dl r53 dl.length) dl.length)[m]? = some Y) := lhd (by rw [← hY_]; exact runN_get hmn)
  clear hY_
  have ge105 : World.cell? _ ⟨x102, o103 + m * 8, none⟩ = some (.int .i64 Y.bl.lo) := (Sl.cells (F96.at 0 rfl) hz104.out 0 _ rfl)
  have gl106 := cell_lt ge105
  have ge107 : World.cell? _ ⟨x102, o103 + m * 8 + 1, none⟩ = some (.int .i64 Y.bl.hi) := (Sl.cells (F96.at 0 rfl) hz104.out 1 _ rfl)
  have ge108 : World.cell? _ ⟨x102, o103 + m * 8 + 2, none⟩ = some (.int .i64 Y.wh.lo) := (Sl.cells (F96.at 0 rfl) hz104.out 2 _ rfl)
  have ge109 : World.cell? _ ⟨x102, o103 + m * 8 + 3, none⟩ = some (.int .i64 Y.wh.hi) := (Sl.cells (F96.at 0 rfl) hz104.out 3 _ rfl)
  have ge110 : World.cell? _ ⟨x102, o103 + m * 8 + 4, none⟩ = some (.int .i64 Y.we.lo) := (Sl.cells (F96.at 0 rfl) hz104.out 4 _ rfl)
  have ge111 : World.cell? _ ⟨x102, o103 + m * 8 + 5, none⟩ = some (.int .i64 Y.we.hi) := (Sl.cells (F96.at 0 rfl) hz104.out 5 _ rfl)
  have ge112 : World.cell? _ ⟨x102, o103 + m * 8 + 6, none⟩ = some (.int .i64 Y.sn.lo) := (Sl.cells (F96.at 0 rfl) hz104.out 6 _ rfl)
  have ge113 : World.cell? _ ⟨x102, o103 + m * 8 + 7, none⟩ = some (.int .i64 Y.sn.hi) := (Sl.cells (F96.at 0 rfl) hz104.out 7 _ rfl)
  go_wp2_with fail
  clear ge105 gl106 ge107 ge108 ge109 ge110 ge111 ge112 ge113
  refine (rcheckIce_c Y _).mono ?_
  rintro e w116 ⟨rfl, hg114⟩
  have hg114s := hg114.size
  (try simp at hg114s)
  replace F96 := F96.gn hg114
  clear hg114
  by_cases c118 : iceErr Y = 0
  ·
   obtain ⟨c118a, c118b⟩ := bqt c118
   have c118H := lhd c118
   clear c118
   have HY0 : Hid (iceErr Y = 0) := lhd (by exact c118H.out)
   have HYS := lhd (sure_of HSU.out)
   have HBL := lhd (brs_le (lawOk HFl.out) HY0.out)
   have hnl_ := HYS.out.2
   have hbl_ := HBL.out
   have kn119 : soundV Y = 1 := HYS.out.1
   have kn119H := lhd kn119
   obtain ⟨kn119a, kn119b⟩ := bqt kn119
   clear kn119
   go_wp2_with fail
   have hw120 : IntKind.i64.wrap (dd - 1) = dd - 1 := IntWalk.i64_in _ (by omega)
   replace F96 := F96.drew
   refine ru_begin (fun W => C8 W w22.heap.size (.int .i64 l.gr) (.int .i64 l.la) (.slice sal l.cov.length scl) (.int .i64 l.melt.lo) (.int .i64 l.melt.hi) (.int .i64 l.soak) (.int .i64 l.white.lo) (.int .i64 l.white.hi) /\ W.cell? ⟨x102, o103 + m * 8, none⟩ = some (.int .i64 Y.bl.lo) /\ W.cell? ⟨x102, o103 + m * 8 + 1, none⟩ = some (.int .i64 Y.bl.hi) /\ W.cell? ⟨x102, o103 + m * 8 + 2, none⟩ = some (.int .i64 Y.wh.lo) /\ W.cell? ⟨x102, o103 + m * 8 + 3, none⟩ = some (.int .i64 Y.wh.hi) /\ W.cell? ⟨x102, o103 + m * 8 + 4, none⟩ = some (.int .i64 Y.we.lo) /\ W.cell? ⟨x102, o103 + m * 8 + 5, none⟩ = some (.int .i64 Y.we.hi) /\ W.cell? ⟨x102, o103 + m * 8 + 6, none⟩ = some (.int .i64 Y.sn.lo) /\ W.cell? ⟨x102, o103 + m * 8 + 7, none⟩ = some (.int .i64 Y.sn.hi)) 12 (by kernel_rfl) ?_ ?_
   · exact ⟨F96.c8 8, (Sl.cells (F96.at 0 rfl) hz104.out 0 _ rfl), (Sl.cells (F96.at 0 rfl) hz104.out 1 _ rfl), (Sl.cells (F96.at 0 rfl) hz104.out 2 _ rfl), (Sl.cells (F96.at 0 rfl) hz104.out 3 _ rfl), (Sl.cells (F96.at 0 rfl) hz104.out 4 _ rfl), (Sl.cells (F96.at 0 rfl) hz104.out 5 _ rfl), (Sl.cells (F96.at 0 rfl) hz104.out 6 _ rfl), (Sl.cells (F96.at 0 rfl) hz104.out 7 _ rfl)⟩
   obtain ⟨wd123, hwd_⟩ : ∃ x : World, w116.drew = x := ⟨_, rfl⟩
   rw [hwd_] at F96 ⊢
   have wd123s : w116.heap.size <= wd123.heap.size := by rw [← hwd_]; exact Nat.le_refl _
   clear hwd_
   have hS122 := (And.intro (F96.c8 8) (And.intro ((Sl.cells (F96.at 0 rfl) hz104.out 0 _ rfl)) (And.intro ((Sl.cells (F96.at 0 rfl) hz104.out 1 _ rfl)) (And.intro ((Sl.cells (F96.at 0 rfl) hz104.out 2 _ rfl)) (And.intro ((Sl.cells (F96.at 0 rfl) hz104.out 3 _ rfl)) (And.intro ((Sl.cells (F96.at 0 rfl) hz104.out 4 _ rfl)) (And.intro ((Sl.cells (F96.at 0 rfl) hz104.out 5 _ rfl)) (And.intro ((Sl.cells (F96.at 0 rfl) hz104.out 6 _ rfl)) ((Sl.cells (F96.at 0 rfl) hz104.out 7 _ rfl))))))))))
   refine ru_t 0 [] ?_
   refine ru_t 1 [] ?_
   refine ru_t 2 [] ?_
   refine ru_t 3 [] ?_
   refine ru_t 4 [] ?_
   refine ru_t 5 [] ?_
   (try simp only [lpX])
   clear hS122
   have hSS := ru_hS F96 (S := fun W => C8 W w22.heap.size (.int .i64 l.gr) (.int .i64 l.la) (.slice sal l.cov.length scl) (.int .i64 l.melt.lo) (.int .i64 l.melt.hi) (.int .i64 l.soak) (.int .i64 l.white.lo) (.int .i64 l.white.hi) /\ W.cell? ⟨x102, o103 + m * 8, none⟩ = some (.int .i64 Y.bl.lo) /\ W.cell? ⟨x102, o103 + m * 8 + 1, none⟩ = some (.int .i64 Y.bl.hi) /\ W.cell? ⟨x102, o103 + m * 8 + 2, none⟩ = some (.int .i64 Y.wh.lo) /\ W.cell? ⟨x102, o103 + m * 8 + 3, none⟩ = some (.int .i64 Y.wh.hi) /\ W.cell? ⟨x102, o103 + m * 8 + 4, none⟩ = some (.int .i64 Y.we.lo) /\ W.cell? ⟨x102, o103 + m * 8 + 5, none⟩ = some (.int .i64 Y.we.hi) /\ W.cell? ⟨x102, o103 + m * 8 + 6, none⟩ = some (.int .i64 Y.sn.lo) /\ W.cell? ⟨x102, o103 + m * 8 + 7, none⟩ = some (.int .i64 Y.sn.hi)) (fun _ _ F_ => ⟨F_.c8 8, (Sl.cells (F_.at 0 rfl) hz104.out 0 _ rfl), (Sl.cells (F_.at 0 rfl) hz104.out 1 _ rfl), (Sl.cells (F_.at 0 rfl) hz104.out 2 _ rfl), (Sl.cells (F_.at 0 rfl) hz104.out 3 _ rfl), (Sl.cells (F_.at 0 rfl) hz104.out 4 _ rfl), (Sl.cells (F_.at 0 rfl) hz104.out 5 _ rfl), (Sl.cells (F_.at 0 rfl) hz104.out 6 _ rfl), (Sl.cells (F_.at 0 rfl) hz104.out 7 _ rfl)⟩)
   refine ru_mixS 191 [⟨11, 18, 27, fun t => #[.int .i64 0, .int .i64 0], ptrOf, fun t => True⟩] [] [6, 7, 8, 9, 10] 3 F96 (by kernel_rfl) (by kernel_rfl) (fun _ _ _ _ _ h => h) (U0 := (fun t => t 7 = .pointer (some ⟨w35.heap.size, 0, none⟩) /\ t 8 = .int .i64 r31 /\ t 128 = .agg (froC l (.slice sal l.cov.length scl)) /\ t 133 = .agg (iceC Y))) (Um := (fun t => t 7 = .pointer (some ⟨w35.heap.size, 0, none⟩) /\ t 8 = .int .i64 r31 /\ t 135 = .agg #[.int .i64 ((brs l Y).lo), .int .i64 ((brs l Y).hi)] /\ t 136 = .int .i64 (soundV Y) /\ t 137 = .int .i64 0)) ?chM124 ?alM124 ?mvM124 (lfm ⟨lfm ⟨fun _ _ => rfl, fun _ h => (by cases h)⟩, fun _ h => (by cases h)⟩) ⟨(by kernel_rfl), rfl, ⟨(by kernel_rfl), (by kernel_rfl), (by kernel_rfl), (by kernel_rfl)⟩⟩ ?restM124
   case chM124 =>
    refine ChainL.callS 6 (fun t => t 7 = .pointer (some ⟨w35.heap.size, 0, none⟩) /\ t 8 = .int .i64 r31 /\ t 134 = .tuple #[.agg #[.int .i64 ((brs l Y).lo), .int .i64 ((brs l Y).hi)], .int .i64 (soundV Y), .int .i64 0]) (lfm ⟨fun _ _ u => u, fun _ h => (by cases h)⟩) hSS (lfm ⟨fun _ t ⟨e7, e8, e128, e133⟩ => trivial, fun _ h => (by cases h)⟩) (by kernel_rfl) ?_ ?_
    ·
     rintro t w_ LA ⟨e7, e8, e128, e133⟩ ⟨F_, hwn_⟩
     have hws := F_.gb.size
     rw [rng_thick_walk t, e7, e8, e128, e133]
     clear e7 e8 e128 e133
     refine wpOp_stepH rfl (fun K hK => ?_)
     go_simp
     refine (bearing_ok _ _ _ l Y _ (F_.s 10 rfl) (by first | omega | (simp; omega)) (allE_of HFl.out HY0.out (fun _ h_ => by cases h_) (by simp))).mono ?_
     rintro e w125 ⟨rfl, hg126⟩
     exact hK.out _ _ ⟨(by kernel_rfl), rfl, ⟨(by kernel_rfl), (by kernel_rfl), (by kernel_rfl)⟩, lfm ⟨(by kernel_rfl), fun _ h => (by cases h)⟩, lfm ⟨fun _ => (by kernel_rfl), fun _ h => (by cases h)⟩, ⟨F_.gn hg126, Nat.le_trans hwn_ hg126.size⟩, hSS _ _ ⟨F_.gn hg126, Nat.le_trans hwn_ hg126.size⟩⟩
    refine ChainL.pureS 7 (fun t => t 7 = .pointer (some ⟨w35.heap.size, 0, none⟩) /\ t 8 = .int .i64 r31 /\ t 127 = .tuple #[.agg #[.int .i64 ((brs l Y).lo), .int .i64 ((brs l Y).hi)], .int .i64 (soundV Y), .int .i64 0]) rfl (lfm ⟨fun _ _ u => u, fun _ h => (by cases h)⟩) hSS (lfm ⟨fun _ t ⟨e7, e8, e134⟩ => trivial, fun _ h => (by cases h)⟩) (by kernel_rfl) ?_ ?_
    ·
     rintro t ⟨e7, e8, e134⟩
     rw [rng_thick_walk t, e7, e8, e134]
     clear e7 e8 e134
     refine ⟨.tuple #[.agg #[.int .i64 ((brs l Y).lo), .int .i64 ((brs l Y).hi)], .int .i64 (soundV Y), .int .i64 0], .inl ⟨by first | kernel_rfl | rfl, ?_⟩, ⟨(by kernel_rfl), rfl⟩, ⟨(by kernel_rfl), (by kernel_rfl), (by kernel_rfl)⟩, lfm ⟨(by kernel_rfl), fun _ h => (by cases h)⟩, lfm ⟨fun _ => (by kernel_rfl), fun _ h => (by cases h)⟩⟩
     intro wS _
     go_simp
     (try with_reducible rfl)
    refine ChainL.pureS 8 (fun t => t 7 = .pointer (some ⟨w35.heap.size, 0, none⟩) /\ t 8 = .int .i64 r31 /\ t 127 = .tuple #[.agg #[.int .i64 ((brs l Y).lo), .int .i64 ((brs l Y).hi)], .int .i64 (soundV Y), .int .i64 0] /\ t 135 = .agg #[.int .i64 ((brs l Y).lo), .int .i64 ((brs l Y).hi)]) rfl (lfm ⟨fun _ _ u => u, fun _ h => (by cases h)⟩) hSS (lfm ⟨fun _ t ⟨e7, e8, e127⟩ => trivial, fun _ h => (by cases h)⟩) (by kernel_rfl) ?_ ?_
    ·
     rintro t ⟨e7, e8, e127⟩
     rw [rng_thick_walk t, e7, e8, e127]
     clear e7 e8 e127
     refine ⟨.agg #[.int .i64 ((brs l Y).lo), .int .i64 ((brs l Y).hi)], .inl ⟨by first | kernel_rfl | rfl, ?_⟩, ⟨(by kernel_rfl), rfl⟩, ⟨(by kernel_rfl), (by kernel_rfl), (by kernel_rfl), (by kernel_rfl)⟩, lfm ⟨(by kernel_rfl), fun _ h => (by cases h)⟩, lfm ⟨fun _ => (by kernel_rfl), fun _ h => (by cases h)⟩⟩
     intro wS _
     go_simp
     (try with_reducible rfl)
    refine ChainL.pureS 9 (fun t => t 7 = .pointer (some ⟨w35.heap.size, 0, none⟩) /\ t 8 = .int .i64 r31 /\ t 127 = .tuple #[.agg #[.int .i64 ((brs l Y).lo), .int .i64 ((brs l Y).hi)], .int .i64 (soundV Y), .int .i64 0] /\ t 135 = .agg #[.int .i64 ((brs l Y).lo), .int .i64 ((brs l Y).hi)] /\ t 136 = .int .i64 (soundV Y)) rfl (lfm ⟨fun _ _ u => u, fun _ h => (by cases h)⟩) hSS (lfm ⟨fun _ t ⟨e7, e8, e127, e135⟩ => trivial, fun _ h => (by cases h)⟩) (by kernel_rfl) ?_ ?_
    ·
     rintro t ⟨e7, e8, e127, e135⟩
     rw [rng_thick_walk t, e7, e8, e127, e135]
     clear e7 e8 e127 e135
     refine ⟨.int .i64 (soundV Y), .inl ⟨by first | kernel_rfl | rfl, ?_⟩, ⟨(by kernel_rfl), rfl⟩, ⟨(by kernel_rfl), (by kernel_rfl), (by kernel_rfl), (by kernel_rfl), (by kernel_rfl)⟩, lfm ⟨(by kernel_rfl), fun _ h => (by cases h)⟩, lfm ⟨fun _ => (by kernel_rfl), fun _ h => (by cases h)⟩⟩
     intro wS _
     go_simp
     (try with_reducible rfl)
    refine ChainL.pureS 10 (fun t => t 7 = .pointer (some ⟨w35.heap.size, 0, none⟩) /\ t 8 = .int .i64 r31 /\ t 135 = .agg #[.int .i64 ((brs l Y).lo), .int .i64 ((brs l Y).hi)] /\ t 136 = .int .i64 (soundV Y) /\ t 137 = .int .i64 0) rfl (lfm ⟨fun _ _ u => u, fun _ h => (by cases h)⟩) hSS (lfm ⟨fun _ t ⟨e7, e8, e127, e135, e136⟩ => trivial, fun _ h => (by cases h)⟩) (by kernel_rfl) ?_ ?_
    ·
     rintro t ⟨e7, e8, e127, e135, e136⟩
     rw [rng_thick_walk t, e7, e8, e127, e135, e136]
     clear e7 e8 e127 e135 e136
     refine ⟨.int .i64 0, .inl ⟨by first | kernel_rfl | rfl, ?_⟩, ⟨(by kernel_rfl), rfl⟩, ⟨(by kernel_rfl), (by kernel_rfl), (by kernel_rfl), (by kernel_rfl), (by kernel_rfl)⟩, lfm ⟨(by kernel_rfl), fun _ h => (by cases h)⟩, lfm ⟨fun _ => (by kernel_rfl), fun _ h => (by cases h)⟩⟩
     intro wS _
     go_simp
     (try with_reducible rfl)
    exact ChainL.nil _ _ _ (lfm ⟨fun _ _ u => u, fun _ h => (by cases h)⟩) hSS (lfm ⟨fun _ t ⟨e7, e8, e135, e136, e137⟩ => trivial, fun _ h => (by cases h)⟩)
   case alM124 =>
    refine lfm ⟨fun t w K hv h => ?_, ?_⟩
    · exact wpOp_step rfl (fun K hK => by go_simp; exact hK _ _ h)
    exact fun _ h => (by cases h)
   case mvM124 => exact fun _ h => (by cases h)
   case restM124 =>
    rintro t w129 g ⟨e7, e8, e135, e136, e137⟩ hA hB ⟨F_, hwnM124⟩
    clear hSS
    clear F96
    have hA0_0 : t 18 = .pointer (some ⟨g 11, 0, none⟩) := hA _ (.head _)
    (try simp only [List.map_cons, List.map_nil, List.cons_append, List.nil_append] at F_)
    have F130 := F_
    clear hA hB F_
    obtain ⟨g128, hgx_⟩ : ∃ x_, g 11 = x_ := ⟨_, rfl⟩
    rw [hgx_] at hA0_0 F130; clear hgx_
    have hws := F130.gb.size
    have g128l := (F130.b 0 rfl).lt
    rw [rng_thick_walk t, e7, e8, e135, e136, e137, hA0_0]
    clear e7 e8 e135 e136 e137 hA0_0
    have hS_ : (fun W : World => W.cell? ⟨w22.heap.size, 0, none⟩ = some (.int .i64 l.gr) /\ W.cell? ⟨w22.heap.size, 1, none⟩ = some (.int .i64 l.la) /\ W.cell? ⟨w22.heap.size, 2, none⟩ = some (.slice sal l.cov.length scl) /\ W.cell? ⟨w22.heap.size, 3, none⟩ = some (.int .i64 l.melt.lo) /\ W.cell? ⟨w22.heap.size, 4, none⟩ = some (.int .i64 l.melt.hi) /\ W.cell? ⟨w22.heap.size, 5, none⟩ = some (.int .i64 l.soak) /\ W.cell? ⟨w22.heap.size, 6, none⟩ = some (.int .i64 l.white.lo) /\ W.cell? ⟨w22.heap.size, 7, none⟩ = some (.int .i64 l.white.hi) /\ W.cell? ⟨x102, o103 + m * 8, none⟩ = some (.int .i64 Y.bl.lo) /\ W.cell? ⟨x102, o103 + m * 8 + 1, none⟩ = some (.int .i64 Y.bl.hi) /\ W.cell? ⟨x102, o103 + m * 8 + 2, none⟩ = some (.int .i64 Y.wh.lo) /\ W.cell? ⟨x102, o103 + m * 8 + 3, none⟩ = some (.int .i64 Y.wh.hi) /\ W.cell? ⟨x102, o103 + m * 8 + 4, none⟩ = some (.int .i64 Y.we.lo) /\ W.cell? ⟨x102, o103 + m * 8 + 5, none⟩ = some (.int .i64 Y.we.hi) /\ W.cell? ⟨x102, o103 + m * 8 + 6, none⟩ = some (.int .i64 Y.sn.lo) /\ W.cell? ⟨x102, o103 + m * 8 + 7, none⟩ = some (.int .i64 Y.sn.hi)) _ := ⟨F130.q 9 0, F130.q 9 1, F130.q 9 2, F130.q 9 3, F130.q 9 4, F130.q 9 5, F130.q 9 6, F130.q 9 7, (Sl.cells (F130.at 1 rfl) hz104.out 0 _ rfl), (Sl.cells (F130.at 1 rfl) hz104.out 1 _ rfl), (Sl.cells (F130.at 1 rfl) hz104.out 2 _ rfl), (Sl.cells (F130.at 1 rfl) hz104.out 3 _ rfl), (Sl.cells (F130.at 1 rfl) hz104.out 4 _ rfl), (Sl.cells (F130.at 1 rfl) hz104.out 5 _ rfl), (Sl.cells (F130.at 1 rfl) hz104.out 6 _ rfl), (Sl.cells (F130.at 1 rfl) hz104.out 7 _ rfl)⟩
    refine ru_o 12 fun K hK => ?_
    have kb_ := F130.bx2 0 rfl
    go_simp
    clear kb_
    replace F130 := F130.pt2 (.int .i64 ((brs l Y).lo)) (.int .i64 ((brs l Y).hi))
    refine ru_back_late hK (by kernel_rfl) ?_
    clear hK K
    (try simp only [lpX])
    refine ru_o 13 fun K hK => ?_
    go_simp
    refine ru_back_late hK (by kernel_rfl) ?_
    clear hK K
    (try simp only [lpX])
    refine ru_o 14 fun K hK => ?_
    go_simp
    refine ru_back_late hK (by kernel_rfl) ?_
    clear hK K
    (try simp only [lpX])
    refine ru_done (by kernel_rfl) ?_
    (try clear hw120)
    have Fn_ := ((F130.drop 8 rfl).drop 8 rfl)
    (try dsimp only [lpF, lpG] at Fn_)
    obtain ⟨w132, hx133, F135, hxs134⟩ := Fn_.name
    (try simp at hxs134)
    rw [hx133]
    clear hx133 F130 Fn_
    by_cases c136 : 5000 < (brs l Y).hi
    ·
     have c136H := lhd c136
     have b137 := F135.bx2 0 rfl
     go_wp2_with fail
     clear b137
     refine (tawake5_c _).mono ?_
     rintro e w140 ⟨rfl, hg138⟩
     have hg138s := hg138.size
     (try simp at hg138s)
     replace F135 := F135.gn hg138
     clear hg138
     go_wp2_with fail
     go_ret
     exact ⟨rfl, F135.gb⟩
    have c136H := lhd c136
    have c136a := dec_f c136
    have hbb_ : (0 <= (brs l Y).lo /\ (brs l Y).lo <= 5000) /\ (brs l Y).hi <= 5000 := by omega
    have HAL : Hid (r31 <= alnV p (brs l Y).lo 0) := lhd (Int.le_trans HWB.out (aln_mono HPK.out (by omega) hnl_))
    have b142 := F135.bx2 0 rfl
    have b143 := F135.bx11 4 rfl
    go_wp2_with fail
    clear b142 b143
    refine (pbears_c lop hip lop hip _ _ p (brs l Y).lo 0 _ HPK.out (tabC HPK.out.sh) (tabC HPK.out.cr) (F135.s 5 rfl) (by first | omega | (simp; omega)) (F135.s 6 rfl) (by first | omega | (simp; omega)) (by omega) (by omega)).mono ?_
    rintro e w146 ⟨rfl, hg144⟩
    have hg144s := hg144.size
    (try simp at hg144s)
    replace F135 := F135.gn hg144
    clear hg144
    go_wp2_with fail
    refine wp_cutK 191 (fun t wr => ∃ (g26_158 : Nat) (g26_162 : Nat) (aV : Option Addr) (cV : Nat) (lV : Nat) (hV : Nat), t 8 = .int .i64 r31 /\ t 21 = .int .i64 (alnV p (brs l Y).lo 0) /\ t 22 = .int .i64 0 /\ t 23 = .slice aV 1 cV /\ t 24 = .int .i64 0 /\ w146.heap.size <= wr.heap.size /\ (hV <= wr.heap.size) /\ Bun w [rbox g26_158 27 #[.int .i64 ((brs l Y).lo), .int .i64 ((brs l Y).hi)], rbox g26_162 61 #[.int .i64 50, .int .i64 r31, .int .i64 r31, .int .i64 0], rbox g128 27 #[.int .i64 ((brs l Y).lo), .int .i64 ((brs l Y).hi)], rsl iceEnc 8 lR hR (.slice (some ⟨x102, o103, none⟩) dl.length cR) (runN l ic (thkS l ic dl r53 dl.length) dl.length), rown weaEnc 49 6 w.heap.size (.slice ca74 dl.length cap75) (thkS l ic dl r53 dl.length), rsl intEnc 1 lW hW (.slice aW dl.length cW) (thkL l ic dl r53 dl.length), rbox w35.heap.size 39 #[.int .i64 p.st.lo, .int .i64 p.st.hi, .slice as_ p.sh.length cs_, .slice ac_ p.cr.length cc_, .int .i64 p.near, .int .i64 p.edge, .int .i64 p.grav, .int .i64 p.low, .int .i64 p.high, .int .i64 p.shore, .int .i64 p.wider], rsl shaEnc 2 lop hip (.slice as_ p.sh.length cs_) p.sh, rsl shaEnc 2 lop hip (.slice ac_ p.cr.length cc_) p.cr, rseed sb, rsl weaEnc 6 ld_dl hd_dl (.slice da_dl dl.length dc_dl) dl, rsl covEnc 3 lo_l hi_l (.slice sal l.cov.length scl) l.cov, rsl intEnc 1 0 w.heap.size (.slice na zs.length nc) zs, rsl intEnc 1 lV hV (.slice aV 1 cV) ([(1 : Int)])] wr) ?first2 ?rest2
    case rest2 =>
     rintro t wr ⟨g26_158, g26_162, aV, cV, lV, hV, e8, e21, e22, e23, e24, hrel⟩
     have e := rgB14191 t
     (try dsimp only at e)
     rw [e8, e21, e22, e23, e24] at e
     rw [e]
     clear e e8 e21 e22 e23 e24
     obtain ⟨hs149, hVy, hF148⟩ := hrel
     clear F135
     obtain ⟨w150, rfl⟩ : ∃ x_ : World, x_ = wr := ⟨_, rfl⟩
     obtain ⟨x151, o152, e_⟩ := Sl.addr (hF148.s 13 rfl) (by simp)
     subst e_
     have hz153 : Hid (([(1 : Int)])[0]? = some (1 : Int)) := lhd (rfl)
     have kn154 : r31 <= alnV p (brs l Y).lo 0 := HAL.out
     have kn154H := lhd kn154
     have kn154a : decide (r31 <= alnV p (brs l Y).lo 0) = true := decide_eq_true kn154
     have ge155 : World.cell? _ ⟨x151, o152, none⟩ = some (.int .i64 1) := (by have h_ := Sl.cells (hF148.at 13 rfl) hz153.out 0 _ rfl; simpa [Nat.add_assoc] using h_)
     have gl156 := cell_lt ge155
     go_wp2_with fail
     clear ge155 gl156
     refine (tawake5_c _).mono ?_
     rintro e w159 ⟨rfl, hg157⟩
     have hg157s := hg157.size
     (try simp at hg157s)
     have F160 := hF148.gn hg157
     clear hF148
     clear hg157
     go_wp2_with fail
     go_ret
     exact ⟨rfl, F160.gb⟩
    case first2 =>
     replace F135 := F135.drew
     refine ru_begin (fun W => C8 W w35.heap.size (.int .i64 p.st.lo) (.int .i64 p.st.hi) (.slice as_ p.sh.length cs_) (.slice ac_ p.cr.length cc_) (.int .i64 p.near) (.int .i64 p.edge) (.int .i64 p.grav) (.int .i64 p.low) /\ W.cell? ⟨w35.heap.size, 8, none⟩ = some (.int .i64 p.high) /\ W.cell? ⟨w35.heap.size, 9, none⟩ = some (.int .i64 p.shore) /\ W.cell? ⟨w35.heap.size, 10, none⟩ = some (.int .i64 p.wider) /\ C2 W g128 (.int .i64 ((brs l Y).lo)) (.int .i64 ((brs l Y).hi))) 12 (by kernel_rfl) ?_ ?_
     · exact ⟨F135.c8 4, F135.q 4 8, F135.q 4 9, F135.q 4 10, F135.c2 0⟩
     obtain ⟨wd163, hwd_⟩ : ∃ x : World, w146.drew = x := ⟨_, rfl⟩
     rw [hwd_] at F135 ⊢
     have wd163s : w146.heap.size <= wd163.heap.size := by rw [← hwd_]; exact Nat.le_refl _
     clear hwd_
     have hS162 := (And.intro (F135.c8 4) (And.intro (F135.q 4 8) (And.intro (F135.q 4 9) (And.intro (F135.q 4 10) (F135.c2 0)))))
     refine ru_t 0 [] ?_
     refine ru_t 1 [] ?_
     refine ru_t 3 [] ?_
     (try simp only [lpX])
     clear hS162
     refine ru_two 2 4 rfl rfl (by kernel_rfl) ?_ ?_
     ·
      intro K hK
      go_simp
      replace F135 := F135.new 27 #[.int .i64 ((brs l Y).lo), .int .i64 ((brs l Y).hi)] (n := wd163.heap.size) (by simp)
      refine ru_back hK (by exact ⟨F135.c8 5, F135.q 5 8, F135.q 5 9, F135.q 5 10, F135.c2 1⟩) (fun _ => ?_)
      clear hK K
      (try simp only [lpX])
      refine ru_o 4 fun K hK => ?_
      go_simp
      refine (tone_c r31 _).mono ?_
      rintro e w167 ⟨rfl, hg165⟩
      have hg165s := hg165.size
      (try simp at hg165s)
      replace F135 := F135.gn hg165
      refine ru_back hK (by exact ⟨F135.c8 5, F135.q 5 8, F135.q 5 9, F135.q 5 10, F135.c2 1⟩) (fun _ => ?_)
      clear hK K
      (try simp only [lpX])
      refine ru_p 5 ?_
      (try simp only [lpX])
      refine ru_o 6 fun K hK => ?_
      go_simp
      replace F135 := F135.new 61 #[.int .i64 50, .int .i64 r31, .int .i64 r31, .int .i64 0] (n := w167.heap.size) (by simp)
      refine ru_back hK (by exact ⟨F135.c8 6, F135.q 6 8, F135.q 6 9, F135.q 6 10, F135.c2 2⟩) (fun _ => ?_)
      clear hK K
      (try simp only [lpX])
      refine ru_o 7 fun K hK => ?_
      go_simp
      refine (holds1_c lop hip lop hip _ _ p wd163.heap.size (wd163.heap.size + 1) _ (brs l Y) w167.heap.size (w167.heap.size + 1) _ r31 _ HPK.out (tabC HPK.out.sh) (tabC HPK.out.cr) (F135.s 7 rfl) (by first | omega | (simp; omega)) (F135.s 8 rfl) (by first | omega | (simp; omega)) (Bk.slT spEnc 2 [brs l Y] 1 1 (F135.b 1 rfl) (fun _ => rfl) rfl rfl (by decide)) (F135.b 1 rfl).lt (by omega) (Bk.slT lodEnc 4 [(⟨50, ⟨r31, r31⟩, 0⟩ : Lod)] 1 1 (F135.b 0 rfl) (fun _ => rfl) rfl rfl (by decide)) (F135.b 0 rfl).lt (by omega) HAL.out).mono ?_
      rintro e w172 ⟨aV, cV, lV, hV, rfl, ⟨hVx, hVy⟩, hVz, hg170⟩
      have hg170s := hg170.size
      (try simp at hg170s)
      replace F135 := F135.add (rsl intEnc 1 lV hV (.slice aV 1 cV) ([(1 : Int)])) hg170 (hVz) (fun g e => ⟨Nat.le_trans hVx e.1, Nat.lt_of_lt_of_le e.2 hVy⟩)
      refine ru_back hK (by exact ⟨F135.c8 7, F135.q 7 8, F135.q 7 9, F135.q 7 10, F135.c2 3⟩) (fun _ => ?_)
      clear hK K
      (try simp only [lpX])
      refine ru_p 8 ?_
      (try simp only [lpX])
      refine ru_p 9 ?_
      refine ru_p 10 ?_
      (try simp only [lpX])
      refine ru_p 11 ?_
      (try simp only [lpX])
      refine ru_o 12 fun K hK => ?_
      go_simp
      refine ru_back_late hK (by kernel_rfl) ?_
      clear hK K
      (try simp only [lpX])
      refine ru_done (by kernel_rfl) ?_
      exact ⟨(by kernel_rfl), rfl, wd163.heap.size, w167.heap.size, aV, cV, lV, hV, by (iterate 5 refine ⟨by kernel_rfl, ?_⟩); exact ⟨(by first | omega | (simp; done) | (simp; omega)), (by first | omega | (simp; omega)), (F135.pick [2, 1, 3, 4, 5, 6, 7, 8, 9, 10, 11, 12, 13, 0] (by decide) rfl)⟩⟩
     intro K hK
     go_simp
     refine (tone_c r31 _).mono ?_
     rintro e w176 ⟨rfl, hg174⟩
     have hg174s := hg174.size
     (try simp at hg174s)
     replace F135 := F135.gn hg174
     refine ru_back hK (by exact ⟨F135.c8 4, F135.q 4 8, F135.q 4 9, F135.q 4 10, F135.c2 0⟩) (fun _ => ?_)
     clear hK K
     (try simp only [lpX])
     refine ru_p 5 ?_
     (try simp only [lpX])
     refine ru_two 2 6 rfl rfl (by kernel_rfl) ?_ ?_
     ·
      intro K hK
      go_simp
      replace F135 := F135.new 27 #[.int .i64 ((brs l Y).lo), .int .i64 ((brs l Y).hi)] (n := w176.heap.size) (by simp)
      refine ru_back hK (by exact ⟨F135.c8 5, F135.q 5 8, F135.q 5 9, F135.q 5 10, F135.c2 1⟩) (fun _ => ?_)
      clear hK K
      (try simp only [lpX])
      refine ru_o 6 fun K hK => ?_
      go_simp
      replace F135 := F135.new 61 #[.int .i64 50, .int .i64 r31, .int .i64 r31, .int .i64 0] (n := (w176.heap.size + 1)) (by simp)
      refine ru_back hK (by exact ⟨F135.c8 6, F135.q 6 8, F135.q 6 9, F135.q 6 10, F135.c2 2⟩) (fun _ => ?_)
      clear hK K
      (try simp only [lpX])
      refine ru_o 7 fun K hK => ?_
      go_simp
      refine (holds1_c lop hip lop hip _ _ p w176.heap.size (w176.heap.size + 1) _ (brs l Y) (w176.heap.size + 1) ((w176.heap.size + 1) + 1) _ r31 _ HPK.out (tabC HPK.out.sh) (tabC HPK.out.cr) (F135.s 7 rfl) (by first | omega | (simp; omega)) (F135.s 8 rfl) (by first | omega | (simp; omega)) (Bk.slT spEnc 2 [brs l Y] 1 1 (F135.b 1 rfl) (fun _ => rfl) rfl rfl (by decide)) (F135.b 1 rfl).lt (by omega) (Bk.slT lodEnc 4 [(⟨50, ⟨r31, r31⟩, 0⟩ : Lod)] 1 1 (F135.b 0 rfl) (fun _ => rfl) rfl rfl (by decide)) (F135.b 0 rfl).lt (by omega) HAL.out).mono ?_
      rintro e w182 ⟨aV, cV, lV, hV, rfl, ⟨hVx, hVy⟩, hVz, hg180⟩
      have hg180s := hg180.size
      (try simp at hg180s)
      replace F135 := F135.add (rsl intEnc 1 lV hV (.slice aV 1 cV) ([(1 : Int)])) hg180 (hVz) (fun g e => ⟨Nat.le_trans hVx e.1, Nat.lt_of_lt_of_le e.2 hVy⟩)
      refine ru_back hK (by exact ⟨F135.c8 7, F135.q 7 8, F135.q 7 9, F135.q 7 10, F135.c2 3⟩) (fun _ => ?_)
      clear hK K
      (try simp only [lpX])
      refine ru_p 8 ?_
      (try simp only [lpX])
      refine ru_p 9 ?_
      refine ru_p 10 ?_
      (try simp only [lpX])
      refine ru_p 11 ?_
      (try simp only [lpX])
      refine ru_o 12 fun K hK => ?_
      go_simp
      refine ru_back_late hK (by kernel_rfl) ?_
      clear hK K
      (try simp only [lpX])
      refine ru_done (by kernel_rfl) ?_
      exact ⟨(by kernel_rfl), rfl, w176.heap.size, w176.heap.size + 1, aV, cV, lV, hV, by (iterate 5 refine ⟨by kernel_rfl, ?_⟩); exact ⟨(by first | omega | (simp; done) | (simp; omega)), (by first | omega | (simp; omega)), (F135.pick [2, 1, 3, 4, 5, 6, 7, 8, 9, 10, 11, 12, 13, 0] (by decide) rfl)⟩⟩
     intro K hK
     go_simp
     replace F135 := F135.new 61 #[.int .i64 50, .int .i64 r31, .int .i64 r31, .int .i64 0] (n := w176.heap.size) (by simp)
     refine ru_back hK (by exact ⟨F135.c8 5, F135.q 5 8, F135.q 5 9, F135.q 5 10, F135.c2 1⟩) (fun _ => ?_)
     clear hK K
     (try simp only [lpX])
     refine ru_o 2 fun K hK => ?_
     go_simp
     replace F135 := F135.new 27 #[.int .i64 ((brs l Y).lo), .int .i64 ((brs l Y).hi)] (n := (w176.heap.size + 1)) (by simp)
     refine ru_back hK (by exact ⟨F135.c8 6, F135.q 6 8, F135.q 6 9, F135.q 6 10, F135.c2 2⟩) (fun _ => ?_)
     clear hK K
     (try simp only [lpX])
     refine ru_o 7 fun K hK => ?_
     go_simp
     refine (holds1_c lop hip lop hip _ _ p (w176.heap.size + 1) ((w176.heap.size + 1) + 1) _ (brs l Y) w176.heap.size (w176.heap.size + 1) _ r31 _ HPK.out (tabC HPK.out.sh) (tabC HPK.out.cr) (F135.s 7 rfl) (by first | omega | (simp; omega)) (F135.s 8 rfl) (by first | omega | (simp; omega)) (Bk.slT spEnc 2 [brs l Y] 1 1 (F135.b 0 rfl) (fun _ => rfl) rfl rfl (by decide)) (F135.b 0 rfl).lt (by omega) (Bk.slT lodEnc 4 [(⟨50, ⟨r31, r31⟩, 0⟩ : Lod)] 1 1 (F135.b 1 rfl) (fun _ => rfl) rfl rfl (by decide)) (F135.b 1 rfl).lt (by omega) HAL.out).mono ?_
     rintro e w188 ⟨aV, cV, lV, hV, rfl, ⟨hVx, hVy⟩, hVz, hg186⟩
     have hg186s := hg186.size
     (try simp at hg186s)
     replace F135 := F135.add (rsl intEnc 1 lV hV (.slice aV 1 cV) ([(1 : Int)])) hg186 (hVz) (fun g e => ⟨Nat.le_trans hVx e.1, Nat.lt_of_lt_of_le e.2 hVy⟩)
     refine ru_back hK (by exact ⟨F135.c8 7, F135.q 7 8, F135.q 7 9, F135.q 7 10, F135.c2 3⟩) (fun _ => ?_)
     clear hK K
     (try simp only [lpX])
     refine ru_p 8 ?_
     (try simp only [lpX])
     refine ru_p 9 ?_
     refine ru_p 10 ?_
     (try simp only [lpX])
     refine ru_p 11 ?_
     (try simp only [lpX])
     refine ru_o 12 fun K hK => ?_
     go_simp
     refine ru_back_late hK (by kernel_rfl) ?_
     clear hK K
     (try simp only [lpX])
     refine ru_done (by kernel_rfl) ?_
     exact ⟨(by kernel_rfl), rfl, w176.heap.size + 1, w176.heap.size, aV, cV, lV, hV, by (iterate 5 refine ⟨by kernel_rfl, ?_⟩); exact ⟨(by first | omega | (simp; done) | (simp; omega)), (by first | omega | (simp; omega)), (F135.pick [1, 2, 3, 4, 5, 6, 7, 8, 9, 10, 11, 12, 13, 0] (by decide) rfl)⟩⟩
  obtain ⟨c118a, c118b⟩ := bqf c118
  have c118H := lhd c118
  clear c118
  go_wp2_with fail
  refine (tawake5_c _).mono ?_
  rintro e w192 ⟨rfl, hg190⟩
  have hg190s := hg190.size
  (try simp at hg190s)
  replace F96 := F96.gn hg190
  clear hg190
  go_wp2_with fail
  go_ret
  exact ⟨rfl, F96.gb⟩
 case atStart1 =>
  rw [HI77.out]
  exact ⟨0, by (iterate 7 refine ⟨by kernel_rfl, ?_⟩); exact ⟨rfl, Nat.zero_le _, rfl, (by first | exact Nat.le_refl _ | omega | (simp; done) | (simp; omega)), F76⟩⟩
end Go.Proofs.Ytdgplekokdeafaa
