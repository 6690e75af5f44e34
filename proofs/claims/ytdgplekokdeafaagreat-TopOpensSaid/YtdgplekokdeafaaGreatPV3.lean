/- the law: TopOpens walked. -/
import Derived.Test.YtdgplekokdeafaaGreatPV2
import Derived.Test.YtdgplekokdeafaaGreatPG8
import Derived.Test.YtdgplekokdeafaaGreatPT2
import Derived.Test.YtdgplekokdeafaaGreatPG4
import Derived.Test.YtdgplekokdeafaaGreatPKF2
import Derived.Test.YtdgplekokdeafaaGreatPG5
import Derived.Test.YtdgplekokdeafaaGreatPF33
set_option linter.unusedVariables false
set_option linter.unusedSimpArgs false
set_option linter.unnecessarySimpa false
namespace Go.Proofs.YtdgplekokdeafaaGreat
open Go.RowKit
set_option maxRecDepth 100000
attribute [local go_sem] Oper.semAt_some
theorem rgV3209 (t : Nat -> Value) : ((List.range 209).map t).toArray = #[t 0, t 1, t 2, t 3, t 4, t 5, t 6, t 7, t 8, t 9, t 10, t 11, t 12, t 13, t 14, t 15, t 16, t 17, t 18, t 19, t 20, t 21, t 22, t 23, t 24, t 25, t 26, t 27, t 28, t 29, t 30, t 31, t 32, t 33, t 34, t 35, t 36, t 37, t 38, t 39, t 40, t 41, t 42, t 43, t 44, t 45, t 46, t 47, t 48, t 49, t 50, t 51, t 52, t 53, t 54, t 55, t 56, t 57, t 58, t 59, t 60, t 61, t 62, t 63, t 64, t 65, t 66, t 67, t 68, t 69, t 70, t 71, t 72, t 73, t 74, t 75, t 76, t 77, t 78, t 79, t 80, t 81, t 82, t 83, t 84, t 85, t 86, t 87, t 88, t 89, t 90, t 91, t 92, t 93, t 94, t 95, t 96, t 97, t 98, t 99, t 100, t 101, t 102, t 103, t 104, t 105, t 106, t 107, t 108, t 109, t 110, t 111, t 112, t 113, t 114, t 115, t 116, t 117, t 118, t 119, t 120, t 121, t 122, t 123, t 124, t 125, t 126, t 127, t 128, t 129, t 130, t 131, t 132, t 133, t 134, t 135, t 136, t 137, t 138, t 139, t 140, t 141, t 142, t 143, t 144, t 145, t 146, t 147, t 148, t 149, t 150, t 151, t 152, t 153, t 154, t 155, t 156, t 157, t 158, t 159, t 160, t 161, t 162, t 163, t 164, t 165, t 166, t 167, t 168, t 169, t 170, t 171, t 172, t 173, t 174, t 175, t 176, t 177, t 178, t 179, t 180, t 181, t 182, t 183, t 184, t 185, t 186, t 187, t 188, t 189, t 190, t 191, t 192, t 193, t 194, t 195, t 196, t 197, t 198, t 199, t 200, t 201, t 202, t 203, t 204, t 205, t 206, t 207, t 208] := rfl
theorem stopAt {P : Program} {ops : Array Oper} {o : Oper} {rest : List Oper} {Q : Exit -> Act -> World -> Prop} {a : Act} {w : World} (d : Nat) (_ : o.dst = some d) (x : Hid (wpList P ops Q (o :: rest) a w)) : wpList P ops Q (o :: rest) a w := x.out
def hasB (a : Sp) (n : Int) : Bool := decide (a.lo <= n) && decide (n <= a.hi)
theorem hasB_t {a : Sp} {n : Int} (h1 : a.lo <= n) (h2 : n <= a.hi) : hasB a n = true := by unfold hasB; rw [decide_eq_true h1, decide_eq_true h2]; rfl
theorem has_c (a : Sp) (n : Int) (w : World)  :
  Calls Tryz.prog 18 #[.agg #[.int .i64 a.lo, .int .i64 a.hi], .int .i64 n] w (Ret (.bool (hasB a n)) w) := by
 have F1 : Bun w [] w := Bun.nil _
 go_enter Tryz.func18, Tryz.ntmps18
 by_cases c2 : a.lo <= n
 ·
  have c2H := lhd c2
  have Hx3 := lhd (show ((hasB a n : Bool)) = (decide (n <= a.hi)) by unfold hasB; simp [c2H.out])
  go_wp2_with fail
  replace F1 := F1.new 27 #[.int .i64 a.lo, .int .i64 a.hi] (n := w.heap.size) (by simp)
  go_ret
  exact ⟨by rw [Hx3.out] <;> rfl, F1.gb⟩
 have c2H := lhd c2
 have c2a := dec_f c2
 have Hx5 := lhd (show ((hasB a n : Bool)) = false by unfold hasB; simp [c2H.out])
 go_wp2_with fail
 replace F1 := F1.new 27 #[.int .i64 a.lo, .int .i64 a.hi] (n := w.heap.size) (by simp)
 go_ret
 exact ⟨by rw [Hx5.out] <;> rfl, F1.gb⟩
theorem has_yes {a : Sp} {n : Int} (h1 : a.lo <= n) (h2 : n <= a.hi) (w : World) : Calls Tryz.prog 18 #[.agg #[.int .i64 a.lo, .int .i64 a.hi], .int .i64 n] w (Ret (.bool true) w) := by
 have h := has_c a n w
 rw [hasB_t h1 h2] at h
 exact h
set_option maxHeartbeats 64000000 in
theorem opens_walk (vn : Value) (zs : List Int) (w : World) (hn : Sl intEnc 1 0 w.heap.size w vn zs) :
  Calls Tryz.prog 3 #[vn] w (Ret (.bool true) w) := by
 have F1 : Bun w [] w := Bun.nil _
 obtain ⟨na, nc, rfl⟩ := hn.any
 have hm_nums := hn.len
 unfold maxLen at hm_nums
 replace F1 := F1.sl0 hn (Nat.le_refl _) rfl
 go_enter Tryz.func3, Tryz.ntmps3
 go_wp2_with fail
 refine (newSeed_c 0 w.heap.size _ zs _ (F1.s 0 rfl)).mono ?_
 rintro e w5 ⟨sb, rfl, hsb, hsbs, hg3⟩
 have hsbl := hsbs.lt
 have hg3s := hg3.size
 (try simp at hg3s)
 replace F1 := F1.add (rseed sb) hg3 (hsbs) (fun g e => by cases e; exact ⟨hsb, hsbs.lt⟩)
 clear hg3
 go_wp2_with fail
 refine (frostOf_c sb _ (F1.e 0 rfl)).mono ?_
 rintro e w9 ⟨l, vl, lo_l, hi_l, rfl, hxl, hyl, hzl, hfl, hs8, hg7⟩
 obtain ⟨sal, scl, rfl⟩ := hzl.any
 have HFl := lhd hfl
 clear hfl
 have hml := hzl.len
 unfold maxLen at hml
 have hg7s := hg7.size
 (try simp at hg7s)
 replace F1 := F1.seedAdd (rsl covEnc 3 lo_l hi_l (.slice sal l.cov.length scl) l.cov) hg7 hs8 (hzl) (fun g e => ⟨Nat.le_trans hxl e.1, Nat.lt_of_lt_of_le e.2 hyl⟩)
 clear hg7
 go_wp2_with fail
 refine (iceOf_c sb _ (F1.e 1 rfl)).mono ?_
 rintro e w13 ⟨ic, rfl, ⟨hic, hicm⟩, hs12, hg11⟩
 have hicb := iceB hic
 have hg11s := hg11.size
 (try simp at hg11s)
 replace F1 := F1.seedAt 1 rfl hg11 hs12
 clear hg11
 go_wp2_with fail
 refine (daysOf_s sb 10 true _ ((F1.front 1 rfl rfl).at 0 rfl : SeedAt _ sb) (by omega)).mono ?_
 rintro e w17 ⟨dl, da_dl, dc_dl, ld_dl, hd_dl, rfl, ⟨hdxdl, hdydl, hdcdl⟩, hdzdl, hdndl, hdvdl, hs16, hg15⟩
 have HDdl := lhd hdvdl
 clear hdvdl
 have hg15s := hg15.size
 (try simp at hg15s)
 have F18 := (F1.front 1 rfl rfl).seedAdd (rsl weaEnc 6 ld_dl hd_dl (.slice da_dl dl.length dc_dl) dl) hg15 hs16 (hdzdl) (fun g e => ⟨Nat.le_trans hdxdl e.1, Nat.lt_of_lt_of_le e.2 hdydl⟩)
 clear F1
 clear hg15
 go_wp2_with fail
 replace F18 := F18.new 29 (froC l (.slice sal l.cov.length scl)) (n := w17.heap.size) (by simp)
 replace F18 := F18.new 32 (iceC ic) (n := (w17.heap.size + 1)) (by simp)
 have Fn_ := F18
 (try dsimp only [lpF, lpG] at Fn_)
 obtain ⟨w25, hx26, F28, hxs27⟩ := Fn_.name
 (try simp at hxs27)
 rw [hx26]
 clear hx26 F18 Fn_
 replace F28 := F28.drew
 refine ru_begin (fun W => W.cell? ⟨(w17.heap.size + 1), 0, none⟩ = some (.int .i64 ic.bl.lo)) 6 (by kernel_rfl) ?_ ?_
 · exact F28.q 0 0
 obtain ⟨wd31, hwd_⟩ : ∃ x : World, w25.drew = x := ⟨_, rfl⟩
 rw [hwd_] at F28 ⊢
 have wd31s : w25.heap.size <= wd31.heap.size := by rw [← hwd_]; exact Nat.le_refl _
 clear hwd_
 have hS30 := (F28.q 0 0)
 refine ru_t 0 [] ?_
 refine ru_t 1 [] ?_
 refine ru_t 2 [] ?_
 refine ru_t 3 [] ?_
 (try simp only [lpX])
 clear hS30
 refine ru_o 4 fun K hK => ?_
 go_simp
 refine (below_c sb 60 _ (F28.e 3 rfl) (by omega) (by omega)).mono ?_
 rintro e w36 ⟨r32, rfl, hr33, hs35, hg34⟩
 unfold belowR at hr33
 have hg34s := hg34.size
 (try simp at hg34s)
 replace F28 := F28.seedAt 3 rfl hg34 hs35
 refine ru_back hK (by exact F28.q 0 0) (fun _ => ?_)
 clear hK K
 (try simp only [lpX])
 have hw38 : IntKind.i64.wrap (ic.bl.lo + r32) = ic.bl.lo + r32 := IntWalk.i64_in _ (by omega)
 refine ru_p 5 ?_
 (try simp only [lpX])
 refine ru_o 6 fun K hK => ?_
 go_simp
 refine ru_back_late hK (by kernel_rfl) ?_
 clear hK K
 (try simp only [lpX])
 refine ru_done (by kernel_rfl) ?_
 (try clear hw38)
 have Fn_ := F28
 (try dsimp only [lpF, lpG] at Fn_)
 obtain ⟨w39, hx40, F42, hxs41⟩ := Fn_.name
 (try simp at hxs41)
 rw [hx40]
 clear hx40 F28 Fn_
 have b43 := F42.bx8 0 rfl
 have b44 := F42.bx8 1 rfl
 go_wp2_with fail
 clear b43 b44
 refine (ready_n _ _ _ l ic _ _ _ dl (ic.bl.lo + r32) _ (F42.s 4 rfl) (by first | omega | (simp; omega)) (F42.s 2 rfl) (by first | omega | (simp; omega)) HFl.out hic (fun d_ h_ => (HDdl.out d_ h_).1) (by omega) (by omega)).mono ?_
 rintro e w47 ⟨sN, pN, rfl, ⟨hsb_, hpb_, hsp_⟩, hrd_, hg45⟩
 have HRD := lhd hrd_
 clear hrd_
 have hg45s := hg45.size
 (try simp at hg45s)
 replace F42 := F42.gn hg45
 clear hg45
 go_wp2_with fail
 have Fn_ := F42
 (try dsimp only [lpF, lpG] at Fn_)
 obtain ⟨w49, hx50, F52, hxs51⟩ := Fn_.name
 (try simp at hxs51)
 rw [hx50]
 clear hx50 F42 Fn_
 have hsbJ := (F52.ltAt 3 rfl _ rfl).1
 refine (jobOf_p sb 5 _ (F52.e 3 rfl) (by omega)).mono ?_
 rintro e w53 ⟨v1, v2, lm, lt, rfl, ⟨hje_, hlm1, hlm2, hlt1, hsl_⟩, hB54⟩
 have hB54s := hB54.gb.size
 (try simp at hB54s)
 replace F52 := F52.joinS (L2 := [rown mchEnc 94 3 w49.heap.size v1 lm, rown tskEncS 54 8 w49.heap.size v2 lt, rafo w49.heap.size lt]) hB54 rfl 3 rfl
 clear hB54
 (try dsimp only [List.cons_append, List.nil_append] at F52)
 have HSL := lhd hsl_
 have HJE := lhd hje_
 clear hsl_ hje_
 obtain ⟨oa1, oc1, e_⟩ := (Own.sl (F52.o 0 rfl) (fun _ => rfl)).any
 subst e_
 have hm_mo := (Own.sl (F52.o 0 rfl) (fun _ => rfl)).len
 unfold maxLen at hm_mo
 obtain ⟨oa2, oc2, e_⟩ := (Own.sl (F52.o 1 rfl) (fun _ => rfl)).any
 subst e_
 have hm_to := (Own.sl (F52.o 1 rfl) (fun _ => rfl)).len
 unfold maxLen at hm_to
 (skip)
 replace F52 := F52.new 43 #[.slice oa1 lm.length oc1, .slice oa2 lt.length oc2] (n := w53.heap.size) (by simp)
 rcases hsp_ with hs0_ | ⟨hp1_, hp2_⟩
 ·
  have kn57 : ¬ (sN < 0) := (by omega)
  have kn57H := lhd kn57
  have kn57a : decide (sN < 0) = false := dec_f kn57
  have kn58 : ¬ ((dl.length : Int) < sN) := (by omega)
  have kn58H := lhd kn58
  have kn58a : decide ((dl.length : Int) < sN) = false := dec_f kn58
  have kn59 : ¬ ((dl.length : Int) < pN) := (by omega)
  have kn59H := lhd kn59
  have kn59a : decide ((dl.length : Int) < pN) = false := dec_f kn59
  have kn60 : ¬ (0 < sN) := (by omega)
  have kn60H := lhd kn60
  have kn60a : decide (0 < sN) = false := dec_f kn60
  have kn61 : sN = 0 := hs0_
  have kn61H := lhd kn61
  obtain ⟨kn61a, kn61b⟩ := bqt kn61
  clear kn61
  go_wp2_with fail
  refine (tawake5_c _).mono ?_
  rintro e w64 ⟨rfl, hg62⟩
  have hg62s := hg62.size
  (try simp at hg62s)
  replace F52 := F52.gn hg62
  clear hg62
  go_wp2_with fail
  go_ret
  exact ⟨rfl, F52.gb⟩
 have kn66 : ¬ (sN < 0) := (by omega)
 have kn66H := lhd kn66
 have kn66a : decide (sN < 0) = false := dec_f kn66
 have kn67 : ¬ ((dl.length : Int) < sN) := (by omega)
 have kn67H := lhd kn67
 have kn67a : decide ((dl.length : Int) < sN) = false := dec_f kn67
 have kn68 : ¬ ((dl.length : Int) < pN) := (by omega)
 have kn68H := lhd kn68
 have kn68a : decide ((dl.length : Int) < pN) = false := dec_f kn68
 have kn69 : 0 < sN := (by omega)
 have kn69H := lhd kn69
 have kn69a : decide (0 < sN) = true := decide_eq_true kn69
 have kn70 : ¬ (pN < 1) := (by omega)
 have kn70H := lhd kn70
 have kn70a : decide (pN < 1) = false := dec_f kn70
 have kn71 : ¬ (sN < pN) := (by omega)
 have kn71H := lhd kn71
 have kn71a : decide (sN < pN) = false := dec_f kn71
 have kn72 : ¬ (sN = 0) := (by omega)
 have kn72H := lhd kn72
 obtain ⟨kn72a, kn72b⟩ := bqf kn72
 clear kn72
 by_cases c73 : (lt.length : Int) = 0
 ·
  obtain ⟨c73a, c73b⟩ := bqt c73
  have c73H := lhd c73
  clear c73
  have b74 := F52.bx2 0 rfl
  go_wp2_with fail
  clear b74
  refine (tawake5_c _).mono ?_
  rintro e w77 ⟨rfl, hg75⟩
  have hg75s := hg75.size
  (try simp at hg75s)
  replace F52 := F52.gn hg75
  clear hg75
  go_wp2_with fail
  go_ret
  exact ⟨rfl, F52.gb⟩
 obtain ⟨c73a, c73b⟩ := bqf c73
 have c73H := lhd c73
 clear c73
 have hne_ : ¬ lt = [] := fun e_ => by have h_ := c73H.out; rw [e_] at h_; exact h_ rfl
 have hnl_ : ∀ (h : Decidable (lt = [])), @decide (lt = []) h = false := fun _ => decide_eq_false hne_
 have hnI_ : (lt = []) = False := eq_false hne_
 have hlt0 : 0 < lt.length := List.length_pos_iff.2 hne_
 clear hne_
 have HBE := lhd (bothErr_of HJE.out (fun d_ h_ => (HDdl.out d_ h_).1) (by omega))
 have b79 := F52.bx2 0 rfl
 have b80 := F52.bx8 4 rfl
 go_wp2_with fail
 clear b79 b80
 refine (trueIce_c sb ic _ (F52.e 7 rfl) hic).mono ?_
 rintro e w83 ⟨tt, rfl, htt, hs82, hg81⟩
 have httb := htt
 obtain ⟨⟨⟨htt1, htt2⟩, htt3, htt4⟩, ⟨htt5, htt6⟩, htt7, htt8⟩ := httb
 have hg81s := hg81.size
 (try simp at hg81s)
 replace F52 := F52.seedAt 7 rfl hg81 hs82
 clear hg81
 go_wp2_with fail
 replace F52 := F52.new 47 #[.int .i64 tt.bl, .int .i64 tt.wh, .int .i64 tt.we, .int .i64 tt.sn] (n := w83.heap.size) (by simp)
 have HL := lhd (lawOk HFl.out)
 have HFa := lhd (lawFalls HFl.out)
 have HIK := lhd (iceK hic)
 have HWD : Hid (∀ d ∈ dl, WeaOk d) := lhd (fun d_ h_ => weaOk (HDdl.out d_ h_).1)
 have HK := lhd (stI_K HL.out HIK.out HWD.out (by omega))
 (skip)
 obtain ⟨HI86_, HI860⟩ : ∃ I : RelT, I = (fun t ds wr => ∃ (k f : Nat) (yy : Tr), t 3 = .pointer (some ⟨sb, 0, none⟩) /\ t 4 = .pointer (some ⟨w17.heap.size, 0, none⟩) /\ t 6 = .slice da_dl dl.length dc_dl /\ t 7 = .int .i64 (ic.bl.lo + r32) /\ t 8 = .int .i64 sN /\ t 9 = .int .i64 pN /\ t 11 = .pointer (some ⟨w53.heap.size, 0, none⟩) /\ t 12 = .int .i64 (f : Int) /\ t 13 = .pointer (some ⟨w83.heap.size, 0, none⟩) /\ t 14 = .int .i64 (k : Int) /\ k <= dl.length /\ Hid (FstI l ic dl (ic.bl.lo + r32) k f) /\ inI yy (stI l ic dl k) /\ ds = [] /\ w83.heap.size <= wr.heap.size /\ Bun w [rbox w83.heap.size 47 #[.int .i64 yy.bl, .int .i64 yy.wh, .int .i64 yy.we, .int .i64 yy.sn], rbox w53.heap.size 43 #[.slice oa1 lm.length oc1, .slice oa2 lt.length oc2], rown mchEnc 94 3 w49.heap.size (.slice oa1 lm.length oc1) lm, rown tskEncS 54 8 w49.heap.size (.slice oa2 lt.length oc2) lt, rafo w49.heap.size lt, rbox w17.heap.size 29 (froC l (.slice sal l.cov.length scl)), rsl weaEnc 6 ld_dl hd_dl (.slice da_dl dl.length dc_dl) dl, rseed sb, rsl covEnc 3 lo_l hi_l (.slice sal l.cov.length scl) l.cov, rsl intEnc 1 0 w.heap.size (.slice na zs.length nc) zs] wr) := ⟨_, rfl⟩
 have HI86 := lhd HI860
 clear HI860
 refine wp_loopS 209 rfl HI86_ (fun t wr => dl.length - (intOf (t 14)).toNat) ?atStart1 ?round1
 case round1 =>
  intro t ds wr hHid
  rw [HI86.out] at hHid
  obtain ⟨k, f, yy, e3, e4, e6, e7, e8, e9, e11, e12, e13, e14, hrel⟩ := hHid
  have e := rgV3209 t
  (try dsimp only at e)
  rw [e3, e4, e6, e7, e8, e9, e11, e12, e13, e14] at e
  rw [e]
  simp only [e14]
  clear e e3 e4 e6 e7 e8 e9 e11 e12 e13 e14
  obtain ⟨hk, HFI, hin, rfl, hs88, hF87⟩ := hrel
  clear F52
  obtain ⟨w89, rfl⟩ : ∃ x_ : World, x_ = wr := ⟨_, rfl⟩
  have HIN := lhd hin
  have hfk := HFI.out.le
  clear hin
  by_cases c90 : (k : Int) < (dl.length : Int)
  ·
   have c90H := lhd c90
   obtain ⟨x91, o92, e_⟩ := Sl.addr (hF87.s 6 rfl) (by omega)
   subst e_
   obtain ⟨z, hz93_⟩ : ∃ z_, dl[k]? = some z_ := ⟨_, List.getElem?_eq_getElem (by omega)⟩
   have hz93 := lhd hz93_
   clear hz93_
   by_cases c94 : (f : Int) = 0
   ·
    obtain ⟨c94a, c94b⟩ := bqt c94
    have c94H := lhd c94
    clear c94
    have hf0 : f = 0 := by have h_ := c94H.out; omega
    have HFZ : Hid (FstI l ic dl (ic.bl.lo + r32) k 0) := lhd (by have h_ := HFI.out; rw [hf0] at h_; exact h_)
    clear hf0
    go_wp2_with fail
    have F95 := hF87.drew
    clear hF87
    refine ru_begin (fun W => C8 W w17.heap.size (.int .i64 l.gr) (.int .i64 l.la) (.slice sal l.cov.length scl) (.int .i64 l.melt.lo) (.int .i64 l.melt.hi) (.int .i64 l.soak) (.int .i64 l.white.lo) (.int .i64 l.white.hi) /\ C4 W w83.heap.size (.int .i64 yy.bl) (.int .i64 yy.wh) (.int .i64 yy.we) (.int .i64 yy.sn) /\ W.cell? ⟨x91, o92 + k * 6, none⟩ = some (.int .i64 z.cold.lo) /\ W.cell? ⟨x91, o92 + k * 6 + 1, none⟩ = some (.int .i64 z.cold.hi) /\ W.cell? ⟨x91, o92 + k * 6 + 2, none⟩ = some (.int .i64 z.fall.lo) /\ W.cell? ⟨x91, o92 + k * 6 + 3, none⟩ = some (.int .i64 z.fall.hi) /\ W.cell? ⟨x91, o92 + k * 6 + 4, none⟩ = some (.int .i64 z.water) /\ W.cell? ⟨x91, o92 + k * 6 + 5, none⟩ = some (.bool z.clear)) 8 (by kernel_rfl) ?_ ?_
    · exact ⟨F95.c8 5, F95.c4 0, (Sl.cells (F95.at 6 rfl) hz93.out 0 _ rfl), (Sl.cells (F95.at 6 rfl) hz93.out 1 _ rfl), (Sl.cells (F95.at 6 rfl) hz93.out 2 _ rfl), (Sl.cells (F95.at 6 rfl) hz93.out 3 _ rfl), (Sl.cells (F95.at 6 rfl) hz93.out 4 _ rfl), (Sl.cells (F95.at 6 rfl) hz93.out 5 _ rfl)⟩
    obtain ⟨wd97, hwd_⟩ : ∃ x : World, w89.drew = x := ⟨_, rfl⟩
    rw [hwd_] at F95 ⊢
    have wd97s : w89.heap.size <= wd97.heap.size := by rw [← hwd_]; exact Nat.le_refl _
    clear hwd_
    have hS96 := (And.intro (F95.c8 5) (And.intro (F95.c4 0) (And.intro ((Sl.cells (F95.at 6 rfl) hz93.out 0 _ rfl)) (And.intro ((Sl.cells (F95.at 6 rfl) hz93.out 1 _ rfl)) (And.intro ((Sl.cells (F95.at 6 rfl) hz93.out 2 _ rfl)) (And.intro ((Sl.cells (F95.at 6 rfl) hz93.out 3 _ rfl)) (And.intro ((Sl.cells (F95.at 6 rfl) hz93.out 4 _ rfl)) ((Sl.cells (F95.at 6 rfl) hz93.out 5 _ rfl)))))))))
    refine ru_t 0 [] ?_
    refine ru_t 1 [] ?_
    refine ru_t 2 [] ?_
    refine ru_t 3 [] ?_
    refine ru_t 4 [] ?_
    refine ru_t 5 [] ?_
    refine ru_t 6 [] ?_
    (try simp only [lpX])
    clear hS96
    refine ru_o 7 fun K hK => ?_
    go_simp
    refine (afterK_c sb _ _ _ l yy (k : Int) z _ (F95.e 7 rfl) (F95.s 8 rfl) (by first | omega | (simp; omega)) (F95.neAt 7 8 rfl rfl (by decide) (.inl rfl) _ rfl) HL.out HFa.out (inI_K HIN.out (HK.out k (by omega))) (by omega) (HWD.out _ (List.mem_of_getElem? hz93.out))).mono ?_
    rintro e w100 ⟨uu, rfl, huu, hs99, hg98⟩
    have HIU : Hid (inI uu (stI l ic dl (k + 1))) := lhd (by rw [stI_succ hz93.out]; exact huu _ _ (HK.out k (by omega)) HIN.out)
    have huw : 0 <= uu.we := (inI_K HIU.out (HK.out (k + 1) (by omega))).we
    clear huu
    have hg98s := hg98.size
    (try simp at hg98s)
    replace F95 := F95.seedAt 7 rfl hg98 hs99
    refine ru_back hK (by exact ⟨F95.c8 5, F95.c4 0, (Sl.cells (F95.at 6 rfl) hz93.out 0 _ rfl), (Sl.cells (F95.at 6 rfl) hz93.out 1 _ rfl), (Sl.cells (F95.at 6 rfl) hz93.out 2 _ rfl), (Sl.cells (F95.at 6 rfl) hz93.out 3 _ rfl), (Sl.cells (F95.at 6 rfl) hz93.out 4 _ rfl), (Sl.cells (F95.at 6 rfl) hz93.out 5 _ rfl)⟩) (fun _ => ?_)
    clear hK K
    (try simp only [lpX])
    refine ru_o 8 fun K hK => ?_
    have kb_ := F95.bx4 0 rfl
    go_simp
    clear kb_
    replace F95 := F95.pt4 (.int .i64 uu.bl) (.int .i64 uu.wh) (.int .i64 uu.we) (.int .i64 uu.sn)
    refine ru_back_late hK (by kernel_rfl) ?_
    clear hK K
    (try simp only [lpX])
    refine ru_done (by kernel_rfl) ?_
    have Fn_ := F95
    (try dsimp only [lpF, lpG] at Fn_)
    obtain ⟨w103, hx104, F106, hxs105⟩ := Fn_.name
    (try simp at hxs105)
    rw [hx104]
    clear hx104 F95 Fn_
    by_cases c107 : uu.we = 0
    ·
     obtain ⟨c107a, c107b⟩ := bqt c107
     have c107H := lhd c107
     clear c107
     have b108 := F106.bx4 0 rfl
     have b109 := F106.bx8 5 rfl
     go_wp2_with fail
     clear b108 b109
     refine (thick_tc sb _ l uu _ _ _ (F106.e 7 rfl) HL.out (inI_K HIU.out (HK.out (k + 1) (by omega))) (by omega)).mono ?_
     rintro e w112 ⟨th, rfl, hth_, hs111, hg110⟩
     have hg110s := hg110.size
     (try simp at hg110s)
     replace F106 := F106.seedAt 7 rfl hg110 hs111
     clear hg110
     by_cases c114 : ic.bl.lo + r32 <= th
     ·
      have c114H := lhd c114
      go_wp2_with fail
      (first | refine ⟨by kernel_rfl, ?_, ?_⟩ | refine ⟨rfl, ?_, ?_⟩ | refine ⟨?_, ?_⟩)
      · rw [HI86.out]; exact ⟨k + 1, k + 1, uu, by (iterate 7 refine ⟨by kernel_rfl, ?_⟩); exact ⟨(by show Value.int .i64 ((k : Int) + 1) = _; simp), (by kernel_rfl), (by show Value.int .i64 ((k : Int) + 1) = _; simp), (by omega), lhd (HFZ.out.hit (perh_of HL.out (HK.out (k + 1) (by omega)) HIU.out c107H.out hth_.2 c114H.out)), HIU.out, (by first | rfl | simp), (by first | omega | (simp; done) | (simp; omega)), F106⟩⟩
      · simp [slot, intOf]; omega
     have c114H := lhd c114
     have c114a := dec_f c114
     go_wp2_with fail
     (first | refine ⟨by kernel_rfl, ?_, ?_⟩ | refine ⟨rfl, ?_, ?_⟩ | refine ⟨?_, ?_⟩)
     · rw [HI86.out]; exact ⟨k + 1, f, uu, by (iterate 7 refine ⟨by kernel_rfl, ?_⟩); exact ⟨rfl, (by kernel_rfl), (by show Value.int .i64 ((k : Int) + 1) = _; simp), (by omega), lhd ((by rw [show f = 0 from (by have h_ := c94H.out; omega)]; exact HFZ.out.stay (sure_no HL.out (HK.out (k + 1) (by omega)) HIU.out huw hth_.1 (fun h_ => by have h2_ := c114H.out; have h3_ := h_.2; omega)))), HIU.out, (by first | rfl | simp), (by first | omega | (simp; done) | (simp; omega)), F106⟩⟩
     · simp [slot, intOf]; omega
    obtain ⟨c107a, c107b⟩ := bqf c107
    have c107H := lhd c107
    clear c107
    have b115 := F106.bx4 0 rfl
    go_wp2_with fail
    clear b115
    (first | refine ⟨by kernel_rfl, ?_, ?_⟩ | refine ⟨rfl, ?_, ?_⟩ | refine ⟨?_, ?_⟩)
    · rw [HI86.out]; exact ⟨k + 1, f, uu, by (iterate 7 refine ⟨by kernel_rfl, ?_⟩); exact ⟨rfl, (by kernel_rfl), (by show Value.int .i64 ((k : Int) + 1) = _; simp), (by omega), lhd ((by rw [show f = 0 from (by have h_ := c94H.out; omega)]; exact HFZ.out.stay (sure_no (th := uu.bl + dn uu.wh l.white.lo) HL.out (HK.out (k + 1) (by omega)) HIU.out huw (Int.le_refl _) (fun h_ => c107H.out h_.1)))), HIU.out, (by first | rfl | simp), (by first | omega | (simp; done) | (simp; omega)), F106⟩⟩
    · simp [slot, intOf]; omega
   obtain ⟨c94a, c94b⟩ := bqf c94
   have c94H := lhd c94
   clear c94
   have hfin := HFI.out.fin (by omega) (.inl (by have h_ := c94H.out; omega)) HRD.out.2 HRD.out.1 (by omega)
   have kn116 : ¬ ((f : Int) < pN) := (by omega)
   have kn116H := lhd kn116
   have kn116a : decide ((f : Int) < pN) = false := dec_f kn116
   have kn117 : ¬ (sN < (f : Int)) := (by omega)
   have kn117H := lhd kn117
   have kn117a : decide (sN < (f : Int)) = false := dec_f kn117
   obtain ⟨gT, cT, e_⟩ := Own.opn (hF87.o 3 rfl) (by omega)
   injection e_ with e1_ _ e2_
   subst e1_ e2_
   have gTl := (hF87.ltAt 3 rfl _ rfl).1
   obtain ⟨z0, hz118_⟩ : ∃ z_, lt[0]? = some z_ := ⟨_, List.getElem?_eq_getElem (by omega)⟩
   have hz118 := lhd hz118_
   clear hz118_
   have b119 := hF87.bx2 1 rfl
   have ge120 : World.cell? _ ⟨gT, 5, none⟩ = some (.int .i64 z0.fr.lo) := (by simpa using (Own.sl (hF87.o 3 rfl) (fun _ => rfl)).cells hz118.out 5 _ rfl)
   have gl121 := cell_lt ge120
   have ge122 : World.frozen? _ ⟨gT, 5, none⟩ = false := Own.live (hF87.o 3 rfl) _
   have ge123 : World.cell? _ ⟨gT, 6, none⟩ = some (.int .i64 z0.fr.hi) := (by simpa using (Own.sl (hF87.o 3 rfl) (fun _ => rfl)).cells hz118.out 6 _ rfl)
   have ge124 : World.frozen? _ ⟨gT, 6, none⟩ = false := Own.live (hF87.o 3 rfl) _
   have hne125 : ¬ gT = w53.heap.size := hF87.neAt 3 1 rfl rfl (by decide) (.inl rfl) gT rfl
   have hne125s : ¬ w53.heap.size = gT := fun e => hne125 e.symm
   have hne126 : ¬ gT = w53.heap.size := hF87.neAt 3 1 rfl rfl (by decide) (.inl rfl) gT rfl
   have hne126s : ¬ w53.heap.size = gT := fun e => hne126 e.symm
   go_wp2_with fail
   clear b119 ge120 gl121 ge122 ge123 ge124 hne125 hne125s hne126 hne126s
   have F127 := Bun.setOwn (sz := 8) (fun _ => rfl) (hF87.front 3 rfl rfl) hz118.out (y := (frtT z0 ⟨24 * pN, z0.fr.hi⟩)) (j := 5) (u := (.int .i64 (24 * pN))) (by decide) rfl rfl
   clear hF87
   have hz128 : Hid ((lt.set 0 (frtT z0 ⟨24 * pN, z0.fr.hi⟩))[0]? = some (frtT z0 ⟨24 * pN, z0.fr.hi⟩)) := lhd (set_at (by omega))
   have F129 := Bun.setOwn (sz := 8) (fun _ => rfl) F127 hz128.out (y := (frtT z0 ⟨24 * pN, 24 * sN⟩)) (j := 6) (u := (.int .i64 (24 * sN))) (by decide) rfl rfl
   clear F127
   rw [List.set_set] at F129
   have hz130 : Hid ((lt.set 0 (frtT z0 ⟨24 * pN, 24 * sN⟩))[0]? = some (frtT z0 ⟨24 * pN, 24 * sN⟩)) := lhd (set_at (by omega))
   obtain ⟨ts, hts_⟩ : ∃ ts_, ts_ = lt.set 0 (frtT z0 ⟨24 * pN, 24 * sN⟩) := ⟨_, rfl⟩
   rw [← hts_] at F129
   have HTS := lhd hts_
   have htl_ : ts.length = lt.length := by rw [hts_]; exact List.length_set
   have HBE2 : Hid (bothErr lm ts dl = 0) := lhd (by rw [hts_]; exact fr_err HBE.out hz118.out (by simp only; omega))
   have HOK2 := lhd (bothOk HBE2.out)
   have hts2 : ts.length <= lt.length /\ lt.length <= ts.length := by omega
   have HTL := lhd htl_
   clear hts_ htl_
   have b131 := F129.bx2 2 rfl
   go_wp2_with fail
   clear b131
   refine (btimes_ok _ _ _ _ lm ts _ _ _ dl _ (jobAt_fr (F129.o 3 rfl) (F129.o 0 rfl) HTS.out (F129.at 4 rfl : ∀ t ∈ lt, Own intEnc 3 1 w49.heap.size _ t.av t.af) HSL.out hz118.out) (Nat.le_refl _) (F129.s 6 rfl) (by first | omega | (simp; omega)) HBE2.out _ _ rfl rfl).mono ?_
   rintro e w134 ⟨at_t1, ct_t1, lt_t1, ht_t1, rfl, ⟨htx_t1, hty_t1⟩, htz_t1, hg132⟩
   have hg132s := hg132.size
   (try simp at hg132s)
   replace F129 := F129.add (rsl timEnc 4 lt_t1 ht_t1 (.slice at_t1 ts.length ct_t1) (timN (caseOf false lm ts dl) (caseOf true lm ts dl) ts.length ts.length)) hg132 (htz_t1) (fun g e => ⟨Nat.le_trans htx_t1 e.1, Nat.lt_of_lt_of_le e.2 hty_t1⟩)
   clear hg132
   have b136 := F129.bx2 3 rfl
   go_wp2_with fail
   clear b136
   replace F129 := F129.new 27 #[.int .i64 ((caseOf false lm ts dl).opn ts.length), .int .i64 ((caseOf true lm ts dl).opn ts.length)] (n := w134.heap.size) (by simp)
   have F138 : Bun w [rseed sb, rsl weaEnc 6 ld_dl hd_dl (.slice (some ⟨x91, o92, none⟩) dl.length dc_dl) dl, rown mchEnc 94 3 w49.heap.size (.slice oa1 lm.length oc1) lm, rown tskEncS 54 8 w49.heap.size (.slice (some ⟨gT, 0, none⟩) lt.length oc2) ts, rafo w49.heap.size lt, rbox w134.heap.size 27 #[.int .i64 ((caseOf false lm ts dl).opn ts.length), .int .i64 ((caseOf true lm ts dl).opn ts.length)], rsl timEnc 4 lt_t1 ht_t1 (.slice at_t1 ts.length ct_t1) (timN (caseOf false lm ts dl) (caseOf true lm ts dl) ts.length ts.length), rbox w83.heap.size 47 #[.int .i64 yy.bl, .int .i64 yy.wh, .int .i64 yy.we, .int .i64 yy.sn], rbox w53.heap.size 43 #[.slice oa1 lm.length oc1, .slice (some ⟨gT, 0, none⟩) lt.length oc2], rbox w17.heap.size 29 (froC l (.slice sal l.cov.length scl)), rsl covEnc 3 lo_l hi_l (.slice sal l.cov.length scl) l.cov, rsl intEnc 1 0 w.heap.size (.slice na zs.length nc) zs] _ := F129.pick [9, 8, 5, 2, 6, 0, 1, 3, 4, 7, 10, 11] (by decide) rfl
   clear F129
   refine (kcaseQ_c w sb _ _ _ lm lt ts dl _ _ _ lt.length _ _ _ [rbox w134.heap.size 27 #[.int .i64 ((caseOf false lm ts dl).opn ts.length), .int .i64 ((caseOf true lm ts dl).opn ts.length)], rsl timEnc 4 lt_t1 ht_t1 (.slice at_t1 ts.length ct_t1) (timN (caseOf false lm ts dl) (caseOf true lm ts dl) ts.length ts.length), rbox w83.heap.size 47 #[.int .i64 yy.bl, .int .i64 yy.wh, .int .i64 yy.we, .int .i64 yy.sn], rbox w53.heap.size 43 #[.slice oa1 lm.length oc1, .slice (some ⟨gT, 0, none⟩) lt.length oc2], rbox w17.heap.size 29 (froC l (.slice sal l.cov.length scl)), rsl covEnc 3 lo_l hi_l (.slice sal l.cov.length scl) l.cov, rsl intEnc 1 0 w.heap.size (.slice na zs.length nc) zs] _ F138 (by omega) (jobAt_fr (F138.o 2 rfl) (F138.o 3 rfl) HTS.out (F138.at 4 rfl : ∀ t ∈ lt, Own intEnc 3 1 w49.heap.size _ t.av t.af) HSL.out hz118.out) (by first | omega | (simp; omega)) HTL.out HBE2.out).mono ?_
   rintro e w139 ⟨v1K, v2K, v3K, v4K, lhK, lwK, lfK, rowsK, cK, rfl, hkc_, Fr_⟩
   have HKC := lhd hkc_
   clear hkc_
   have F140 : Bun w [rown intEnc 3 1 w.heap.size v1K lhK, rown intEnc 3 1 w.heap.size v2K lwK, rown intEnc 3 1 w.heap.size v3K lfK, rown vEncS 118 1 w.heap.size v4K (rowsK.map (fun (x_ : Value × List Bool) => x_.1)), rrws w.heap.size rowsK, rseed sb, rsl weaEnc 6 ld_dl hd_dl (.slice (some ⟨x91, o92, none⟩) dl.length dc_dl) dl, rown mchEnc 94 3 w49.heap.size (.slice oa1 lm.length oc1) lm, rown tskEncS 54 8 w49.heap.size (.slice (some ⟨gT, 0, none⟩) lt.length oc2) ts, rafo w49.heap.size lt, rbox w134.heap.size 27 #[.int .i64 ((caseOf false lm ts dl).opn ts.length), .int .i64 ((caseOf true lm ts dl).opn ts.length)], rsl timEnc 4 lt_t1 ht_t1 (.slice at_t1 ts.length ct_t1) (timN (caseOf false lm ts dl) (caseOf true lm ts dl) ts.length ts.length), rbox w83.heap.size 47 #[.int .i64 yy.bl, .int .i64 yy.wh, .int .i64 yy.we, .int .i64 yy.sn], rbox w53.heap.size 43 #[.slice oa1 lm.length oc1, .slice (some ⟨gT, 0, none⟩) lt.length oc2], rbox w17.heap.size 29 (froC l (.slice sal l.cov.length scl)), rsl covEnc 3 lo_l hi_l (.slice sal l.cov.length scl) l.cov, rsl intEnc 1 0 w.heap.size (.slice na zs.length nc) zs] w139 := Fr_
   have hwsF140 := F140.gb.size
   clear Fr_ F138
   have hlh_ : lhK.length = ts.length := by rw [HKC.out.1.is.ho]; simp
   have hlw_ : lwK.length = ts.length := by rw [HKC.out.1.is.wa]; simp
   have hlf_ : lfK.length = ts.length := by rw [HKC.out.1.is.fr]; simp
   have HLF := lhd hlf_
   have hlf2 : lfK.length <= ts.length /\ ts.length <= lfK.length := by omega
   obtain ⟨oalhK, oclhK, e_, _⟩ := Own.slN (F140.o 0 rfl) (fun _ => rfl) hlh_
   subst e_
   obtain ⟨oalwK, oclwK, e_, _⟩ := Own.slN (F140.o 1 rfl) (fun _ => rfl) hlw_
   subst e_
   obtain ⟨oawrK, ocwrK, e_, _⟩ := Own.slN (F140.o 3 rfl) (fun _ => rfl) (List.length_map _)
   subst e_
   obtain ⟨gC, cC, e_⟩ := Own.opnN (F140.o 2 rfl) hlf_ (by omega)
   subst e_
   have gCl := (F140.ltAt 2 rfl _ rfl).1
   clear hlh_ hlw_ hlf_
   go_wp2_with (with_reducible refine stopAt 149 rfl ?_)
   replace F140 := F140.new 60 #[.slice oalhK ts.length oclhK, .slice oalwK ts.length oclwK, .slice (some ⟨gC, 0, none⟩) ts.length cC, .slice oawrK rowsK.length ocwrK] (n := w139.heap.size) (by simp)
   refine lhd ?_
   have Fn_ := F140
   (try dsimp only [lpF, lpG] at Fn_)
   obtain ⟨w142, hx143, F145, hxs144⟩ := Fn_.name
   (try simp at hxs144)
   rw [hx143]
   clear hx143 F140 Fn_
   obtain ⟨x0, hz146_⟩ : ∃ z_, lfK[0]? = some z_ := ⟨_, List.getElem?_eq_getElem (by omega)⟩
   have hz146 := lhd hz146_
   clear hz146_
   have b147 := F145.bx4 0 rfl
   have ge148 : World.cell? _ ⟨gC, 0, none⟩ = some (.int .i64 x0) := (by simpa using (Own.sl (F145.o 3 rfl) (fun _ => rfl)).cells hz146.out 0 _ rfl)
   have gl149 := cell_lt ge148
   have ge150 : World.frozen? _ ⟨gC, 0, none⟩ = false := Own.live (F145.o 3 rfl) _
   have hne151 : ¬ gC = w139.heap.size := F145.neAt 3 0 rfl rfl (by decide) (.inl rfl) gC rfl
   have hne151s : ¬ w139.heap.size = gC := fun e => hne151 e.symm
   go_wp2_with (with_reducible refine stopAt 155 rfl ?_)
   clear b147 ge148 gl149 ge150 hne151 hne151s
   have F152 := Bun.setOwn (sz := 1) (fun _ => rfl) (F145.front 3 rfl rfl) hz146.out (y := (24 * (f : Int))) (j := 0) (u := (.int .i64 (24 * (f : Int)))) (k := 0) (by decide) rfl (by omega)
   clear F145
   refine lhd ?_
   have Fn_ := F152
   (try dsimp only [lpF, lpG] at Fn_)
   obtain ⟨w153, hx154, F156, hxs155⟩ := Fn_.name
   (try simp at hxs155)
   rw [hx154]
   clear hx154 F152 Fn_
   obtain ⟨c2, hc2_⟩ : ∃ c_, KCase c_ lm ts dl lhK lwK (lfK.set 0 (24 * (f : Int))) (rowsK.map (·.2)) := ⟨_, HKC.out.1.fr0 HOK2.out.1 (by rw [tk_fr HTS.out hz118.out]; simp only; omega)⟩
   have HKC2 := lhd hc2_
   clear hc2_
   have b157 := F156.bx4 1 rfl
   have b158 := F156.bx2 14 rfl
   go_wp2_with fail
   clear b157 b158
   refine (rplan_c _ _ _ _ lm ts dl.length 0 _ _ _ _ _ lhK lwK (lfK.set 0 (24 * (f : Int))) rowsK c2 _ (jobAt_fr (F156.o 8 rfl) (F156.o 9 rfl) HTS.out (F156.at 10 rfl : ∀ t ∈ lt, Own intEnc 3 1 w49.heap.size _ t.av t.af) HSL.out hz118.out) (Nat.le_refl _) (caseAt_own (F156.o 2 rfl) (F156.o 3 rfl) (F156.o 0 rfl) (F156.o 4 rfl) (F156.at 5 rfl : ∀ t ∈ rowsK, Own boEnc 4 1 w.heap.size _ t.1 t.2)) (Nat.le_refl _) HKC.out.2 HKC2.out.lo.nd.symm HKC2.out.is HKC2.out.ok (by omega) (by omega) (fun k t hk => (HOK2.out.1.to_ k t hk).m) (fun k t hk => (HOK2.out.1.to_ k t hk).af)).mono ?_
   rintro e w161 ⟨aP, cP, lP, hP, rfl, ⟨hPx, hPy⟩, hPz, hg159⟩
   have hg159s := hg159.size
   (try simp at hg159s)
   replace F156 := F156.add (rsl prEnc 2 lP hP (.slice aP ts.length cP) (c2.plan ts.length)) hg159 (hPz) (fun g e => ⟨Nat.le_trans hPx e.1, Nat.lt_of_lt_of_le e.2 hPy⟩)
   clear hg159
   go_wp2_with fail
   obtain ⟨HI163_, HI1630⟩ : ∃ I : RelT, I = (fun t ds wr => ∃ (k : Nat), t 15 = .slice at_t1 ts.length ct_t1 /\ t 16 = .pointer (some ⟨w134.heap.size, 0, none⟩) /\ t 19 = .slice aP ts.length cP /\ t 20 = .int .i64 (c2.opn ts.length) /\ t 21 = .int .i64 (k : Int) /\ k <= ts.length /\ ds = [] /\ w161.heap.size <= wr.heap.size /\ Bun w [rsl prEnc 2 lP hP (.slice aP ts.length cP) (c2.plan ts.length), rown intEnc 3 1 w.heap.size (.slice (some ⟨gC, 0, none⟩) ts.length cC) (lfK.set 0 (24 * (f : Int))), rown intEnc 3 1 w.heap.size (.slice oalhK ts.length oclhK) lhK, rown intEnc 3 1 w.heap.size (.slice oalwK ts.length oclwK) lwK, rown vEncS 118 1 w.heap.size (.slice oawrK rowsK.length ocwrK) (rowsK.map (fun (x_ : Value × List Bool) => x_.1)), rrws w.heap.size rowsK, rseed sb, rsl weaEnc 6 ld_dl hd_dl (.slice (some ⟨x91, o92, none⟩) dl.length dc_dl) dl, rown mchEnc 94 3 w49.heap.size (.slice oa1 lm.length oc1) lm, rown tskEncS 54 8 w49.heap.size (.slice (some ⟨gT, 0, none⟩) lt.length oc2) ts, rafo w49.heap.size lt, rbox w134.heap.size 27 #[.int .i64 ((caseOf false lm ts dl).opn ts.length), .int .i64 ((caseOf true lm ts dl).opn ts.length)], rsl timEnc 4 lt_t1 ht_t1 (.slice at_t1 ts.length ct_t1) (timN (caseOf false lm ts dl) (caseOf true lm ts dl) ts.length ts.length), rsl covEnc 3 lo_l hi_l (.slice sal l.cov.length scl) l.cov, rsl intEnc 1 0 w.heap.size (.slice na zs.length nc) zs] wr) := ⟨_, rfl⟩
   have HI163 := lhd HI1630
   clear HI1630
   refine wp_loopS 209 rfl HI163_ (fun t wr => ts.length - (intOf (t 21)).toNat) ?atStart2 ?round2
   case round2 =>
    intro t ds wr hHid
    rw [HI163.out] at hHid
    obtain ⟨k, e15, e16, e19, e20, e21, hrel⟩ := hHid
    have e := rgV3209 t
    (try dsimp only at e)
    rw [e15, e16, e19, e20, e21] at e
    rw [e]
    simp only [e21]
    clear e e15 e16 e19 e20 e21
    obtain ⟨hk, rfl, hs165, hF164⟩ := hrel
    clear F156
    obtain ⟨w166, rfl⟩ : ∃ x_ : World, x_ = wr := ⟨_, rfl⟩
    by_cases c167 : (k : Int) < (ts.length : Int)
    ·
     have c167H := lhd c167
     obtain ⟨x168, o169, e_⟩ := Sl.addr (hF164.s 12 rfl) (by rw [timN_len]; omega)
     subst e_
     have hz170 : Hid ((timN (caseOf false lm ts dl) (caseOf true lm ts dl) ts.length ts.length)[k]? = some (timAt (caseOf false lm ts dl) (caseOf true lm ts dl) ts.length k)) := lhd (timN_get (by omega))
     obtain ⟨x171, o172, e_⟩ := Sl.addr (hF164.s 0 rfl) (by rw [Cs.plan_len]; omega)
     subst e_
     have hz173 : Hid ((c2.plan ts.length)[k]? = some (bgAt (c2.plan ts.length) k, enAt (c2.plan ts.length) k)) := lhd (plan_at c2 (by omega))
     have HP1 := lhd (HKC2.out.lo.plan ts.length k (by omega))
     have HP2 := lhd (HKC2.out.hi.plan ts.length k (by omega))
     go_wp2_with fail
     have F174 := hF164.drew
     clear hF164
     refine ru_begin (fun W => W.cell? ⟨x168, o169 + k * 4, none⟩ = some (.int .i64 (bgAt ((caseOf false lm ts dl).plan ts.length) k)) /\ W.cell? ⟨x168, o169 + k * 4 + 1, none⟩ = some (.int .i64 (bgAt ((caseOf true lm ts dl).plan ts.length) k)) /\ W.cell? ⟨x171, o172 + k * 2, none⟩ = some (.int .i64 (bgAt (c2.plan ts.length) k)) /\ W.cell? ⟨x168, o169 + k * 4 + 2, none⟩ = some (.int .i64 (enAt ((caseOf false lm ts dl).plan ts.length) k)) /\ W.cell? ⟨x168, o169 + k * 4 + 2 + 1, none⟩ = some (.int .i64 (enAt ((caseOf true lm ts dl).plan ts.length) k)) /\ W.cell? ⟨x171, o172 + k * 2 + 1, none⟩ = some (.int .i64 (enAt (c2.plan ts.length) k))) 25 (by kernel_rfl) ?_ ?_
     · exact ⟨(Sl.cells (F174.at 12 rfl) hz170.out 0 _ rfl), (Sl.cells (F174.at 12 rfl) hz170.out 1 _ rfl), (Sl.cells (F174.at 0 rfl) hz173.out 0 _ rfl), (Sl.cells (F174.at 12 rfl) hz170.out 2 _ rfl), (Sl.cells (F174.at 12 rfl) hz170.out 3 _ rfl), (Sl.cells (F174.at 0 rfl) hz173.out 1 _ rfl)⟩
     obtain ⟨wd176, hwd_⟩ : ∃ x : World, w166.drew = x := ⟨_, rfl⟩
     rw [hwd_] at F174 ⊢
     have wd176s : w166.heap.size <= wd176.heap.size := by rw [← hwd_]; exact Nat.le_refl _
     clear hwd_
     have hS175 := (And.intro ((Sl.cells (F174.at 12 rfl) hz170.out 0 _ rfl)) (And.intro ((Sl.cells (F174.at 12 rfl) hz170.out 1 _ rfl)) (And.intro ((Sl.cells (F174.at 0 rfl) hz173.out 0 _ rfl)) (And.intro ((Sl.cells (F174.at 12 rfl) hz170.out 2 _ rfl)) (And.intro ((Sl.cells (F174.at 12 rfl) hz170.out 3 _ rfl)) ((Sl.cells (F174.at 0 rfl) hz173.out 1 _ rfl)))))))
     refine ru_t 0 [12, 10, 4, 3, 2] ?_
     refine ru_t 1 [12, 10, 4, 3, 2] ?_
     refine ru_t 2 [12, 10, 4, 3] ?_
     refine ru_t 3 [12, 10, 4] ?_
     refine ru_t 4 [12, 10] ?_
     refine ru_t 5 [12, 10, 9, 8, 7] ?_
     refine ru_t 6 [12, 10, 9, 8, 7] ?_
     refine ru_t 7 [12, 10, 9, 8] ?_
     refine ru_t 8 [12, 10, 9] ?_
     refine ru_t 9 [12, 10] ?_
     (try simp only [lpX])
     clear hS175
     refine ru_o 10 fun K hK => ?_
     go_simp
     refine (has_yes (a := ⟨bgAt ((caseOf false lm ts dl).plan ts.length) k, bgAt ((caseOf true lm ts dl).plan ts.length) k⟩) (n := bgAt (c2.plan ts.length) k) HP1.out.1 HP2.out.1 _).mono ?_
     rintro e w179 ⟨rfl, hg177⟩
     have hg177s := hg177.size
     (try simp at hg177s)
     replace F174 := F174.gn hg177
     refine ru_back hK (by exact ⟨(Sl.cells (F174.at 12 rfl) hz170.out 0 _ rfl), (Sl.cells (F174.at 12 rfl) hz170.out 1 _ rfl), (Sl.cells (F174.at 0 rfl) hz173.out 0 _ rfl), (Sl.cells (F174.at 12 rfl) hz170.out 2 _ rfl), (Sl.cells (F174.at 12 rfl) hz170.out 3 _ rfl), (Sl.cells (F174.at 0 rfl) hz173.out 1 _ rfl)⟩) (fun _ => ?_)
     clear hK K
     (try simp only [lpX])
     refine ru_p 11 ?_
     (try simp only [lpX])
     refine ru_p 12 ?_
     (try simp only [lpX])
     refine ru_p 13 ?_
     refine ru_p 14 ?_
     refine ru_p 18 ?_
     refine ru_p 19 ?_
     (try simp only [lpX])
     refine ru_p 15 ?_
     refine ru_p 20 ?_
     (try simp only [lpX])
     refine ru_p 16 ?_
     refine ru_p 21 ?_
     (try simp only [lpX])
     refine ru_t 17 [24, 23] ?_
     refine ru_t 22 [24, 23] ?_
     (try simp only [lpX])
     refine ru_o 23 fun K hK => ?_
     go_simp
     refine (has_yes (a := ⟨enAt ((caseOf false lm ts dl).plan ts.length) k, enAt ((caseOf true lm ts dl).plan ts.length) k⟩) (n := enAt (c2.plan ts.length) k) HP1.out.2 HP2.out.2 _).mono ?_
     rintro e w183 ⟨rfl, hg181⟩
     have hg181s := hg181.size
     (try simp at hg181s)
     replace F174 := F174.gn hg181
     refine ru_back hK (by exact ⟨(Sl.cells (F174.at 12 rfl) hz170.out 0 _ rfl), (Sl.cells (F174.at 12 rfl) hz170.out 1 _ rfl), (Sl.cells (F174.at 0 rfl) hz173.out 0 _ rfl), (Sl.cells (F174.at 12 rfl) hz170.out 2 _ rfl), (Sl.cells (F174.at 12 rfl) hz170.out 3 _ rfl), (Sl.cells (F174.at 0 rfl) hz173.out 1 _ rfl)⟩) (fun _ => ?_)
     clear hK K
     (try simp only [lpX])
     refine ru_p 24 ?_
     (try simp only [lpX])
     refine ru_o 25 fun K hK => ?_
     go_simp
     refine ru_back_late hK (by kernel_rfl) ?_
     clear hK K
     (try simp only [lpX])
     refine ru_done (by kernel_rfl) ?_
     have Fn_ := F174
     (try dsimp only [lpF, lpG] at Fn_)
     obtain ⟨w185, hx186, F188, hxs187⟩ := Fn_.name
     (try simp at hxs187)
     rw [hx186]
     clear hx186 F174 Fn_
     go_wp2_with fail
     (first | refine ⟨by kernel_rfl, ?_, ?_⟩ | refine ⟨rfl, ?_, ?_⟩ | refine ⟨?_, ?_⟩)
     · rw [HI163.out]; exact ⟨k + 1, (by kernel_rfl), (by kernel_rfl), (by kernel_rfl), (by kernel_rfl), (by show Value.int .i64 ((k : Int) + 1) = _; simp), (by omega), (by first | rfl | simp), (by first | omega | (simp; done) | (simp; omega)), F188⟩
     · simp [slot, intOf]; omega
    have c167H := lhd c167
    have c167a := dec_f c167
    have b189 := hF164.bx2 11 rfl
    go_wp2_with fail
    clear b189
    refine (has_yes (a := ⟨(caseOf false lm ts dl).opn ts.length, (caseOf true lm ts dl).opn ts.length⟩) (n := c2.opn ts.length) (HKC2.out.lo.opn _) (HKC2.out.hi.opn _) _).mono ?_
    rintro e w192 ⟨rfl, hg190⟩
    have hg190s := hg190.size
    (try simp at hg190s)
    have F193 := hF164.gn hg190
    clear hF164
    clear hg190
    go_wp2_with fail
    refine (tawake5_c _).mono ?_
    rintro e w196 ⟨rfl, hg194⟩
    have hg194s := hg194.size
    (try simp at hg194s)
    replace F193 := F193.gn hg194
    clear hg194
    go_wp2_with fail
    go_ret
    exact ⟨rfl, F193.gb⟩
   case atStart2 =>
    rw [HI163.out]
    exact ⟨0, (by kernel_rfl), (by kernel_rfl), (by kernel_rfl), (by kernel_rfl), rfl, Nat.zero_le _, rfl, (by first | exact Nat.le_refl _ | omega | (simp; done) | (simp; omega)), ((((F156.drop 2 rfl).drop 13 rfl).drop 13 rfl).drop 13 rfl)⟩
  have c90H := lhd c90
  have c90a := dec_f c90
  have hfin := HFI.out.fin (by omega) (.inr (by omega)) HRD.out.2 HRD.out.1 (by omega)
  have kn198 : ¬ ((f : Int) < pN) := (by omega)
  have kn198H := lhd kn198
  have kn198a : decide ((f : Int) < pN) = false := dec_f kn198
  have kn199 : ¬ (sN < (f : Int)) := (by omega)
  have kn199H := lhd kn199
  have kn199a : decide (sN < (f : Int)) = false := dec_f kn199
  obtain ⟨gT, cT, e_⟩ := Own.opn (hF87.o 3 rfl) (by omega)
  injection e_ with e1_ _ e2_
  subst e1_ e2_
  have gTl := (hF87.ltAt 3 rfl _ rfl).1
  obtain ⟨z0, hz200_⟩ : ∃ z_, lt[0]? = some z_ := ⟨_, List.getElem?_eq_getElem (by omega)⟩
  have hz200 := lhd hz200_
  clear hz200_
  have b201 := hF87.bx2 1 rfl
  have ge202 : World.cell? _ ⟨gT, 5, none⟩ = some (.int .i64 z0.fr.lo) := (by simpa using (Own.sl (hF87.o 3 rfl) (fun _ => rfl)).cells hz200.out 5 _ rfl)
  have gl203 := cell_lt ge202
  have ge204 : World.frozen? _ ⟨gT, 5, none⟩ = false := Own.live (hF87.o 3 rfl) _
  have ge205 : World.cell? _ ⟨gT, 6, none⟩ = some (.int .i64 z0.fr.hi) := (by simpa using (Own.sl (hF87.o 3 rfl) (fun _ => rfl)).cells hz200.out 6 _ rfl)
  have ge206 : World.frozen? _ ⟨gT, 6, none⟩ = false := Own.live (hF87.o 3 rfl) _
  have hne207 : ¬ gT = w53.heap.size := hF87.neAt 3 1 rfl rfl (by decide) (.inl rfl) gT rfl
  have hne207s : ¬ w53.heap.size = gT := fun e => hne207 e.symm
  have hne208 : ¬ gT = w53.heap.size := hF87.neAt 3 1 rfl rfl (by decide) (.inl rfl) gT rfl
  have hne208s : ¬ w53.heap.size = gT := fun e => hne208 e.symm
  go_wp2_with fail
  clear b201 ge202 gl203 ge204 ge205 ge206 hne207 hne207s hne208 hne208s
  have F209 := Bun.setOwn (sz := 8) (fun _ => rfl) (hF87.front 3 rfl rfl) hz200.out (y := (frtT z0 ⟨24 * pN, z0.fr.hi⟩)) (j := 5) (u := (.int .i64 (24 * pN))) (by decide) rfl rfl
  clear hF87
  have hz210 : Hid ((lt.set 0 (frtT z0 ⟨24 * pN, z0.fr.hi⟩))[0]? = some (frtT z0 ⟨24 * pN, z0.fr.hi⟩)) := lhd (set_at (by omega))
  have F211 := Bun.setOwn (sz := 8) (fun _ => rfl) F209 hz210.out (y := (frtT z0 ⟨24 * pN, 24 * sN⟩)) (j := 6) (u := (.int .i64 (24 * sN))) (by decide) rfl rfl
  clear F209
  rw [List.set_set] at F211
  have hz212 : Hid ((lt.set 0 (frtT z0 ⟨24 * pN, 24 * sN⟩))[0]? = some (frtT z0 ⟨24 * pN, 24 * sN⟩)) := lhd (set_at (by omega))
  obtain ⟨ts, hts_⟩ : ∃ ts_, ts_ = lt.set 0 (frtT z0 ⟨24 * pN, 24 * sN⟩) := ⟨_, rfl⟩
  rw [← hts_] at F211
  have HTS := lhd hts_
  have htl_ : ts.length = lt.length := by rw [hts_]; exact List.length_set
  have HBE2 : Hid (bothErr lm ts dl = 0) := lhd (by rw [hts_]; exact fr_err HBE.out hz200.out (by simp only; omega))
  have HOK2 := lhd (bothOk HBE2.out)
  have hts2 : ts.length <= lt.length /\ lt.length <= ts.length := by omega
  have HTL := lhd htl_
  clear hts_ htl_
  have b213 := F211.bx2 2 rfl
  go_wp2_with fail
  clear b213
  refine (btimes_ok _ _ _ _ lm ts _ _ _ dl _ (jobAt_fr (F211.o 3 rfl) (F211.o 0 rfl) HTS.out (F211.at 4 rfl : ∀ t ∈ lt, Own intEnc 3 1 w49.heap.size _ t.av t.af) HSL.out hz200.out) (Nat.le_refl _) (F211.s 6 rfl) (by first | omega | (simp; omega)) HBE2.out _ _ rfl rfl).mono ?_
  rintro e w216 ⟨at_t1, ct_t1, lt_t1, ht_t1, rfl, ⟨htx_t1, hty_t1⟩, htz_t1, hg214⟩
  have hg214s := hg214.size
  (try simp at hg214s)
  replace F211 := F211.add (rsl timEnc 4 lt_t1 ht_t1 (.slice at_t1 ts.length ct_t1) (timN (caseOf false lm ts dl) (caseOf true lm ts dl) ts.length ts.length)) hg214 (htz_t1) (fun g e => ⟨Nat.le_trans htx_t1 e.1, Nat.lt_of_lt_of_le e.2 hty_t1⟩)
  clear hg214
  have b218 := F211.bx2 3 rfl
  go_wp2_with fail
  clear b218
  replace F211 := F211.new 27 #[.int .i64 ((caseOf false lm ts dl).opn ts.length), .int .i64 ((caseOf true lm ts dl).opn ts.length)] (n := w216.heap.size) (by simp)
  have F220 : Bun w [rseed sb, rsl weaEnc 6 ld_dl hd_dl (.slice da_dl dl.length dc_dl) dl, rown mchEnc 94 3 w49.heap.size (.slice oa1 lm.length oc1) lm, rown tskEncS 54 8 w49.heap.size (.slice (some ⟨gT, 0, none⟩) lt.length oc2) ts, rafo w49.heap.size lt, rbox w216.heap.size 27 #[.int .i64 ((caseOf false lm ts dl).opn ts.length), .int .i64 ((caseOf true lm ts dl).opn ts.length)], rsl timEnc 4 lt_t1 ht_t1 (.slice at_t1 ts.length ct_t1) (timN (caseOf false lm ts dl) (caseOf true lm ts dl) ts.length ts.length), rbox w83.heap.size 47 #[.int .i64 yy.bl, .int .i64 yy.wh, .int .i64 yy.we, .int .i64 yy.sn], rbox w53.heap.size 43 #[.slice oa1 lm.length oc1, .slice (some ⟨gT, 0, none⟩) lt.length oc2], rbox w17.heap.size 29 (froC l (.slice sal l.cov.length scl)), rsl covEnc 3 lo_l hi_l (.slice sal l.cov.length scl) l.cov, rsl intEnc 1 0 w.heap.size (.slice na zs.length nc) zs] _ := F211.pick [9, 8, 5, 2, 6, 0, 1, 3, 4, 7, 10, 11] (by decide) rfl
  clear F211
  refine (kcaseQ_c w sb _ _ _ lm lt ts dl _ _ _ lt.length _ _ _ [rbox w216.heap.size 27 #[.int .i64 ((caseOf false lm ts dl).opn ts.length), .int .i64 ((caseOf true lm ts dl).opn ts.length)], rsl timEnc 4 lt_t1 ht_t1 (.slice at_t1 ts.length ct_t1) (timN (caseOf false lm ts dl) (caseOf true lm ts dl) ts.length ts.length), rbox w83.heap.size 47 #[.int .i64 yy.bl, .int .i64 yy.wh, .int .i64 yy.we, .int .i64 yy.sn], rbox w53.heap.size 43 #[.slice oa1 lm.length oc1, .slice (some ⟨gT, 0, none⟩) lt.length oc2], rbox w17.heap.size 29 (froC l (.slice sal l.cov.length scl)), rsl covEnc 3 lo_l hi_l (.slice sal l.cov.length scl) l.cov, rsl intEnc 1 0 w.heap.size (.slice na zs.length nc) zs] _ F220 (by omega) (jobAt_fr (F220.o 2 rfl) (F220.o 3 rfl) HTS.out (F220.at 4 rfl : ∀ t ∈ lt, Own intEnc 3 1 w49.heap.size _ t.av t.af) HSL.out hz200.out) (by first | omega | (simp; omega)) HTL.out HBE2.out).mono ?_
  rintro e w221 ⟨v1K, v2K, v3K, v4K, lhK, lwK, lfK, rowsK, cK, rfl, hkc_, Fr_⟩
  have HKC := lhd hkc_
  clear hkc_
  have F222 : Bun w [rown intEnc 3 1 w.heap.size v1K lhK, rown intEnc 3 1 w.heap.size v2K lwK, rown intEnc 3 1 w.heap.size v3K lfK, rown vEncS 118 1 w.heap.size v4K (rowsK.map (fun (x_ : Value × List Bool) => x_.1)), rrws w.heap.size rowsK, rseed sb, rsl weaEnc 6 ld_dl hd_dl (.slice da_dl dl.length dc_dl) dl, rown mchEnc 94 3 w49.heap.size (.slice oa1 lm.length oc1) lm, rown tskEncS 54 8 w49.heap.size (.slice (some ⟨gT, 0, none⟩) lt.length oc2) ts, rafo w49.heap.size lt, rbox w216.heap.size 27 #[.int .i64 ((caseOf false lm ts dl).opn ts.length), .int .i64 ((caseOf true lm ts dl).opn ts.length)], rsl timEnc 4 lt_t1 ht_t1 (.slice at_t1 ts.length ct_t1) (timN (caseOf false lm ts dl) (caseOf true lm ts dl) ts.length ts.length), rbox w83.heap.size 47 #[.int .i64 yy.bl, .int .i64 yy.wh, .int .i64 yy.we, .int .i64 yy.sn], rbox w53.heap.size 43 #[.slice oa1 lm.length oc1, .slice (some ⟨gT, 0, none⟩) lt.length oc2], rbox w17.heap.size 29 (froC l (.slice sal l.cov.length scl)), rsl covEnc 3 lo_l hi_l (.slice sal l.cov.length scl) l.cov, rsl intEnc 1 0 w.heap.size (.slice na zs.length nc) zs] w221 := Fr_
  have hwsF222 := F222.gb.size
  clear Fr_ F220
  have hlh_ : lhK.length = ts.length := by rw [HKC.out.1.is.ho]; simp
  have hlw_ : lwK.length = ts.length := by rw [HKC.out.1.is.wa]; simp
  have hlf_ : lfK.length = ts.length := by rw [HKC.out.1.is.fr]; simp
  have HLF := lhd hlf_
  have hlf2 : lfK.length <= ts.length /\ ts.length <= lfK.length := by omega
  obtain ⟨oalhK, oclhK, e_, _⟩ := Own.slN (F222.o 0 rfl) (fun _ => rfl) hlh_
  subst e_
  obtain ⟨oalwK, oclwK, e_, _⟩ := Own.slN (F222.o 1 rfl) (fun _ => rfl) hlw_
  subst e_
  obtain ⟨oawrK, ocwrK, e_, _⟩ := Own.slN (F222.o 3 rfl) (fun _ => rfl) (List.length_map _)
  subst e_
  obtain ⟨gC, cC, e_⟩ := Own.opnN (F222.o 2 rfl) hlf_ (by omega)
  subst e_
  have gCl := (F222.ltAt 2 rfl _ rfl).1
  clear hlh_ hlw_ hlf_
  go_wp2_with (with_reducible refine stopAt 149 rfl ?_)
  replace F222 := F222.new 60 #[.slice oalhK ts.length oclhK, .slice oalwK ts.length oclwK, .slice (some ⟨gC, 0, none⟩) ts.length cC, .slice oawrK rowsK.length ocwrK] (n := w221.heap.size) (by simp)
  refine lhd ?_
  have Fn_ := F222
  (try dsimp only [lpF, lpG] at Fn_)
  obtain ⟨w224, hx225, F227, hxs226⟩ := Fn_.name
  (try simp at hxs226)
  rw [hx225]
  clear hx225 F222 Fn_
  obtain ⟨x0, hz228_⟩ : ∃ z_, lfK[0]? = some z_ := ⟨_, List.getElem?_eq_getElem (by omega)⟩
  have hz228 := lhd hz228_
  clear hz228_
  have b229 := F227.bx4 0 rfl
  have ge230 : World.cell? _ ⟨gC, 0, none⟩ = some (.int .i64 x0) := (by simpa using (Own.sl (F227.o 3 rfl) (fun _ => rfl)).cells hz228.out 0 _ rfl)
  have gl231 := cell_lt ge230
  have ge232 : World.frozen? _ ⟨gC, 0, none⟩ = false := Own.live (F227.o 3 rfl) _
  have hne233 : ¬ gC = w221.heap.size := F227.neAt 3 0 rfl rfl (by decide) (.inl rfl) gC rfl
  have hne233s : ¬ w221.heap.size = gC := fun e => hne233 e.symm
  go_wp2_with (with_reducible refine stopAt 155 rfl ?_)
  clear b229 ge230 gl231 ge232 hne233 hne233s
  have F234 := Bun.setOwn (sz := 1) (fun _ => rfl) (F227.front 3 rfl rfl) hz228.out (y := (24 * (f : Int))) (j := 0) (u := (.int .i64 (24 * (f : Int)))) (k := 0) (by decide) rfl (by omega)
  clear F227
  refine lhd ?_
  have Fn_ := F234
  (try dsimp only [lpF, lpG] at Fn_)
  obtain ⟨w235, hx236, F238, hxs237⟩ := Fn_.name
  (try simp at hxs237)
  rw [hx236]
  clear hx236 F234 Fn_
  obtain ⟨c2, hc2_⟩ : ∃ c_, KCase c_ lm ts dl lhK lwK (lfK.set 0 (24 * (f : Int))) (rowsK.map (·.2)) := ⟨_, HKC.out.1.fr0 HOK2.out.1 (by rw [tk_fr HTS.out hz200.out]; simp only; omega)⟩
  have HKC2 := lhd hc2_
  clear hc2_
  have b239 := F238.bx4 1 rfl
  have b240 := F238.bx2 14 rfl
  go_wp2_with fail
  clear b239 b240
  refine (rplan_c _ _ _ _ lm ts dl.length 0 _ _ _ _ _ lhK lwK (lfK.set 0 (24 * (f : Int))) rowsK c2 _ (jobAt_fr (F238.o 8 rfl) (F238.o 9 rfl) HTS.out (F238.at 10 rfl : ∀ t ∈ lt, Own intEnc 3 1 w49.heap.size _ t.av t.af) HSL.out hz200.out) (Nat.le_refl _) (caseAt_own (F238.o 2 rfl) (F238.o 3 rfl) (F238.o 0 rfl) (F238.o 4 rfl) (F238.at 5 rfl : ∀ t ∈ rowsK, Own boEnc 4 1 w.heap.size _ t.1 t.2)) (Nat.le_refl _) HKC.out.2 HKC2.out.lo.nd.symm HKC2.out.is HKC2.out.ok (by omega) (by omega) (fun k t hk => (HOK2.out.1.to_ k t hk).m) (fun k t hk => (HOK2.out.1.to_ k t hk).af)).mono ?_
  rintro e w243 ⟨aP, cP, lP, hP, rfl, ⟨hPx, hPy⟩, hPz, hg241⟩
  have hg241s := hg241.size
  (try simp at hg241s)
  replace F238 := F238.add (rsl prEnc 2 lP hP (.slice aP ts.length cP) (c2.plan ts.length)) hg241 (hPz) (fun g e => ⟨Nat.le_trans hPx e.1, Nat.lt_of_lt_of_le e.2 hPy⟩)
  clear hg241
  go_wp2_with fail
  obtain ⟨HI245_, HI2450⟩ : ∃ I : RelT, I = (fun t ds wr => ∃ (k : Nat), t 15 = .slice at_t1 ts.length ct_t1 /\ t 16 = .pointer (some ⟨w216.heap.size, 0, none⟩) /\ t 19 = .slice aP ts.length cP /\ t 20 = .int .i64 (c2.opn ts.length) /\ t 21 = .int .i64 (k : Int) /\ k <= ts.length /\ ds = [] /\ w243.heap.size <= wr.heap.size /\ Bun w [rsl prEnc 2 lP hP (.slice aP ts.length cP) (c2.plan ts.length), rown intEnc 3 1 w.heap.size (.slice (some ⟨gC, 0, none⟩) ts.length cC) (lfK.set 0 (24 * (f : Int))), rown intEnc 3 1 w.heap.size (.slice oalhK ts.length oclhK) lhK, rown intEnc 3 1 w.heap.size (.slice oalwK ts.length oclwK) lwK, rown vEncS 118 1 w.heap.size (.slice oawrK rowsK.length ocwrK) (rowsK.map (fun (x_ : Value × List Bool) => x_.1)), rrws w.heap.size rowsK, rseed sb, rsl weaEnc 6 ld_dl hd_dl (.slice da_dl dl.length dc_dl) dl, rown mchEnc 94 3 w49.heap.size (.slice oa1 lm.length oc1) lm, rown tskEncS 54 8 w49.heap.size (.slice (some ⟨gT, 0, none⟩) lt.length oc2) ts, rafo w49.heap.size lt, rbox w216.heap.size 27 #[.int .i64 ((caseOf false lm ts dl).opn ts.length), .int .i64 ((caseOf true lm ts dl).opn ts.length)], rsl timEnc 4 lt_t1 ht_t1 (.slice at_t1 ts.length ct_t1) (timN (caseOf false lm ts dl) (caseOf true lm ts dl) ts.length ts.length), rsl covEnc 3 lo_l hi_l (.slice sal l.cov.length scl) l.cov, rsl intEnc 1 0 w.heap.size (.slice na zs.length nc) zs] wr) := ⟨_, rfl⟩
  have HI245 := lhd HI2450
  clear HI2450
  refine wp_loopS 209 rfl HI245_ (fun t wr => ts.length - (intOf (t 21)).toNat) ?atStart3 ?round3
  case round3 =>
   intro t ds wr hHid
   rw [HI245.out] at hHid
   obtain ⟨k, e15, e16, e19, e20, e21, hrel⟩ := hHid
   have e := rgV3209 t
   (try dsimp only at e)
   rw [e15, e16, e19, e20, e21] at e
   rw [e]
   simp only [e21]
   clear e e15 e16 e19 e20 e21
   obtain ⟨hk, rfl, hs247, hF246⟩ := hrel
   clear F238
   obtain ⟨w248, rfl⟩ : ∃ x_ : World, x_ = wr := ⟨_, rfl⟩
   by_cases c249 : (k : Int) < (ts.length : Int)
   ·
    have c249H := lhd c249
    obtain ⟨x250, o251, e_⟩ := Sl.addr (hF246.s 12 rfl) (by rw [timN_len]; omega)
    subst e_
    have hz252 : Hid ((timN (caseOf false lm ts dl) (caseOf true lm ts dl) ts.length ts.length)[k]? = some (timAt (caseOf false lm ts dl) (caseOf true lm ts dl) ts.length k)) := lhd (timN_get (by omega))
    obtain ⟨x253, o254, e_⟩ := Sl.addr (hF246.s 0 rfl) (by rw [Cs.plan_len]; omega)
    subst e_
    have hz255 : Hid ((c2.plan ts.length)[k]? = some (bgAt (c2.plan ts.length) k, enAt (c2.plan ts.length) k)) := lhd (plan_at c2 (by omega))
    have HP1 := lhd (HKC2.out.lo.plan ts.length k (by omega))
    have HP2 := lhd (HKC2.out.hi.plan ts.length k (by omega))
    go_wp2_with fail
    have F256 := hF246.drew
    clear hF246
    refine ru_begin (fun W => W.cell? ⟨x250, o251 + k * 4, none⟩ = some (.int .i64 (bgAt ((caseOf false lm ts dl).plan ts.length) k)) /\ W.cell? ⟨x250, o251 + k * 4 + 1, none⟩ = some (.int .i64 (bgAt ((caseOf true lm ts dl).plan ts.length) k)) /\ W.cell? ⟨x253, o254 + k * 2, none⟩ = some (.int .i64 (bgAt (c2.plan ts.length) k)) /\ W.cell? ⟨x250, o251 + k * 4 + 2, none⟩ = some (.int .i64 (enAt ((caseOf false lm ts dl).plan ts.length) k)) /\ W.cell? ⟨x250, o251 + k * 4 + 2 + 1, none⟩ = some (.int .i64 (enAt ((caseOf true lm ts dl).plan ts.length) k)) /\ W.cell? ⟨x253, o254 + k * 2 + 1, none⟩ = some (.int .i64 (enAt (c2.plan ts.length) k))) 25 (by kernel_rfl) ?_ ?_
    · exact ⟨(Sl.cells (F256.at 12 rfl) hz252.out 0 _ rfl), (Sl.cells (F256.at 12 rfl) hz252.out 1 _ rfl), (Sl.cells (F256.at 0 rfl) hz255.out 0 _ rfl), (Sl.cells (F256.at 12 rfl) hz252.out 2 _ rfl), (Sl.cells (F256.at 12 rfl) hz252.out 3 _ rfl), (Sl.cells (F256.at 0 rfl) hz255.out 1 _ rfl)⟩
    obtain ⟨wd258, hwd_⟩ : ∃ x : World, w248.drew = x := ⟨_, rfl⟩
    rw [hwd_] at F256 ⊢
    have wd258s : w248.heap.size <= wd258.heap.size := by rw [← hwd_]; exact Nat.le_refl _
    clear hwd_
    have hS257 := (And.intro ((Sl.cells (F256.at 12 rfl) hz252.out 0 _ rfl)) (And.intro ((Sl.cells (F256.at 12 rfl) hz252.out 1 _ rfl)) (And.intro ((Sl.cells (F256.at 0 rfl) hz255.out 0 _ rfl)) (And.intro ((Sl.cells (F256.at 12 rfl) hz252.out 2 _ rfl)) (And.intro ((Sl.cells (F256.at 12 rfl) hz252.out 3 _ rfl)) ((Sl.cells (F256.at 0 rfl) hz255.out 1 _ rfl)))))))
    refine ru_t 0 [12, 10, 4, 3, 2] ?_
    refine ru_t 1 [12, 10, 4, 3, 2] ?_
    refine ru_t 2 [12, 10, 4, 3] ?_
    refine ru_t 3 [12, 10, 4] ?_
    refine ru_t 4 [12, 10] ?_
    refine ru_t 5 [12, 10, 9, 8, 7] ?_
    refine ru_t 6 [12, 10, 9, 8, 7] ?_
    refine ru_t 7 [12, 10, 9, 8] ?_
    refine ru_t 8 [12, 10, 9] ?_
    refine ru_t 9 [12, 10] ?_
    (try simp only [lpX])
    clear hS257
    refine ru_o 10 fun K hK => ?_
    go_simp
    refine (has_yes (a := ⟨bgAt ((caseOf false lm ts dl).plan ts.length) k, bgAt ((caseOf true lm ts dl).plan ts.length) k⟩) (n := bgAt (c2.plan ts.length) k) HP1.out.1 HP2.out.1 _).mono ?_
    rintro e w261 ⟨rfl, hg259⟩
    have hg259s := hg259.size
    (try simp at hg259s)
    replace F256 := F256.gn hg259
    refine ru_back hK (by exact ⟨(Sl.cells (F256.at 12 rfl) hz252.out 0 _ rfl), (Sl.cells (F256.at 12 rfl) hz252.out 1 _ rfl), (Sl.cells (F256.at 0 rfl) hz255.out 0 _ rfl), (Sl.cells (F256.at 12 rfl) hz252.out 2 _ rfl), (Sl.cells (F256.at 12 rfl) hz252.out 3 _ rfl), (Sl.cells (F256.at 0 rfl) hz255.out 1 _ rfl)⟩) (fun _ => ?_)
    clear hK K
    (try simp only [lpX])
    refine ru_p 11 ?_
    (try simp only [lpX])
    refine ru_p 12 ?_
    (try simp only [lpX])
    refine ru_p 13 ?_
    refine ru_p 14 ?_
    refine ru_p 18 ?_
    refine ru_p 19 ?_
    (try simp only [lpX])
    refine ru_p 15 ?_
    refine ru_p 20 ?_
    (try simp only [lpX])
    refine ru_p 16 ?_
    refine ru_p 21 ?_
    (try simp only [lpX])
    refine ru_t 17 [24, 23] ?_
    refine ru_t 22 [24, 23] ?_
    (try simp only [lpX])
    refine ru_o 23 fun K hK => ?_
    go_simp
    refine (has_yes (a := ⟨enAt ((caseOf false lm ts dl).plan ts.length) k, enAt ((caseOf true lm ts dl).plan ts.length) k⟩) (n := enAt (c2.plan ts.length) k) HP1.out.2 HP2.out.2 _).mono ?_
    rintro e w265 ⟨rfl, hg263⟩
    have hg263s := hg263.size
    (try simp at hg263s)
    replace F256 := F256.gn hg263
    refine ru_back hK (by exact ⟨(Sl.cells (F256.at 12 rfl) hz252.out 0 _ rfl), (Sl.cells (F256.at 12 rfl) hz252.out 1 _ rfl), (Sl.cells (F256.at 0 rfl) hz255.out 0 _ rfl), (Sl.cells (F256.at 12 rfl) hz252.out 2 _ rfl), (Sl.cells (F256.at 12 rfl) hz252.out 3 _ rfl), (Sl.cells (F256.at 0 rfl) hz255.out 1 _ rfl)⟩) (fun _ => ?_)
    clear hK K
    (try simp only [lpX])
    refine ru_p 24 ?_
    (try simp only [lpX])
    refine ru_o 25 fun K hK => ?_
    go_simp
    refine ru_back_late hK (by kernel_rfl) ?_
    clear hK K
    (try simp only [lpX])
    refine ru_done (by kernel_rfl) ?_
    have Fn_ := F256
    (try dsimp only [lpF, lpG] at Fn_)
    obtain ⟨w267, hx268, F270, hxs269⟩ := Fn_.name
    (try simp at hxs269)
    rw [hx268]
    clear hx268 F256 Fn_
    go_wp2_with fail
    (first | refine ⟨by kernel_rfl, ?_, ?_⟩ | refine ⟨rfl, ?_, ?_⟩ | refine ⟨?_, ?_⟩)
    · rw [HI245.out]; exact ⟨k + 1, (by kernel_rfl), (by kernel_rfl), (by kernel_rfl), (by kernel_rfl), (by show Value.int .i64 ((k : Int) + 1) = _; simp), (by omega), (by first | rfl | simp), (by first | omega | (simp; done) | (simp; omega)), F270⟩
    · simp [slot, intOf]; omega
   have c249H := lhd c249
   have c249a := dec_f c249
   have b271 := hF246.bx2 11 rfl
   go_wp2_with fail
   clear b271
   refine (has_yes (a := ⟨(caseOf false lm ts dl).opn ts.length, (caseOf true lm ts dl).opn ts.length⟩) (n := c2.opn ts.length) (HKC2.out.lo.opn _) (HKC2.out.hi.opn _) _).mono ?_
   rintro e w274 ⟨rfl, hg272⟩
   have hg272s := hg272.size
   (try simp at hg272s)
   have F275 := hF246.gn hg272
   clear hF246
   clear hg272
   go_wp2_with fail
   refine (tawake5_c _).mono ?_
   rintro e w278 ⟨rfl, hg276⟩
   have hg276s := hg276.size
   (try simp at hg276s)
   replace F275 := F275.gn hg276
   clear hg276
   go_wp2_with fail
   go_ret
   exact ⟨rfl, F275.gb⟩
  case atStart3 =>
   rw [HI245.out]
   exact ⟨0, (by kernel_rfl), (by kernel_rfl), (by kernel_rfl), (by kernel_rfl), rfl, Nat.zero_le _, rfl, (by first | exact Nat.le_refl _ | omega | (simp; done) | (simp; omega)), ((((F238.drop 2 rfl).drop 13 rfl).drop 13 rfl).drop 13 rfl)⟩
 case atStart1 =>
  rw [HI86.out]
  exact ⟨0, 0, tt, by (iterate 7 refine ⟨by kernel_rfl, ?_⟩); exact ⟨rfl, (by kernel_rfl), rfl, Nat.zero_le _, lhd (FstI.zero _ _ _ _), htt, rfl, (by first | exact Nat.le_refl _ | omega | (simp; done) | (simp; omega)), (F52.drop 5 rfl)⟩⟩
end Go.Proofs.YtdgplekokdeafaaGreat
