/- the law: BuildFloods walked. -/
import Derived.Test.YtkclabflkocbaaaGreatLKD
import Derived.Test.YtkclabflkocbaaaGreatLKW
import Derived.Test.YtkclabflkocbaaaGreatLKF2
import Derived.Test.YtkclabflkocbaaaGreatLKF4
import Derived.Test.YtkclabflkocbaaaGreatLKC
import Derived.Test.YtkclabflkocbaaaGreatLMixG
import Derived.Test.YtkclabflkocbaaaGreatLKA
set_option linter.unusedVariables false
set_option linter.unusedSimpArgs false
set_option linter.unnecessarySimpa false
namespace Go.Proofs.YtkclabflkocbaaaGreat
open Go.RowKit
set_option maxRecDepth 100000
attribute [local go_sem] Oper.semAt_some
theorem stopAt {P : Program} {ops : Array Oper} {o : Oper} {rest : List Oper} {Q : Exit -> Act -> World -> Prop} {a : Act} {w : World} (d : Nat) (_ : o.dst = some d) (x : Hid (wpList P ops Q (o :: rest) a w)) : wpList P ops Q (o :: rest) a w := x.out
theorem rng_floods_walk (t : Nat -> Value) : ((List.range 170).map t).toArray = List.toArray [t 0, t 1, t 2, t 3, t 4, t 5, t 6, t 7, t 8, t 9, t 10, t 11, t 12, t 13, t 14, t 15, t 16, t 17, t 18, t 19, t 20, t 21, t 22, t 23, t 24, t 25, t 26, t 27, t 28, t 29, t 30, t 31, t 32, t 33, t 34, t 35, t 36, t 37, t 38, t 39, t 40, t 41, t 42, t 43, t 44, t 45, t 46, t 47, t 48, t 49, t 50, t 51, t 52, t 53, t 54, t 55, t 56, t 57, t 58, t 59, t 60, t 61, t 62, t 63, t 64, t 65, t 66, t 67, t 68, t 69, t 70, t 71, t 72, t 73, t 74, t 75, t 76, t 77, t 78, t 79, t 80, t 81, t 82, t 83, t 84, t 85, t 86, t 87, t 88, t 89, t 90, t 91, t 92, t 93, t 94, t 95, t 96, t 97, t 98, t 99, t 100, t 101, t 102, t 103, t 104, t 105, t 106, t 107, t 108, t 109, t 110, t 111, t 112, t 113, t 114, t 115, t 116, t 117, t 118, t 119, t 120, t 121, t 122, t 123, t 124, t 125, t 126, t 127, t 128, t 129, t 130, t 131, t 132, t 133, t 134, t 135, t 136, t 137, t 138, t 139, t 140, t 141, t 142, t 143, t 144, t 145, t 146, t 147, t 148, t 149, t 150, t 151, t 152, t 153, t 154, t 155, t 156, t 157, t 158, t 159, t 160, t 161, t 162, t 163, t 164, t 165, t 166, t 167, t 168, t 169] := rfl
set_option maxHeartbeats 32000000 in
theorem floods_walk (l0 : Fro) (x0 : Ice) (d0 : List Wea) (need most : Int) (v vd vn : Value) (zs : List Int) (w : World) (hl : Sl covEnc 3 0 w.heap.size w v l0.cov) (hd : Sl weaEnc 6 0 w.heap.size w vd d0) (hn : Sl intEnc 1 0 w.heap.size w vn zs) :
  Calls Tryz.prog 3 #[.agg (froC l0 v), .agg (iceC x0), vd, .int .i64 need, .int .i64 most, vn] w (Ret (.bool true) w) := by
 have F1 : Bun w [] w := Bun.nil _
 obtain ⟨sa0, sc0, rfl⟩ := hl.any
 have hm_l0 := hl.len
 unfold maxLen at hm_l0
 replace F1 := F1.sl0 hl (Nat.le_refl _) rfl
 clear hl
 obtain ⟨da0, dc0, rfl⟩ := hd.any
 have hm_d0 := hd.len
 unfold maxLen at hm_d0
 replace F1 := F1.sl0 hd (Nat.le_refl _) rfl
 clear hd
 obtain ⟨na, nc, rfl⟩ := hn.any
 have hm_nums := hn.len
 unfold maxLen at hm_nums
 replace F1 := F1.sl0 hn (Nat.le_refl _) rfl
 go_enter Tryz.func3, Tryz.ntmps3
 go_wp2_with (with_reducible refine stopAt 30 rfl ?_)
 replace F1 := F1.new 26 (froC l0 (.slice sa0 l0.cov.length sc0)) (n := w.heap.size) (by simp)
 replace F1 := F1.new 28 (iceC x0) (n := (w.heap.size + 1)) (by simp)
 refine lhd ?_
 have Fn_ := F1
 (try dsimp only [lpF, lpG] at Fn_)
 obtain ⟨w7, hx8, F10, hxs9⟩ := Fn_.name
 (try simp at hxs9)
 rw [hx8]
 clear hx8 F1 Fn_
 rename_i k0_ hk0_ k1_ hk1_
 refine cut_then (K0 := k0_) 170 (fun t wr => ∃ (u_ : Unit), t 2 = .slice da0 d0.length dc0 /\ t 3 = .int .i64 need /\ t 4 = .int .i64 most /\ t 5 = .slice na zs.length nc /\ t 6 = .pointer (some ⟨w.heap.size, 0, none⟩) /\ t 7 = .pointer (some ⟨w.heap.size + 1, 0, none⟩) /\ w7.heap.size <= wr.heap.size /\ (l0.cov.length <= 30 /\ d0.length <= 420) /\ Bun w [rbox (w.heap.size + 1) 28 (iceC x0), rbox w.heap.size 26 (froC l0 (.slice sa0 l0.cov.length sc0)), rsl intEnc 1 0 w.heap.size (.slice na zs.length nc) zs, rsl weaEnc 6 0 w.heap.size (.slice da0 d0.length dc0) d0, rsl covEnc 3 0 w.heap.size (.slice sa0 l0.cov.length sc0) l0.cov] wr) ?first1 ?rest1
 case rest1 =>
  rintro t wr ⟨u_, e2, e3, e4, e5, e6, e7, hrel⟩
  have e : ((List.range 170).map t).toArray = #[t 0, t 1, t 2, t 3, t 4, t 5, t 6, t 7, t 8, t 9, t 10, t 11, t 12, t 13, t 14, t 15, t 16, t 17, t 18, t 19, t 20, t 21, t 22, t 23, t 24, t 25, t 26, t 27, t 28, t 29, t 30, t 31, t 32, t 33, t 34, t 35, t 36, t 37, t 38, t 39, t 40, t 41, t 42, t 43, t 44, t 45, t 46, t 47, t 48, t 49, t 50, t 51, t 52, t 53, t 54, t 55, t 56, t 57, t 58, t 59, t 60, t 61, t 62, t 63, t 64, t 65, t 66, t 67, t 68, t 69, t 70, t 71, t 72, t 73, t 74, t 75, t 76, t 77, t 78, t 79, t 80, t 81, t 82, t 83, t 84, t 85, t 86, t 87, t 88, t 89, t 90, t 91, t 92, t 93, t 94, t 95, t 96, t 97, t 98, t 99, t 100, t 101, t 102, t 103, t 104, t 105, t 106, t 107, t 108, t 109, t 110, t 111, t 112, t 113, t 114, t 115, t 116, t 117, t 118, t 119, t 120, t 121, t 122, t 123, t 124, t 125, t 126, t 127, t 128, t 129, t 130, t 131, t 132, t 133, t 134, t 135, t 136, t 137, t 138, t 139, t 140, t 141, t 142, t 143, t 144, t 145, t 146, t 147, t 148, t 149, t 150, t 151, t 152, t 153, t 154, t 155, t 156, t 157, t 158, t 159, t 160, t 161, t 162, t 163, t 164, t 165, t 166, t 167, t 168, t 169] := rfl
  (try dsimp only at e)
  rw [e2, e3, e4, e5, e6, e7] at e
  rw [e]
  clear e e2 e3 e4 e5 e6 e7
  obtain ⟨hs12, hbg, hF11⟩ := hrel
  clear F10
  obtain ⟨w13, rfl⟩ : ∃ x_ : World, x_ = wr := ⟨_, rfl⟩
  refine hk0_ _ _ ?_
  clear hk0_
  go_wp2_with fail
  refine (newSeed_c 0 w.heap.size _ zs _ (hF11.s 2 rfl)).mono ?_
  rintro e w16 ⟨sb, rfl, hsb, hsbs, hg14⟩
  have hsbl := hsbs.lt
  have hg14s := hg14.size
  (try simp at hg14s)
  have F17 := hF11.add (rseed sb) hg14 (hsbs) (fun g e => by cases e; exact ⟨hsb, hsbs.lt⟩)
  clear hF11
  clear hg14
  go_wp2_with fail
  refine (frostOf_c sb _ (F17.e 0 rfl)).mono ?_
  rintro e w20 ⟨l, vl, lo_l, hi_l, rfl, hxl, hyl, hzl, hfl, hs19, hg18⟩
  obtain ⟨sal, scl, rfl⟩ := hzl.any
  have HFl := lhd hfl
  clear hfl
  have hml := hzl.len
  unfold maxLen at hml
  have hg18s := hg18.size
  (try simp at hg18s)
  replace F17 := F17.seedAdd (rsl covEnc 3 lo_l hi_l (.slice sal l.cov.length scl) l.cov) hg18 hs19 (hzl) (fun g e => ⟨Nat.le_trans hxl e.1, Nat.lt_of_lt_of_le e.2 hyl⟩)
  clear hg18
  go_wp2_with fail
  refine (iceOf_c sb _ (F17.e 1 rfl)).mono ?_
  rintro e w24 ⟨ic, rfl, ⟨hic, hicm⟩, hs23, hg22⟩
  have hicb := iceB hic
  have hg22s := hg22.size
  (try simp at hg22s)
  replace F17 := F17.seedAt 1 rfl hg22 hs23
  clear hg22
  go_wp2_with fail
  refine (yes_c sb 2 _ (F17.e 1 rfl) (by omega) (by omega)).mono ?_
  rintro e w29 ⟨yb26, rfl, hs28, hg27⟩
  have hg27s := hg27.size
  (try simp at hg27s)
  replace F17 := F17.seedAt 1 rfl hg27 hs28
  clear hg27
  go_wp2_with fail
  refine (daysOf_s sb 6 yb26 _ ((F17.front 1 rfl rfl).at 0 rfl : SeedAt _ sb) (by omega)).mono ?_
  rintro e w33 ⟨dl, da_dl, dc_dl, ld_dl, hd_dl, rfl, ⟨hdxdl, hdydl, hdcdl⟩, hdzdl, hdndl, hdvdl, hs32, hg31⟩
  have HDdl := lhd hdvdl
  clear hdvdl
  have hg31s := hg31.size
  (try simp at hg31s)
  have F34 := (F17.front 1 rfl rfl).seedAdd (rsl weaEnc 6 ld_dl hd_dl (.slice da_dl dl.length dc_dl) dl) hg31 hs32 (hdzdl) (fun g e => ⟨Nat.le_trans hdxdl e.1, Nat.lt_of_lt_of_le e.2 hdydl⟩)
  clear F17
  clear hg31
  go_wp2_with fail
  replace F34 := F34.new 26 (froC l (.slice sal l.cov.length scl)) (n := w33.heap.size) (by simp)
  replace F34 := F34.new 28 (iceC ic) (n := (w33.heap.size + 1)) (by simp)
  have Fn_ := F34
  (try dsimp only [lpF, lpG] at Fn_)
  obtain ⟨w41, hx42, F44, hxs43⟩ := Fn_.name
  (try simp at hxs43)
  rw [hx42]
  clear hx42 F34 Fn_
  replace F44 := F44.drew
  refine ru_begin (fun W => C8 W w.heap.size (.int .i64 l0.gr) (.int .i64 l0.la) (.slice sa0 l0.cov.length sc0) (.int .i64 l0.melt.lo) (.int .i64 l0.melt.hi) (.int .i64 l0.soak) (.int .i64 l0.white.lo) (.int .i64 l0.white.hi) /\ C8 W w33.heap.size (.int .i64 l.gr) (.int .i64 l.la) (.slice sal l.cov.length scl) (.int .i64 l.melt.lo) (.int .i64 l.melt.hi) (.int .i64 l.soak) (.int .i64 l.white.lo) (.int .i64 l.white.hi) /\ C8 W (w.heap.size + 1) (.int .i64 x0.bl.lo) (.int .i64 x0.bl.hi) (.int .i64 x0.wh.lo) (.int .i64 x0.wh.hi) (.int .i64 x0.we.lo) (.int .i64 x0.we.hi) (.int .i64 x0.sn.lo) (.int .i64 x0.sn.hi) /\ C8 W (w33.heap.size + 1) (.int .i64 ic.bl.lo) (.int .i64 ic.bl.hi) (.int .i64 ic.wh.lo) (.int .i64 ic.wh.hi) (.int .i64 ic.we.lo) (.int .i64 ic.we.hi) (.int .i64 ic.sn.lo) (.int .i64 ic.sn.hi)) 31 (by kernel_rfl) ?_ ?_
  · exact ⟨F44.c8 6, F44.c8 1, F44.c8 5, F44.c8 0⟩
  obtain ⟨wd47, hwd_⟩ : ∃ x : World, w41.drew = x := ⟨_, rfl⟩
  rw [hwd_] at F44 ⊢
  have wd47s : w41.heap.size <= wd47.heap.size := by rw [← hwd_]; exact Nat.le_refl _
  clear hwd_
  have hS46 := (And.intro (F44.c8 6) (And.intro (F44.c8 1) (And.intro (F44.c8 5) (F44.c8 0))))
  refine ru_t 0 [] ?_
  refine ru_t 1 [] ?_
  refine ru_t 2 [] ?_
  refine ru_t 4 [] ?_
  refine ru_t 5 [] ?_
  refine ru_t 6 [] ?_
  refine ru_t 8 [] ?_
  refine ru_t 9 [] ?_
  refine ru_t 10 [] ?_
  refine ru_t 12 [] ?_
  refine ru_t 13 [] ?_
  refine ru_t 14 [] ?_
  refine ru_t 15 [] ?_
  refine ru_t 16 [] ?_
  refine ru_t 20 [] ?_
  refine ru_t 22 [] ?_
  refine ru_t 23 [] ?_
  refine ru_t 25 [] ?_
  (try simp only [lpX])
  clear hS46
  have hSS := ru_hS F44 (S := fun W => C8 W w.heap.size (.int .i64 l0.gr) (.int .i64 l0.la) (.slice sa0 l0.cov.length sc0) (.int .i64 l0.melt.lo) (.int .i64 l0.melt.hi) (.int .i64 l0.soak) (.int .i64 l0.white.lo) (.int .i64 l0.white.hi) /\ C8 W w33.heap.size (.int .i64 l.gr) (.int .i64 l.la) (.slice sal l.cov.length scl) (.int .i64 l.melt.lo) (.int .i64 l.melt.hi) (.int .i64 l.soak) (.int .i64 l.white.lo) (.int .i64 l.white.hi) /\ C8 W (w.heap.size + 1) (.int .i64 x0.bl.lo) (.int .i64 x0.bl.hi) (.int .i64 x0.wh.lo) (.int .i64 x0.wh.hi) (.int .i64 x0.we.lo) (.int .i64 x0.we.hi) (.int .i64 x0.sn.lo) (.int .i64 x0.sn.hi) /\ C8 W (w33.heap.size + 1) (.int .i64 ic.bl.lo) (.int .i64 ic.bl.hi) (.int .i64 ic.wh.lo) (.int .i64 ic.wh.hi) (.int .i64 ic.we.lo) (.int .i64 ic.we.hi) (.int .i64 ic.sn.lo) (.int .i64 ic.sn.hi)) (fun _ _ F_ => ⟨F_.c8 6, F_.c8 1, F_.c8 5, F_.c8 0⟩)
  refine ru_mixN 170 [⟨3, 63, 26, fun t => #[.int .i64 l0.gr, .int .i64 l0.la, .slice sa0 l0.cov.length sc0, .int .i64 l0.melt.lo, .int .i64 l0.melt.hi, .int .i64 l0.soak, .int .i64 l0.white.lo, .int .i64 l0.white.hi, .int .i64 l.gr, .int .i64 l.la, .slice sal l.cov.length scl, .int .i64 l.melt.lo, .int .i64 l.melt.hi, .int .i64 l.soak, .int .i64 l.white.lo, .int .i64 l.white.hi, .int .i64 l.gr, .int .i64 l.la, .slice sal l.cov.length scl, .int .i64 l.melt.lo, .int .i64 l.melt.hi, .int .i64 l.soak, .int .i64 l.white.lo, .int .i64 l.white.hi], fun g => .slice (some ⟨g, 0, none⟩) 3 3, fun t => t 60 = .agg (froC l0 (.slice sa0 l0.cov.length sc0)) /\ t 61 = .agg (froC l (.slice sal l.cov.length scl)) /\ t 62 = .agg (froC l (.slice sal l.cov.length scl))⟩, ⟨7, 67, 28, fun t => #[.int .i64 x0.bl.lo, .int .i64 x0.bl.hi, .int .i64 x0.wh.lo, .int .i64 x0.wh.hi, .int .i64 x0.we.lo, .int .i64 x0.we.hi, .int .i64 x0.sn.lo, .int .i64 x0.sn.hi, .int .i64 ic.bl.lo, .int .i64 ic.bl.hi, .int .i64 ic.wh.lo, .int .i64 ic.wh.hi, .int .i64 ic.we.lo, .int .i64 ic.we.hi, .int .i64 ic.sn.lo, .int .i64 ic.sn.hi, .int .i64 ic.bl.lo, .int .i64 ic.bl.hi, .int .i64 ic.wh.lo, .int .i64 ic.wh.hi, .int .i64 ic.we.lo, .int .i64 ic.we.hi, .int .i64 ic.sn.lo, .int .i64 ic.sn.hi], fun g => .slice (some ⟨g, 0, none⟩) 3 3, fun t => t 64 = .agg (iceC x0) /\ t 65 = .agg (iceC ic) /\ t 66 = .agg (iceC ic)⟩, ⟨11, 71, 29, fun t => #[.slice da0 d0.length dc0, .slice da_dl dl.length dc_dl, .slice da0 d0.length dc0], fun g => .slice (some ⟨g, 0, none⟩) 3 3, fun t => t 68 = .slice da0 d0.length dc0 /\ t 69 = .slice da_dl dl.length dc_dl /\ t 70 = .slice da0 d0.length dc0⟩, ⟨21, 81, 3, fun t => #[.int .i64 need, t 79, .int .i64 need], fun g => .slice (some ⟨g, 0, none⟩) 3 3, fun t => ∃ (r49 : Int), t 72 = .int .i64 need /\ t 79 = .int .i64 (min 5000 (ic.bl.lo + r49)) /\ t 80 = .int .i64 need⟩, ⟨26, 86, 3, fun t => #[.int .i64 most, t 84, .int .i64 most], fun g => .slice (some ⟨g, 0, none⟩) 3 3, fun t => ∃ (r52 : Int), t 82 = .int .i64 most /\ t 84 = .int .i64 r52 /\ t 85 = .int .i64 most⟩] [⟨27, 17, 3, 63⟩, ⟨28, 18, 7, 67⟩, ⟨29, 19, 11, 71⟩, ⟨30, 20, 21, 81⟩, ⟨31, 21, 26, 86⟩] [17, 18, 19, 24] F44 (by kernel_rfl) (by kernel_rfl) (by kernel_rfl) (fun _ _ _ _ _ h => h) (U0 := (fun t => t 60 = .agg (froC l0 (.slice sa0 l0.cov.length sc0)) /\ t 61 = .agg (froC l (.slice sal l.cov.length scl)) /\ t 62 = .agg (froC l (.slice sal l.cov.length scl)) /\ t 64 = .agg (iceC x0) /\ t 65 = .agg (iceC ic) /\ t 66 = .agg (iceC ic) /\ t 68 = .slice da0 d0.length dc0 /\ t 69 = .slice da_dl dl.length dc_dl /\ t 70 = .slice da0 d0.length dc0 /\ t 72 = .int .i64 need /\ t 75 = .int .i64 ic.bl.lo /\ t 76 = .pointer (some ⟨sb, 0, none⟩) /\ t 80 = .int .i64 need /\ t 82 = .int .i64 most /\ t 83 = .pointer (some ⟨sb, 0, none⟩) /\ t 85 = .int .i64 most)) (Um := (fun t => ∃ (r49 : Int) (r52 : Int), (0 <= r49 /\ (r49 < 60 ∨ r49 = 0)) /\ (0 <= r52 /\ (r52 < 60 ∨ r52 = 0)) /\ t 60 = .agg (froC l0 (.slice sa0 l0.cov.length sc0)) /\ t 61 = .agg (froC l (.slice sal l.cov.length scl)) /\ t 62 = .agg (froC l (.slice sal l.cov.length scl)) /\ t 64 = .agg (iceC x0) /\ t 65 = .agg (iceC ic) /\ t 66 = .agg (iceC ic) /\ t 68 = .slice da0 d0.length dc0 /\ t 69 = .slice da_dl dl.length dc_dl /\ t 70 = .slice da0 d0.length dc0 /\ t 72 = .int .i64 need /\ t 79 = .int .i64 (min 5000 (ic.bl.lo + r49)) /\ t 80 = .int .i64 need /\ t 82 = .int .i64 most /\ t 84 = .int .i64 r52 /\ t 85 = .int .i64 most)) ?chM48 ?alM48 ?mvM48 (lfm ⟨lfm ⟨fun _ _ => rfl, lfm ⟨fun _ _ => rfl, lfm ⟨fun _ _ => rfl, lfm ⟨fun _ _ => rfl, lfm ⟨fun _ _ => rfl, lfm ⟨fun _ _ => rfl, lfm ⟨fun _ _ => rfl, lfm ⟨fun _ _ => rfl, lfm ⟨fun _ _ => rfl, lfm ⟨fun _ _ => rfl, fun _ h => (by cases h)⟩⟩⟩⟩⟩⟩⟩⟩⟩⟩, lfm ⟨lfm ⟨fun _ _ => rfl, lfm ⟨fun _ _ => rfl, lfm ⟨fun _ _ => rfl, lfm ⟨fun _ _ => rfl, lfm ⟨fun _ _ => rfl, lfm ⟨fun _ _ => rfl, lfm ⟨fun _ _ => rfl, lfm ⟨fun _ _ => rfl, lfm ⟨fun _ _ => rfl, lfm ⟨fun _ _ => rfl, fun _ h => (by cases h)⟩⟩⟩⟩⟩⟩⟩⟩⟩⟩, lfm ⟨lfm ⟨fun _ _ => rfl, lfm ⟨fun _ _ => rfl, lfm ⟨fun _ _ => rfl, lfm ⟨fun _ _ => rfl, lfm ⟨fun _ _ => rfl, lfm ⟨fun _ _ => rfl, lfm ⟨fun _ _ => rfl, lfm ⟨fun _ _ => rfl, lfm ⟨fun _ _ => rfl, lfm ⟨fun _ _ => rfl, fun _ h => (by cases h)⟩⟩⟩⟩⟩⟩⟩⟩⟩⟩, lfm ⟨lfm ⟨fun _ _ => rfl, lfm ⟨fun _ _ => rfl, lfm ⟨fun _ _ => rfl, lfm ⟨fun _ _ => rfl, lfm ⟨fun _ _ => rfl, lfm ⟨fun _ _ => rfl, lfm ⟨fun _ _ => rfl, lfm ⟨fun _ _ => rfl, lfm ⟨fun _ _ => rfl, lfm ⟨fun _ _ => rfl, fun _ h => (by cases h)⟩⟩⟩⟩⟩⟩⟩⟩⟩⟩, lfm ⟨lfm ⟨fun _ _ => rfl, lfm ⟨fun _ _ => rfl, lfm ⟨fun _ _ => rfl, lfm ⟨fun _ _ => rfl, lfm ⟨fun _ _ => rfl, lfm ⟨fun _ _ => rfl, lfm ⟨fun _ _ => rfl, lfm ⟨fun _ _ => rfl, lfm ⟨fun _ _ => rfl, lfm ⟨fun _ _ => rfl, fun _ h => (by cases h)⟩⟩⟩⟩⟩⟩⟩⟩⟩⟩, fun _ h => (by cases h)⟩⟩⟩⟩⟩) ⟨(by kernel_rfl), rfl, ⟨(by kernel_rfl), (by kernel_rfl), (by kernel_rfl), (by kernel_rfl), (by kernel_rfl), (by kernel_rfl), (by kernel_rfl), (by kernel_rfl), (by kernel_rfl), (by kernel_rfl), (by kernel_rfl), (by kernel_rfl), (by kernel_rfl), (by kernel_rfl), (by kernel_rfl), (by kernel_rfl)⟩⟩ ?restM48
  case chM48 =>
   refine ChainL.callS 17 (fun t => ∃ (r49 : Int), (0 <= r49 /\ (r49 < 60 ∨ r49 = 0)) /\ t 60 = .agg (froC l0 (.slice sa0 l0.cov.length sc0)) /\ t 61 = .agg (froC l (.slice sal l.cov.length scl)) /\ t 62 = .agg (froC l (.slice sal l.cov.length scl)) /\ t 64 = .agg (iceC x0) /\ t 65 = .agg (iceC ic) /\ t 66 = .agg (iceC ic) /\ t 68 = .slice da0 d0.length dc0 /\ t 69 = .slice da_dl dl.length dc_dl /\ t 70 = .slice da0 d0.length dc0 /\ t 72 = .int .i64 need /\ t 75 = .int .i64 ic.bl.lo /\ t 77 = .int .i64 r49 /\ t 80 = .int .i64 need /\ t 82 = .int .i64 most /\ t 83 = .pointer (some ⟨sb, 0, none⟩) /\ t 85 = .int .i64 most) (lfm ⟨fun _ _ u => u, lfm ⟨fun _ _ u => u, lfm ⟨fun _ _ u => u, lfm ⟨fun _ _ u => u, lfm ⟨fun _ _ u => u, lfm ⟨fun _ _ u => u, lfm ⟨fun _ _ u => u, lfm ⟨fun _ _ u => u, lfm ⟨fun _ _ u => u, lfm ⟨fun _ _ u => u, fun _ h => (by cases h)⟩⟩⟩⟩⟩⟩⟩⟩⟩⟩) hSS (lfm ⟨fun _ t ⟨e60, e61, e62, e64, e65, e66, e68, e69, e70, e72, e75, e76, e80, e82, e83, e85⟩ => ⟨e60, e61, e62⟩, lfm ⟨fun _ t ⟨e60, e61, e62, e64, e65, e66, e68, e69, e70, e72, e75, e76, e80, e82, e83, e85⟩ => ⟨e64, e65, e66⟩, lfm ⟨fun _ t ⟨e60, e61, e62, e64, e65, e66, e68, e69, e70, e72, e75, e76, e80, e82, e83, e85⟩ => ⟨e68, e69, e70⟩, lfm ⟨fun h_ => no_dep (by kernel_rfl) h_, lfm ⟨fun h_ => no_dep (by kernel_rfl) h_, fun _ h => (by cases h)⟩⟩⟩⟩⟩) (by kernel_rfl) ?_ ?_
   ·
    rintro t w_ LA ⟨e60, e61, e62, e64, e65, e66, e68, e69, e70, e72, e75, e76, e80, e82, e83, e85⟩ ⟨F_, hwn_⟩
    have hws := F_.gb.size
    rw [rng_floods_walk t, e60, e61, e62, e64, e65, e66, e68, e69, e70, e72, e75, e76, e80, e82, e83, e85]
    clear e60 e61 e62 e64 e65 e66 e68 e69 e70 e72 e75 e76 e80 e82 e83 e85
    refine wpOp_stepH rfl (fun K hK => ?_)
    go_simp
    refine (below_c sb 60 _ (F_.e 3 rfl) (by omega) (by omega)).mono ?_
    rintro e w54 ⟨r49, rfl, hr50, hs56, hg55⟩
    unfold belowR at hr50
    exact hK.out _ _ ⟨(by kernel_rfl), rfl, ⟨r49, (by first | assumption | omega), by (iterate 15 refine ⟨by kernel_rfl, ?_⟩); exact (by kernel_rfl)⟩, lfm ⟨(by kernel_rfl), lfm ⟨(by kernel_rfl), lfm ⟨(by kernel_rfl), lfm ⟨(by kernel_rfl), lfm ⟨(by kernel_rfl), lfm ⟨(by kernel_rfl), lfm ⟨(by kernel_rfl), lfm ⟨(by kernel_rfl), lfm ⟨(by kernel_rfl), lfm ⟨(by kernel_rfl), fun _ h => (by cases h)⟩⟩⟩⟩⟩⟩⟩⟩⟩⟩, lfm ⟨fun _ => (by kernel_rfl), lfm ⟨fun _ => (by kernel_rfl), lfm ⟨fun _ => (by kernel_rfl), lfm ⟨fun h_ => no_dep (by kernel_rfl) h_, lfm ⟨fun h_ => no_dep (by kernel_rfl) h_, fun _ h => (by cases h)⟩⟩⟩⟩⟩, ⟨F_.seedAt 3 rfl hg55 hs56, Nat.le_trans hwn_ hg55.size⟩, hSS _ _ ⟨F_.seedAt 3 rfl hg55 hs56, Nat.le_trans hwn_ hg55.size⟩⟩
   refine ChainL.pureS 18 (fun t => ∃ (r49 : Int), (0 <= r49 /\ (r49 < 60 ∨ r49 = 0)) /\ t 60 = .agg (froC l0 (.slice sa0 l0.cov.length sc0)) /\ t 61 = .agg (froC l (.slice sal l.cov.length scl)) /\ t 62 = .agg (froC l (.slice sal l.cov.length scl)) /\ t 64 = .agg (iceC x0) /\ t 65 = .agg (iceC ic) /\ t 66 = .agg (iceC ic) /\ t 68 = .slice da0 d0.length dc0 /\ t 69 = .slice da_dl dl.length dc_dl /\ t 70 = .slice da0 d0.length dc0 /\ t 72 = .int .i64 need /\ t 78 = .int .i64 (ic.bl.lo + r49) /\ t 80 = .int .i64 need /\ t 82 = .int .i64 most /\ t 83 = .pointer (some ⟨sb, 0, none⟩) /\ t 85 = .int .i64 most) rfl (lfm ⟨fun _ _ u => u, lfm ⟨fun _ _ u => u, lfm ⟨fun _ _ u => u, lfm ⟨fun _ _ u => u, lfm ⟨fun _ _ u => u, lfm ⟨fun _ _ u => u, lfm ⟨fun _ _ u => u, lfm ⟨fun _ _ u => u, lfm ⟨fun _ _ u => u, lfm ⟨fun _ _ u => u, fun _ h => (by cases h)⟩⟩⟩⟩⟩⟩⟩⟩⟩⟩) hSS (lfm ⟨fun _ t ⟨r49, hr50, e60, e61, e62, e64, e65, e66, e68, e69, e70, e72, e75, e77, e80, e82, e83, e85⟩ => ⟨e60, e61, e62⟩, lfm ⟨fun _ t ⟨r49, hr50, e60, e61, e62, e64, e65, e66, e68, e69, e70, e72, e75, e77, e80, e82, e83, e85⟩ => ⟨e64, e65, e66⟩, lfm ⟨fun _ t ⟨r49, hr50, e60, e61, e62, e64, e65, e66, e68, e69, e70, e72, e75, e77, e80, e82, e83, e85⟩ => ⟨e68, e69, e70⟩, lfm ⟨fun h_ => no_dep (by kernel_rfl) h_, lfm ⟨fun h_ => no_dep (by kernel_rfl) h_, fun _ h => (by cases h)⟩⟩⟩⟩⟩) (by kernel_rfl) ?_ ?_
   ·
    rintro t ⟨r49, hr50, e60, e61, e62, e64, e65, e66, e68, e69, e70, e72, e75, e77, e80, e82, e83, e85⟩
    rw [rng_floods_walk t, e60, e61, e62, e64, e65, e66, e68, e69, e70, e72, e75, e77, e80, e82, e83, e85]
    clear e60 e61 e62 e64 e65 e66 e68 e69 e70 e72 e75 e77 e80 e82 e83 e85
    have hw51 : IntKind.i64.wrap (ic.bl.lo + r49) = ic.bl.lo + r49 := IntWalk.i64_in _ (by omega)
    refine ⟨.int .i64 (ic.bl.lo + r49), .inl ⟨by first | kernel_rfl | rfl, ?_⟩, ⟨(by kernel_rfl), rfl⟩, ⟨r49, (by first | assumption | omega), by (iterate 14 refine ⟨by kernel_rfl, ?_⟩); exact (by kernel_rfl)⟩, lfm ⟨(by kernel_rfl), lfm ⟨(by kernel_rfl), lfm ⟨(by kernel_rfl), lfm ⟨(by kernel_rfl), lfm ⟨(by kernel_rfl), lfm ⟨(by kernel_rfl), lfm ⟨(by kernel_rfl), lfm ⟨(by kernel_rfl), lfm ⟨(by kernel_rfl), lfm ⟨(by kernel_rfl), fun _ h => (by cases h)⟩⟩⟩⟩⟩⟩⟩⟩⟩⟩, lfm ⟨fun _ => (by kernel_rfl), lfm ⟨fun _ => (by kernel_rfl), lfm ⟨fun _ => (by kernel_rfl), lfm ⟨fun h_ => no_dep (by kernel_rfl) h_, lfm ⟨fun h_ => no_dep (by kernel_rfl) h_, fun _ h => (by cases h)⟩⟩⟩⟩⟩⟩
    intro wS _
    go_simp
    (try with_reducible rfl)
   refine ChainL.pureS 19 (fun t => ∃ (r49 : Int), (0 <= r49 /\ (r49 < 60 ∨ r49 = 0)) /\ t 60 = .agg (froC l0 (.slice sa0 l0.cov.length sc0)) /\ t 61 = .agg (froC l (.slice sal l.cov.length scl)) /\ t 62 = .agg (froC l (.slice sal l.cov.length scl)) /\ t 64 = .agg (iceC x0) /\ t 65 = .agg (iceC ic) /\ t 66 = .agg (iceC ic) /\ t 68 = .slice da0 d0.length dc0 /\ t 69 = .slice da_dl dl.length dc_dl /\ t 70 = .slice da0 d0.length dc0 /\ t 72 = .int .i64 need /\ t 79 = .int .i64 (min 5000 (ic.bl.lo + r49)) /\ t 80 = .int .i64 need /\ t 82 = .int .i64 most /\ t 83 = .pointer (some ⟨sb, 0, none⟩) /\ t 85 = .int .i64 most) rfl (lfm ⟨fun _ _ u => u, lfm ⟨fun _ _ u => u, lfm ⟨fun _ _ u => u, lfm ⟨fun _ _ u => u, lfm ⟨fun _ _ u => u, lfm ⟨fun _ _ u => u, lfm ⟨fun _ _ u => u, lfm ⟨fun _ _ u => u, lfm ⟨fun _ _ u => u, lfm ⟨fun _ _ u => u, fun _ h => (by cases h)⟩⟩⟩⟩⟩⟩⟩⟩⟩⟩) hSS (lfm ⟨fun _ t ⟨r49, hr50, e60, e61, e62, e64, e65, e66, e68, e69, e70, e72, e78, e80, e82, e83, e85⟩ => ⟨e60, e61, e62⟩, lfm ⟨fun _ t ⟨r49, hr50, e60, e61, e62, e64, e65, e66, e68, e69, e70, e72, e78, e80, e82, e83, e85⟩ => ⟨e64, e65, e66⟩, lfm ⟨fun _ t ⟨r49, hr50, e60, e61, e62, e64, e65, e66, e68, e69, e70, e72, e78, e80, e82, e83, e85⟩ => ⟨e68, e69, e70⟩, lfm ⟨fun h_ => no_dep (by kernel_rfl) h_, lfm ⟨fun h_ => no_dep (by kernel_rfl) h_, fun _ h => (by cases h)⟩⟩⟩⟩⟩) (by kernel_rfl) ?_ ?_
   ·
    rintro t ⟨r49, hr50, e60, e61, e62, e64, e65, e66, e68, e69, e70, e72, e78, e80, e82, e83, e85⟩
    rw [rng_floods_walk t, e60, e61, e62, e64, e65, e66, e68, e69, e70, e72, e78, e80, e82, e83, e85]
    clear e60 e61 e62 e64 e65 e66 e68 e69 e70 e72 e78 e80 e82 e83 e85
    refine ⟨.int .i64 (min 5000 (ic.bl.lo + r49)), .inl ⟨by first | kernel_rfl | rfl, ?_⟩, ⟨(by kernel_rfl), rfl⟩, ⟨r49, (by first | assumption | omega), by (iterate 14 refine ⟨by kernel_rfl, ?_⟩); exact (by kernel_rfl)⟩, lfm ⟨(by kernel_rfl), lfm ⟨(by kernel_rfl), lfm ⟨(by kernel_rfl), lfm ⟨(by kernel_rfl), lfm ⟨(by kernel_rfl), lfm ⟨(by kernel_rfl), lfm ⟨(by kernel_rfl), lfm ⟨(by kernel_rfl), lfm ⟨(by kernel_rfl), lfm ⟨(by kernel_rfl), fun _ h => (by cases h)⟩⟩⟩⟩⟩⟩⟩⟩⟩⟩, lfm ⟨fun _ => (by kernel_rfl), lfm ⟨fun _ => (by kernel_rfl), lfm ⟨fun _ => (by kernel_rfl), lfm ⟨fun h_ => no_dep (by kernel_rfl) h_, lfm ⟨fun h_ => no_dep (by kernel_rfl) h_, fun _ h => (by cases h)⟩⟩⟩⟩⟩⟩
    intro wS _
    go_simp
    (try with_reducible rfl)
   refine ChainL.callS 24 (fun t => ∃ (r49 : Int) (r52 : Int), (0 <= r49 /\ (r49 < 60 ∨ r49 = 0)) /\ (0 <= r52 /\ (r52 < 60 ∨ r52 = 0)) /\ t 60 = .agg (froC l0 (.slice sa0 l0.cov.length sc0)) /\ t 61 = .agg (froC l (.slice sal l.cov.length scl)) /\ t 62 = .agg (froC l (.slice sal l.cov.length scl)) /\ t 64 = .agg (iceC x0) /\ t 65 = .agg (iceC ic) /\ t 66 = .agg (iceC ic) /\ t 68 = .slice da0 d0.length dc0 /\ t 69 = .slice da_dl dl.length dc_dl /\ t 70 = .slice da0 d0.length dc0 /\ t 72 = .int .i64 need /\ t 79 = .int .i64 (min 5000 (ic.bl.lo + r49)) /\ t 80 = .int .i64 need /\ t 82 = .int .i64 most /\ t 84 = .int .i64 r52 /\ t 85 = .int .i64 most) (lfm ⟨fun _ _ u => u, lfm ⟨fun _ _ u => u, lfm ⟨fun _ _ u => u, lfm ⟨fun _ _ u => u, lfm ⟨fun _ _ u => u, lfm ⟨fun _ _ u => u, lfm ⟨fun _ _ u => u, lfm ⟨fun _ _ u => u, lfm ⟨fun _ _ u => u, lfm ⟨fun _ _ u => u, fun _ h => (by cases h)⟩⟩⟩⟩⟩⟩⟩⟩⟩⟩) hSS (lfm ⟨fun _ t ⟨r49, hr50, e60, e61, e62, e64, e65, e66, e68, e69, e70, e72, e79, e80, e82, e83, e85⟩ => ⟨e60, e61, e62⟩, lfm ⟨fun _ t ⟨r49, hr50, e60, e61, e62, e64, e65, e66, e68, e69, e70, e72, e79, e80, e82, e83, e85⟩ => ⟨e64, e65, e66⟩, lfm ⟨fun _ t ⟨r49, hr50, e60, e61, e62, e64, e65, e66, e68, e69, e70, e72, e79, e80, e82, e83, e85⟩ => ⟨e68, e69, e70⟩, lfm ⟨fun _ t ⟨r49, hr50, e60, e61, e62, e64, e65, e66, e68, e69, e70, e72, e79, e80, e82, e83, e85⟩ => ⟨r49, e72, e79, e80⟩, lfm ⟨fun h_ => no_dep (by kernel_rfl) h_, fun _ h => (by cases h)⟩⟩⟩⟩⟩) (by kernel_rfl) ?_ ?_
   ·
    rintro t w_ LA ⟨r49, hr50, e60, e61, e62, e64, e65, e66, e68, e69, e70, e72, e79, e80, e82, e83, e85⟩ ⟨F_, hwn_⟩
    have hws := F_.gb.size
    rw [rng_floods_walk t, e60, e61, e62, e64, e65, e66, e68, e69, e70, e72, e79, e80, e82, e83, e85]
    clear e60 e61 e62 e64 e65 e66 e68 e69 e70 e72 e80 e82 e83 e85
    refine wpOp_stepH rfl (fun K hK => ?_)
    go_simp
    refine (below_c sb 60 _ (F_.e 3 rfl) (by omega) (by omega)).mono ?_
    rintro e w57 ⟨r52, rfl, hr53, hs59, hg58⟩
    unfold belowR at hr53
    exact hK.out _ _ ⟨(by kernel_rfl), rfl, ⟨r49, r52, (by first | assumption | omega), (by first | assumption | omega), by (iterate 14 refine ⟨by kernel_rfl, ?_⟩); exact (by kernel_rfl)⟩, lfm ⟨(by kernel_rfl), lfm ⟨(by kernel_rfl), lfm ⟨(by kernel_rfl), lfm ⟨(by kernel_rfl), lfm ⟨(by kernel_rfl), lfm ⟨(by kernel_rfl), lfm ⟨(by kernel_rfl), lfm ⟨(by kernel_rfl), lfm ⟨(by kernel_rfl), lfm ⟨(by kernel_rfl), fun _ h => (by cases h)⟩⟩⟩⟩⟩⟩⟩⟩⟩⟩, lfm ⟨fun _ => (by kernel_rfl), lfm ⟨fun _ => (by kernel_rfl), lfm ⟨fun _ => (by kernel_rfl), lfm ⟨fun _ => Eq.trans (b := #[.int .i64 need, .int .i64 (min 5000 (ic.bl.lo + r49)), .int .i64 need]) (by kernel_rfl) (by show #[.int .i64 need, .int .i64 (min 5000 (ic.bl.lo + r49)), .int .i64 need] = #[.int .i64 need, t 79, .int .i64 need]; rw [e79]), lfm ⟨fun h_ => no_dep (by kernel_rfl) h_, fun _ h => (by cases h)⟩⟩⟩⟩⟩, ⟨F_.seedAt 3 rfl hg58 hs59, Nat.le_trans hwn_ hg58.size⟩, hSS _ _ ⟨F_.seedAt 3 rfl hg58 hs59, Nat.le_trans hwn_ hg58.size⟩⟩
   exact ChainL.nil _ _ _ (lfm ⟨fun _ _ u => u, lfm ⟨fun _ _ u => u, lfm ⟨fun _ _ u => u, lfm ⟨fun _ _ u => u, lfm ⟨fun _ _ u => u, lfm ⟨fun _ _ u => u, lfm ⟨fun _ _ u => u, lfm ⟨fun _ _ u => u, lfm ⟨fun _ _ u => u, lfm ⟨fun _ _ u => u, fun _ h => (by cases h)⟩⟩⟩⟩⟩⟩⟩⟩⟩⟩) hSS (lfm ⟨fun _ t ⟨r49, r52, hr50, hr53, e60, e61, e62, e64, e65, e66, e68, e69, e70, e72, e79, e80, e82, e84, e85⟩ => ⟨e60, e61, e62⟩, lfm ⟨fun _ t ⟨r49, r52, hr50, hr53, e60, e61, e62, e64, e65, e66, e68, e69, e70, e72, e79, e80, e82, e84, e85⟩ => ⟨e64, e65, e66⟩, lfm ⟨fun _ t ⟨r49, r52, hr50, hr53, e60, e61, e62, e64, e65, e66, e68, e69, e70, e72, e79, e80, e82, e84, e85⟩ => ⟨e68, e69, e70⟩, lfm ⟨fun _ t ⟨r49, r52, hr50, hr53, e60, e61, e62, e64, e65, e66, e68, e69, e70, e72, e79, e80, e82, e84, e85⟩ => ⟨r49, e72, e79, e80⟩, lfm ⟨fun _ t ⟨r49, r52, hr50, hr53, e60, e61, e62, e64, e65, e66, e68, e69, e70, e72, e79, e80, e82, e84, e85⟩ => ⟨r52, e82, e84, e85⟩, fun _ h => (by cases h)⟩⟩⟩⟩⟩)
  case alM48 =>
   refine lfm ⟨fun t w K hv h => ?_, ?_⟩
   · obtain ⟨e60, e61, e62⟩ := hv; (try dsimp only at h); rw [rng_floods_walk t, e60, e61, e62] at h ⊢; exact wpOp_step rfl (fun K hK => by go_simp; exact hK _ _ h)
   refine lfm ⟨fun t w K hv h => ?_, ?_⟩
   · obtain ⟨e64, e65, e66⟩ := hv; (try dsimp only at h); rw [rng_floods_walk t, e64, e65, e66] at h ⊢; exact wpOp_step rfl (fun K hK => by go_simp; exact hK _ _ h)
   refine lfm ⟨fun t w K hv h => ?_, ?_⟩
   · obtain ⟨e68, e69, e70⟩ := hv; (try dsimp only at h); rw [rng_floods_walk t, e68, e69, e70] at h ⊢; exact wpOp_step rfl (fun K hK => by go_simp; exact hK _ _ h)
   refine lfm ⟨fun t w K hv h => ?_, ?_⟩
   · obtain ⟨r49, e72, e79, e80⟩ := hv; (try dsimp only at h); rw [rng_floods_walk t, e72, e79, e80] at h ⊢; exact wpOp_step rfl (fun K hK => by go_simp; exact hK _ _ h)
   refine lfm ⟨fun t w K hv h => ?_, ?_⟩
   · obtain ⟨r52, e82, e84, e85⟩ := hv; (try dsimp only at h); rw [rng_floods_walk t, e82, e84, e85] at h ⊢; exact wpOp_step rfl (fun K hK => by go_simp; exact hK _ _ h)
   exact fun _ h => (by cases h)
  case mvM48 => exact lfm ⟨⟨_, rfl, fun t => .inl ⟨by first | kernel_rfl | rfl, fun w_ _ => by rw [rng_floods_walk t]; go_simp; (try with_reducible rfl)⟩⟩, lfm ⟨⟨_, rfl, fun t => .inl ⟨by first | kernel_rfl | rfl, fun w_ _ => by rw [rng_floods_walk t]; go_simp; (try with_reducible rfl)⟩⟩, lfm ⟨⟨_, rfl, fun t => .inl ⟨by first | kernel_rfl | rfl, fun w_ _ => by rw [rng_floods_walk t]; go_simp; (try with_reducible rfl)⟩⟩, lfm ⟨⟨_, rfl, fun t => .inl ⟨by first | kernel_rfl | rfl, fun w_ _ => by rw [rng_floods_walk t]; go_simp; (try with_reducible rfl)⟩⟩, lfm ⟨⟨_, rfl, fun t => .inl ⟨by first | kernel_rfl | rfl, fun w_ _ => by rw [rng_floods_walk t]; go_simp; (try with_reducible rfl)⟩⟩, fun _ h => (by cases h)⟩⟩⟩⟩⟩
  case restM48 =>
   rintro t w65 g ⟨r49, r52, hr50, hr53, e60, e61, e62, e64, e65, e66, e68, e69, e70, e72, e79, e80, e82, e84, e85⟩ hA hB ⟨F_, hwnM48⟩
   clear hSS
   clear F44
   have hA0_0 : t 63 = .slice (some ⟨g 3, 0, none⟩) 3 3 := hA _ (.head _)
   have hA0_1 : t 17 = .slice (some ⟨g 3, 0, none⟩) 3 3 := hB _ (.head _) _ (.head _) rfl
   have hA1_0 : t 67 = .slice (some ⟨g 7, 0, none⟩) 3 3 := hA _ (.tail _ (.head _))
   have hA1_1 : t 18 = .slice (some ⟨g 7, 0, none⟩) 3 3 := hB _ (.tail _ (.head _)) _ (.tail _ (.head _)) rfl
   have hA2_0 : t 71 = .slice (some ⟨g 11, 0, none⟩) 3 3 := hA _ (.tail _ (.tail _ (.head _)))
   have hA2_1 : t 19 = .slice (some ⟨g 11, 0, none⟩) 3 3 := hB _ (.tail _ (.tail _ (.head _))) _ (.tail _ (.tail _ (.head _))) rfl
   have hA3_0 : t 81 = .slice (some ⟨g 21, 0, none⟩) 3 3 := hA _ (.tail _ (.tail _ (.tail _ (.head _))))
   have hA3_1 : t 20 = .slice (some ⟨g 21, 0, none⟩) 3 3 := hB _ (.tail _ (.tail _ (.tail _ (.head _)))) _ (.tail _ (.tail _ (.tail _ (.head _)))) rfl
   have hA4_0 : t 86 = .slice (some ⟨g 26, 0, none⟩) 3 3 := hA _ (.tail _ (.tail _ (.tail _ (.tail _ (.head _)))))
   have hA4_1 : t 21 = .slice (some ⟨g 26, 0, none⟩) 3 3 := hB _ (.tail _ (.tail _ (.tail _ (.tail _ (.head _))))) _ (.tail _ (.tail _ (.tail _ (.tail _ (.head _))))) rfl
   (try simp only [List.map_cons, List.map_nil, List.cons_append, List.nil_append] at F_)
   simp only [e79, e84] at F_
   have F66 := F_
   clear hA hB F_
   obtain ⟨g60, hgx_⟩ : ∃ x_, g 3 = x_ := ⟨_, rfl⟩
   rw [hgx_] at hA0_0 hA0_1 F66; clear hgx_
   obtain ⟨g61, hgx_⟩ : ∃ x_, g 7 = x_ := ⟨_, rfl⟩
   rw [hgx_] at hA1_0 hA1_1 F66; clear hgx_
   obtain ⟨g62, hgx_⟩ : ∃ x_, g 11 = x_ := ⟨_, rfl⟩
   rw [hgx_] at hA2_0 hA2_1 F66; clear hgx_
   obtain ⟨g63, hgx_⟩ : ∃ x_, g 21 = x_ := ⟨_, rfl⟩
   rw [hgx_] at hA3_0 hA3_1 F66; clear hgx_
   obtain ⟨g64, hgx_⟩ : ∃ x_, g 26 = x_ := ⟨_, rfl⟩
   rw [hgx_] at hA4_0 hA4_1 F66; clear hgx_
   have hws := F66.gb.size
   have g60l := (F66.b 0 rfl).lt
   have g61l := (F66.b 1 rfl).lt
   have g62l := (F66.b 2 rfl).lt
   have g63l := (F66.b 3 rfl).lt
   have g64l := (F66.b 4 rfl).lt
   rw [rng_floods_walk t, e60, e61, e62, e64, e65, e66, e68, e69, e70, e72, e79, e80, e82, e84, e85, hA0_0, hA0_1, hA1_0, hA1_1, hA2_0, hA2_1, hA3_0, hA3_1, hA4_0, hA4_1]
   clear e60 e61 e62 e64 e65 e66 e68 e69 e70 e72 e79 e80 e82 e84 e85 hA0_0 hA0_1 hA1_0 hA1_1 hA2_0 hA2_1 hA3_0 hA3_1 hA4_0 hA4_1
   have Fn_ := ((((F66.drop 5 rfl).drop 5 rfl).drop 8 rfl).drop 8 rfl)
   (try dsimp only [lpF, lpG] at Fn_)
   obtain ⟨w67, hx68, F70, hxs69⟩ := Fn_.name
   (try simp at hxs69)
   rw [hx68]
   clear hx68 F66 Fn_
   go_wp2_with fail
   refine wp_loop_rounds 4 ?_
   rw [rounds_succ]
   have b72 := F70.bx3 2 rfl
   go_wp2_with (at_builtin; refine wpList_copyB okWea rfl _ _ rfl w.heap.size w67.heap.size rfl (F70.new 77 #[] (n := w67.heap.size) (by simp)) (by first | omega | (simp; omega)) 0 w.heap.size (.slice da0 d0.length dc0) d0 rfl ((F70.new 77 #[] (n := w67.heap.size) (by simp)).at 10 rfl) (by omega) ?_; intro vc73 w74 hB75 hs76; refine Hid.out ?_)
   refine lhd ?_
   (try simp at hs76)
   clear b72
   have F77 := hB75
   clear F70
   obtain ⟨ca78, cap79, e_⟩ := (Own.sl (F77.o 0 rfl) (fun _ => rfl)).any
   subst e_
   go_wp2_with fail
   replace F77 := F77.drew
   refine ru_begin (fun W => C8 W g60 (.int .i64 l0.gr) (.int .i64 l0.la) (.slice sa0 l0.cov.length sc0) (.int .i64 l0.melt.lo) (.int .i64 l0.melt.hi) (.int .i64 l0.soak) (.int .i64 l0.white.lo) (.int .i64 l0.white.hi) /\ C8 W g61 (.int .i64 x0.bl.lo) (.int .i64 x0.bl.hi) (.int .i64 x0.wh.lo) (.int .i64 x0.wh.hi) (.int .i64 x0.we.lo) (.int .i64 x0.we.hi) (.int .i64 x0.sn.lo) (.int .i64 x0.sn.hi) /\ W.cell? ⟨g63, 0, none⟩ = some (.int .i64 need) /\ W.cell? ⟨g64, 0, none⟩ = some (.int .i64 most)) 24 (by kernel_rfl) ?_ ?_
   · exact ⟨F77.c8 1, F77.c8 2, F77.q 4 0, F77.q 5 0⟩
   obtain ⟨wd84, hwd_⟩ : ∃ x : World, w74.drew = x := ⟨_, rfl⟩
   rw [hwd_] at F77 ⊢
   have wd84s : w74.heap.size <= wd84.heap.size := by rw [← hwd_]; exact Nat.le_refl _
   clear hwd_
   have hS83 := (And.intro (F77.c8 1) (And.intro (F77.c8 2) (And.intro (F77.q 4 0) (F77.q 5 0))))
   refine ru_t 0 [] ?_
   refine ru_t 1 [] ?_
   refine ru_t 2 [] ?_
   refine ru_t 3 [] ?_
   refine ru_t 4 [] ?_
   refine ru_t 5 [] ?_
   refine ru_t 6 [] ?_
   refine ru_t 7 [] ?_
   refine ru_t 8 [] ?_
   refine ru_t 9 [] ?_
   refine ru_t 10 [] ?_
   refine ru_t 11 [] ?_
   refine ru_t 12 [] ?_
   refine ru_t 13 [] ?_
   refine ru_t 14 [] ?_
   refine ru_t 15 [] ?_
   refine ru_t 16 [] ?_
   (try simp only [lpX])
   clear hS83
   refine ru_o 17 fun K hK => ?_
   go_simp
   refine (thicken_c _ _ _ l0 x0 _ _ _ d0 need most _ (F77.s 11 rfl) (by first | omega | (simp; omega)) (Own.sl (F77.o 0 rfl) (fun _ => rfl)) (Nat.le_refl _)).mono ?_
   rintro e w88 ⟨ta_g85, tc_g85, tl_g85, th_g85, rfl, ⟨⟨txg85, tyg85⟩, _⟩, tzg85, hg86⟩
   have hg86s := hg86.size
   (try simp at hg86s)
   replace F77 := F77.add (rsl intEnc 1 tl_g85 th_g85 (.slice ta_g85 (thkW l0 x0 d0 need most).length tc_g85) (thkW l0 x0 d0 need most)) hg86 (tzg85) (fun g e => ⟨Nat.le_trans txg85 e.1, Nat.lt_of_lt_of_le e.2 tyg85⟩)
   refine ru_back hK (by exact ⟨F77.c8 2, F77.c8 3, F77.q 5 0, F77.q 6 0⟩) (fun _ => ?_)
   clear hK K
   (try simp only [lpX])
   refine ru_p 18 ?_
   (try simp only [lpX])
   refine ru_p 19 ?_
   refine ru_p 20 ?_
   refine ru_p 21 ?_
   (try simp only [lpX])
   refine ru_p 22 ?_
   (try simp only [lpX])
   refine ru_p 23 ?_
   (try simp only [lpX])
   refine ru_o 24 fun K hK => ?_
   go_simp
   refine ru_back_late hK (by kernel_rfl) ?_
   clear hK K
   (try simp only [lpX])
   refine ru_done (by kernel_rfl) ?_
   have Fn_ := F77
   (try dsimp only [lpF, lpG] at Fn_)
   obtain ⟨w90, hx91, F93, hxs92⟩ := Fn_.name
   (try simp at hxs92)
   rw [hx91]
   clear hx91 F77 Fn_
   go_wp2_with fail
   replace F93 := F93.drew
   refine ru_begin (fun W => C8 W g60 (.int .i64 l0.gr) (.int .i64 l0.la) (.slice sa0 l0.cov.length sc0) (.int .i64 l0.melt.lo) (.int .i64 l0.melt.hi) (.int .i64 l0.soak) (.int .i64 l0.white.lo) (.int .i64 l0.white.hi) /\ C8 W g61 (.int .i64 x0.bl.lo) (.int .i64 x0.bl.hi) (.int .i64 x0.wh.lo) (.int .i64 x0.wh.hi) (.int .i64 x0.we.lo) (.int .i64 x0.we.hi) (.int .i64 x0.sn.lo) (.int .i64 x0.sn.hi) /\ W.cell? ⟨g62, 0, none⟩ = some (.slice da0 d0.length dc0) /\ W.cell? ⟨g63, 0, none⟩ = some (.int .i64 need) /\ W.cell? ⟨g64, 0, none⟩ = some (.int .i64 most)) 27 (by kernel_rfl) ?_ ?_
   · exact ⟨F93.c8 2, F93.c8 3, F93.q 4 0, F93.q 5 0, F93.q 6 0⟩
   obtain ⟨wd98, hwd_⟩ : ∃ x : World, w90.drew = x := ⟨_, rfl⟩
   rw [hwd_] at F93 ⊢
   have wd98s : w90.heap.size <= wd98.heap.size := by rw [← hwd_]; exact Nat.le_refl _
   clear hwd_
   have hS97 := (And.intro (F93.c8 2) (And.intro (F93.c8 3) (And.intro (F93.q 4 0) (And.intro (F93.q 5 0) (F93.q 6 0)))))
   refine ru_t 0 [] ?_
   refine ru_t 1 [] ?_
   refine ru_t 2 [] ?_
   refine ru_t 3 [] ?_
   refine ru_t 4 [] ?_
   refine ru_t 5 [] ?_
   refine ru_t 6 [] ?_
   refine ru_t 7 [] ?_
   refine ru_t 8 [] ?_
   refine ru_t 9 [] ?_
   refine ru_t 10 [] ?_
   refine ru_t 11 [] ?_
   refine ru_t 12 [] ?_
   refine ru_t 13 [] ?_
   refine ru_t 14 [] ?_
   refine ru_t 15 [] ?_
   refine ru_t 16 [] ?_
   refine ru_t 17 [] ?_
   refine ru_t 18 [] ?_
   refine ru_t 19 [] ?_
   (try simp only [lpX])
   clear hS97
   refine ru_o 20 fun K hK => ?_
   go_simp
   refine (rthicken_c _ _ _ l0 x0 _ _ _ d0 need most _ (F93.s 12 rfl) (by first | omega | (simp; omega)) (F93.s 11 rfl) (by first | omega | (simp; omega))).mono ?_
   rintro e w102 ⟨ta_g99, tc_g99, tl_g99, th_g99, rfl, ⟨⟨txg99, tyg99⟩, _⟩, tzg99, hg100⟩
   have hg100s := hg100.size
   (try simp at hg100s)
   replace F93 := F93.add (rsl intEnc 1 tl_g99 th_g99 (.slice ta_g99 (thkW l0 x0 d0 need most).length tc_g99) (thkW l0 x0 d0 need most)) hg100 (tzg99) (fun g e => ⟨Nat.le_trans txg99 e.1, Nat.lt_of_lt_of_le e.2 tyg99⟩)
   refine ru_back hK (by exact ⟨F93.c8 3, F93.c8 4, F93.q 5 0, F93.q 6 0, F93.q 7 0⟩) (fun _ => ?_)
   clear hK K
   (try simp only [lpX])
   refine ru_p 21 ?_
   (try simp only [lpX])
   refine ru_p 22 ?_
   refine ru_p 23 ?_
   refine ru_p 24 ?_
   (try simp only [lpX])
   refine ru_p 25 ?_
   (try simp only [lpX])
   refine ru_p 26 ?_
   (try simp only [lpX])
   refine ru_o 27 fun K hK => ?_
   go_simp
   refine ru_back_late hK (by kernel_rfl) ?_
   clear hK K
   (try simp only [lpX])
   refine ru_done (by kernel_rfl) ?_
   have Fn_ := F93
   (try dsimp only [lpF, lpG] at Fn_)
   obtain ⟨w104, hx105, F107, hxs106⟩ := Fn_.name
   (try simp at hxs106)
   rw [hx105]
   clear hx105 F93 Fn_
   go_wp2_with fail
   refine (same_t _ _ _ _ _ _ (thkW l0 x0 d0 need most) _ (F107.s 1 rfl) (F107.s 0 rfl)).mono ?_
   rintro e w110 ⟨rfl, hg108⟩
   have hg108s := hg108.size
   (try simp at hg108s)
   replace F107 := F107.gn hg108
   clear hg108
   have b112 := F107.bx3 5 rfl
   go_wp2_with fail
   clear b112
   refine (sameDays_c _ _ _ _ _ _ d0 _ (Own.sl (F107.o 2 rfl) (fun _ => rfl)) (Nat.le_refl _) (F107.s 12 rfl) (by first | omega | (simp; omega))).mono ?_
   rintro e w115 ⟨rfl, hg113⟩
   have hg113s := hg113.size
   (try simp at hg113s)
   replace F107 := F107.gn hg113
   clear hg113
   go_wp2_with fail
   rw [rounds_succ]
   have b118 := F107.bx3 5 rfl
   go_wp2_with (at_builtin; refine wpList_copyB okWea rfl _ _ rfl w.heap.size w115.heap.size rfl (F107.new 77 #[] (n := w115.heap.size) (by simp)) (by first | omega | (simp; omega)) ld_dl hd_dl (.slice da_dl dl.length dc_dl) dl rfl ((F107.new 77 #[] (n := w115.heap.size) (by simp)).at 9 rfl) (by omega) ?_; intro vc119 w120 hB121 hs122; refine Hid.out ?_)
   refine lhd ?_
   (try simp at hs122)
   clear b118
   have F123 := hB121
   clear F107
   obtain ⟨ca124, cap125, e_⟩ := (Own.sl (F123.o 0 rfl) (fun _ => rfl)).any
   subst e_
   go_wp2_with fail
   replace F123 := F123.drew
   refine ru_begin (fun W => E8 W g60 8 9 10 11 12 13 14 15 (.int .i64 l.gr) (.int .i64 l.la) (.slice sal l.cov.length scl) (.int .i64 l.melt.lo) (.int .i64 l.melt.hi) (.int .i64 l.soak) (.int .i64 l.white.lo) (.int .i64 l.white.hi) /\ E8 W g61 8 9 10 11 12 13 14 15 (.int .i64 ic.bl.lo) (.int .i64 ic.bl.hi) (.int .i64 ic.wh.lo) (.int .i64 ic.wh.hi) (.int .i64 ic.we.lo) (.int .i64 ic.we.hi) (.int .i64 ic.sn.lo) (.int .i64 ic.sn.hi) /\ W.cell? ⟨g63, 1, none⟩ = some (.int .i64 (min 5000 (ic.bl.lo + r49))) /\ W.cell? ⟨g64, 1, none⟩ = some (.int .i64 r52)) 24 (by kernel_rfl) ?_ ?_
   · exact ⟨F123.e8 4 8 9 10 11 12 13 14 15, F123.e8 5 8 9 10 11 12 13 14 15, F123.q 7 1, F123.q 8 1⟩
   obtain ⟨wd130, hwd_⟩ : ∃ x : World, w120.drew = x := ⟨_, rfl⟩
   rw [hwd_] at F123 ⊢
   have wd130s : w120.heap.size <= wd130.heap.size := by rw [← hwd_]; exact Nat.le_refl _
   clear hwd_
   have hS129 := (And.intro (F123.e8 4 8 9 10 11 12 13 14 15) (And.intro (F123.e8 5 8 9 10 11 12 13 14 15) (And.intro (F123.q 7 1) (F123.q 8 1))))
   refine ru_t 0 [] ?_
   refine ru_t 1 [] ?_
   refine ru_t 2 [] ?_
   refine ru_t 3 [] ?_
   refine ru_t 4 [] ?_
   refine ru_t 5 [] ?_
   refine ru_t 6 [] ?_
   refine ru_t 7 [] ?_
   refine ru_t 8 [] ?_
   refine ru_t 9 [] ?_
   refine ru_t 10 [] ?_
   refine ru_t 11 [] ?_
   refine ru_t 12 [] ?_
   refine ru_t 13 [] ?_
   refine ru_t 14 [] ?_
   refine ru_t 15 [] ?_
   refine ru_t 16 [] ?_
   (try simp only [lpX])
   clear hS129
   refine ru_o 17 fun K hK => ?_
   go_simp
   refine (thicken_c _ _ _ l ic _ _ _ dl (min 5000 (ic.bl.lo + r49)) r52 _ (F123.s 11 rfl) (by first | omega | (simp; omega)) (Own.sl (F123.o 0 rfl) (fun _ => rfl)) (Nat.le_refl _)).mono ?_
   rintro e w134 ⟨ta_g131, tc_g131, tl_g131, th_g131, rfl, ⟨⟨txg131, tyg131⟩, _⟩, tzg131, hg132⟩
   have hg132s := hg132.size
   (try simp at hg132s)
   replace F123 := F123.add (rsl intEnc 1 tl_g131 th_g131 (.slice ta_g131 (thkW l ic dl (min 5000 (ic.bl.lo + r49)) r52).length tc_g131) (thkW l ic dl (min 5000 (ic.bl.lo + r49)) r52)) hg132 (tzg131) (fun g e => ⟨Nat.le_trans txg131 e.1, Nat.lt_of_lt_of_le e.2 tyg131⟩)
   refine ru_back hK (by exact ⟨F123.e8 5 8 9 10 11 12 13 14 15, F123.e8 6 8 9 10 11 12 13 14 15, F123.q 8 1, F123.q 9 1⟩) (fun _ => ?_)
   clear hK K
   (try simp only [lpX])
   refine ru_p 18 ?_
   (try simp only [lpX])
   refine ru_p 19 ?_
   refine ru_p 20 ?_
   refine ru_p 21 ?_
   (try simp only [lpX])
   refine ru_p 22 ?_
   (try simp only [lpX])
   refine ru_p 23 ?_
   (try simp only [lpX])
   refine ru_o 24 fun K hK => ?_
   go_simp
   refine ru_back_late hK (by kernel_rfl) ?_
   clear hK K
   (try simp only [lpX])
   refine ru_done (by kernel_rfl) ?_
   have Fn_ := F123
   (try dsimp only [lpF, lpG] at Fn_)
   obtain ⟨w136, hx137, F139, hxs138⟩ := Fn_.name
   (try simp at hxs138)
   rw [hx137]
   clear hx137 F123 Fn_
   go_wp2_with fail
   replace F139 := F139.drew
   refine ru_begin (fun W => E8 W g60 8 9 10 11 12 13 14 15 (.int .i64 l.gr) (.int .i64 l.la) (.slice sal l.cov.length scl) (.int .i64 l.melt.lo) (.int .i64 l.melt.hi) (.int .i64 l.soak) (.int .i64 l.white.lo) (.int .i64 l.white.hi) /\ E8 W g61 8 9 10 11 12 13 14 15 (.int .i64 ic.bl.lo) (.int .i64 ic.bl.hi) (.int .i64 ic.wh.lo) (.int .i64 ic.wh.hi) (.int .i64 ic.we.lo) (.int .i64 ic.we.hi) (.int .i64 ic.sn.lo) (.int .i64 ic.sn.hi) /\ W.cell? ⟨g62, 1, none⟩ = some (.slice da_dl dl.length dc_dl) /\ W.cell? ⟨g63, 1, none⟩ = some (.int .i64 (min 5000 (ic.bl.lo + r49))) /\ W.cell? ⟨g64, 1, none⟩ = some (.int .i64 r52)) 27 (by kernel_rfl) ?_ ?_
   · exact ⟨F139.e8 5 8 9 10 11 12 13 14 15, F139.e8 6 8 9 10 11 12 13 14 15, F139.q 7 1, F139.q 8 1, F139.q 9 1⟩
   obtain ⟨wd144, hwd_⟩ : ∃ x : World, w136.drew = x := ⟨_, rfl⟩
   rw [hwd_] at F139 ⊢
   have wd144s : w136.heap.size <= wd144.heap.size := by rw [← hwd_]; exact Nat.le_refl _
   clear hwd_
   have hS143 := (And.intro (F139.e8 5 8 9 10 11 12 13 14 15) (And.intro (F139.e8 6 8 9 10 11 12 13 14 15) (And.intro (F139.q 7 1) (And.intro (F139.q 8 1) (F139.q 9 1)))))
   refine ru_t 0 [] ?_
   refine ru_t 1 [] ?_
   refine ru_t 2 [] ?_
   refine ru_t 3 [] ?_
   refine ru_t 4 [] ?_
   refine ru_t 5 [] ?_
   refine ru_t 6 [] ?_
   refine ru_t 7 [] ?_
   refine ru_t 8 [] ?_
   refine ru_t 9 [] ?_
   refine ru_t 10 [] ?_
   refine ru_t 11 [] ?_
   refine ru_t 12 [] ?_
   refine ru_t 13 [] ?_
   refine ru_t 14 [] ?_
   refine ru_t 15 [] ?_
   refine ru_t 16 [] ?_
   refine ru_t 17 [] ?_
   refine ru_t 18 [] ?_
   refine ru_t 19 [] ?_
   (try simp only [lpX])
   clear hS143
   refine ru_o 20 fun K hK => ?_
   go_simp
   refine (rthicken_c _ _ _ l ic _ _ _ dl (min 5000 (ic.bl.lo + r49)) r52 _ (F139.s 12 rfl) (by first | omega | (simp; omega)) (F139.s 10 rfl) (by first | omega | (simp; omega))).mono ?_
   rintro e w148 ⟨ta_g145, tc_g145, tl_g145, th_g145, rfl, ⟨⟨txg145, tyg145⟩, _⟩, tzg145, hg146⟩
   have hg146s := hg146.size
   (try simp at hg146s)
   replace F139 := F139.add (rsl intEnc 1 tl_g145 th_g145 (.slice ta_g145 (thkW l ic dl (min 5000 (ic.bl.lo + r49)) r52).length tc_g145) (thkW l ic dl (min 5000 (ic.bl.lo + r49)) r52)) hg146 (tzg145) (fun g e => ⟨Nat.le_trans txg145 e.1, Nat.lt_of_lt_of_le e.2 tyg145⟩)
   refine ru_back hK (by exact ⟨F139.e8 6 8 9 10 11 12 13 14 15, F139.e8 7 8 9 10 11 12 13 14 15, F139.q 8 1, F139.q 9 1, F139.q 10 1⟩) (fun _ => ?_)
   clear hK K
   (try simp only [lpX])
   refine ru_p 21 ?_
   (try simp only [lpX])
   refine ru_p 22 ?_
   refine ru_p 23 ?_
   refine ru_p 24 ?_
   (try simp only [lpX])
   refine ru_p 25 ?_
   (try simp only [lpX])
   refine ru_p 26 ?_
   (try simp only [lpX])
   refine ru_o 27 fun K hK => ?_
   go_simp
   refine ru_back_late hK (by kernel_rfl) ?_
   clear hK K
   (try simp only [lpX])
   refine ru_done (by kernel_rfl) ?_
   have Fn_ := F139
   (try dsimp only [lpF, lpG] at Fn_)
   obtain ⟨w150, hx151, F153, hxs152⟩ := Fn_.name
   (try simp at hxs152)
   rw [hx151]
   clear hx151 F139 Fn_
   go_wp2_with fail
   refine (same_t _ _ _ _ _ _ (thkW l ic dl (min 5000 (ic.bl.lo + r49)) r52) _ (F153.s 1 rfl) (F153.s 0 rfl)).mono ?_
   rintro e w156 ⟨rfl, hg154⟩
   have hg154s := hg154.size
   (try simp at hg154s)
   replace F153 := F153.gn hg154
   clear hg154
   have b158 := F153.bx3 8 rfl
   go_wp2_with fail
   clear b158
   refine (sameDays_c _ _ _ _ _ _ dl _ (Own.sl (F153.o 2 rfl) (fun _ => rfl)) (Nat.le_refl _) (F153.s 11 rfl) (by first | omega | (simp; omega))).mono ?_
   rintro e w161 ⟨rfl, hg159⟩
   have hg159s := hg159.size
   (try simp at hg159s)
   replace F153 := F153.gn hg159
   clear hg159
   go_wp2_with fail
   rw [rounds_succ]
   have b164 := F153.bx3 8 rfl
   go_wp2_with (at_builtin; refine wpList_copyB okWea rfl _ _ rfl w.heap.size w161.heap.size rfl (F153.new 77 #[] (n := w161.heap.size) (by simp)) (by first | omega | (simp; omega)) 0 w.heap.size (.slice da0 d0.length dc0) d0 rfl ((F153.new 77 #[] (n := w161.heap.size) (by simp)).at 16 rfl) (by omega) ?_; intro vc165 w166 hB167 hs168; refine Hid.out ?_)
   refine lhd ?_
   (try simp at hs168)
   clear b164
   have F169 := hB167
   clear F153
   obtain ⟨ca170, cap171, e_⟩ := (Own.sl (F169.o 0 rfl) (fun _ => rfl)).any
   subst e_
   go_wp2_with fail
   replace F169 := F169.drew
   refine ru_begin (fun W => E8 W g60 16 17 18 19 20 21 22 23 (.int .i64 l.gr) (.int .i64 l.la) (.slice sal l.cov.length scl) (.int .i64 l.melt.lo) (.int .i64 l.melt.hi) (.int .i64 l.soak) (.int .i64 l.white.lo) (.int .i64 l.white.hi) /\ E8 W g61 16 17 18 19 20 21 22 23 (.int .i64 ic.bl.lo) (.int .i64 ic.bl.hi) (.int .i64 ic.wh.lo) (.int .i64 ic.wh.hi) (.int .i64 ic.we.lo) (.int .i64 ic.we.hi) (.int .i64 ic.sn.lo) (.int .i64 ic.sn.hi) /\ W.cell? ⟨g63, 2, none⟩ = some (.int .i64 need) /\ W.cell? ⟨g64, 2, none⟩ = some (.int .i64 most)) 24 (by kernel_rfl) ?_ ?_
   · exact ⟨F169.e8 7 16 17 18 19 20 21 22 23, F169.e8 8 16 17 18 19 20 21 22 23, F169.q 10 2, F169.q 11 2⟩
   obtain ⟨wd176, hwd_⟩ : ∃ x : World, w166.drew = x := ⟨_, rfl⟩
   rw [hwd_] at F169 ⊢
   have wd176s : w166.heap.size <= wd176.heap.size := by rw [← hwd_]; exact Nat.le_refl _
   clear hwd_
   have hS175 := (And.intro (F169.e8 7 16 17 18 19 20 21 22 23) (And.intro (F169.e8 8 16 17 18 19 20 21 22 23) (And.intro (F169.q 10 2) (F169.q 11 2))))
   refine ru_t 0 [] ?_
   refine ru_t 1 [] ?_
   refine ru_t 2 [] ?_
   refine ru_t 3 [] ?_
   refine ru_t 4 [] ?_
   refine ru_t 5 [] ?_
   refine ru_t 6 [] ?_
   refine ru_t 7 [] ?_
   refine ru_t 8 [] ?_
   refine ru_t 9 [] ?_
   refine ru_t 10 [] ?_
   refine ru_t 11 [] ?_
   refine ru_t 12 [] ?_
   refine ru_t 13 [] ?_
   refine ru_t 14 [] ?_
   refine ru_t 15 [] ?_
   refine ru_t 16 [] ?_
   (try simp only [lpX])
   clear hS175
   refine ru_o 17 fun K hK => ?_
   go_simp
   refine (thicken_c _ _ _ l ic _ _ _ d0 need most _ (F169.s 14 rfl) (by first | omega | (simp; omega)) (Own.sl (F169.o 0 rfl) (fun _ => rfl)) (Nat.le_refl _)).mono ?_
   rintro e w180 ⟨ta_g177, tc_g177, tl_g177, th_g177, rfl, ⟨⟨txg177, tyg177⟩, _⟩, tzg177, hg178⟩
   have hg178s := hg178.size
   (try simp at hg178s)
   replace F169 := F169.add (rsl intEnc 1 tl_g177 th_g177 (.slice ta_g177 (thkW l ic d0 need most).length tc_g177) (thkW l ic d0 need most)) hg178 (tzg177) (fun g e => ⟨Nat.le_trans txg177 e.1, Nat.lt_of_lt_of_le e.2 tyg177⟩)
   refine ru_back hK (by exact ⟨F169.e8 8 16 17 18 19 20 21 22 23, F169.e8 9 16 17 18 19 20 21 22 23, F169.q 11 2, F169.q 12 2⟩) (fun _ => ?_)
   clear hK K
   (try simp only [lpX])
   refine ru_p 18 ?_
   (try simp only [lpX])
   refine ru_p 19 ?_
   refine ru_p 20 ?_
   refine ru_p 21 ?_
   (try simp only [lpX])
   refine ru_p 22 ?_
   (try simp only [lpX])
   refine ru_p 23 ?_
   (try simp only [lpX])
   refine ru_o 24 fun K hK => ?_
   go_simp
   refine ru_back_late hK (by kernel_rfl) ?_
   clear hK K
   (try simp only [lpX])
   refine ru_done (by kernel_rfl) ?_
   have Fn_ := F169
   (try dsimp only [lpF, lpG] at Fn_)
   obtain ⟨w182, hx183, F185, hxs184⟩ := Fn_.name
   (try simp at hxs184)
   rw [hx183]
   clear hx183 F169 Fn_
   go_wp2_with fail
   replace F185 := F185.drew
   refine ru_begin (fun W => E8 W g60 16 17 18 19 20 21 22 23 (.int .i64 l.gr) (.int .i64 l.la) (.slice sal l.cov.length scl) (.int .i64 l.melt.lo) (.int .i64 l.melt.hi) (.int .i64 l.soak) (.int .i64 l.white.lo) (.int .i64 l.white.hi) /\ E8 W g61 16 17 18 19 20 21 22 23 (.int .i64 ic.bl.lo) (.int .i64 ic.bl.hi) (.int .i64 ic.wh.lo) (.int .i64 ic.wh.hi) (.int .i64 ic.we.lo) (.int .i64 ic.we.hi) (.int .i64 ic.sn.lo) (.int .i64 ic.sn.hi) /\ W.cell? ⟨g62, 2, none⟩ = some (.slice da0 d0.length dc0) /\ W.cell? ⟨g63, 2, none⟩ = some (.int .i64 need) /\ W.cell? ⟨g64, 2, none⟩ = some (.int .i64 most)) 27 (by kernel_rfl) ?_ ?_
   · exact ⟨F185.e8 8 16 17 18 19 20 21 22 23, F185.e8 9 16 17 18 19 20 21 22 23, F185.q 10 2, F185.q 11 2, F185.q 12 2⟩
   obtain ⟨wd190, hwd_⟩ : ∃ x : World, w182.drew = x := ⟨_, rfl⟩
   rw [hwd_] at F185 ⊢
   have wd190s : w182.heap.size <= wd190.heap.size := by rw [← hwd_]; exact Nat.le_refl _
   clear hwd_
   have hS189 := (And.intro (F185.e8 8 16 17 18 19 20 21 22 23) (And.intro (F185.e8 9 16 17 18 19 20 21 22 23) (And.intro (F185.q 10 2) (And.intro (F185.q 11 2) (F185.q 12 2)))))
   refine ru_t 0 [] ?_
   refine ru_t 1 [] ?_
   refine ru_t 2 [] ?_
   refine ru_t 3 [] ?_
   refine ru_t 4 [] ?_
   refine ru_t 5 [] ?_
   refine ru_t 6 [] ?_
   refine ru_t 7 [] ?_
   refine ru_t 8 [] ?_
   refine ru_t 9 [] ?_
   refine ru_t 10 [] ?_
   refine ru_t 11 [] ?_
   refine ru_t 12 [] ?_
   refine ru_t 13 [] ?_
   refine ru_t 14 [] ?_
   refine ru_t 15 [] ?_
   refine ru_t 16 [] ?_
   refine ru_t 17 [] ?_
   refine ru_t 18 [] ?_
   refine ru_t 19 [] ?_
   (try simp only [lpX])
   clear hS189
   refine ru_o 20 fun K hK => ?_
   go_simp
   refine (rthicken_c _ _ _ l ic _ _ _ d0 need most _ (F185.s 15 rfl) (by first | omega | (simp; omega)) (F185.s 17 rfl) (by first | omega | (simp; omega))).mono ?_
   rintro e w194 ⟨ta_g191, tc_g191, tl_g191, th_g191, rfl, ⟨⟨txg191, tyg191⟩, _⟩, tzg191, hg192⟩
   have hg192s := hg192.size
   (try simp at hg192s)
   replace F185 := F185.add (rsl intEnc 1 tl_g191 th_g191 (.slice ta_g191 (thkW l ic d0 need most).length tc_g191) (thkW l ic d0 need most)) hg192 (tzg191) (fun g e => ⟨Nat.le_trans txg191 e.1, Nat.lt_of_lt_of_le e.2 tyg191⟩)
   refine ru_back hK (by exact ⟨F185.e8 9 16 17 18 19 20 21 22 23, F185.e8 10 16 17 18 19 20 21 22 23, F185.q 11 2, F185.q 12 2, F185.q 13 2⟩) (fun _ => ?_)
   clear hK K
   (try simp only [lpX])
   refine ru_p 21 ?_
   (try simp only [lpX])
   refine ru_p 22 ?_
   refine ru_p 23 ?_
   refine ru_p 24 ?_
   (try simp only [lpX])
   refine ru_p 25 ?_
   (try simp only [lpX])
   refine ru_p 26 ?_
   (try simp only [lpX])
   refine ru_o 27 fun K hK => ?_
   go_simp
   refine ru_back_late hK (by kernel_rfl) ?_
   clear hK K
   (try simp only [lpX])
   refine ru_done (by kernel_rfl) ?_
   have Fn_ := F185
   (try dsimp only [lpF, lpG] at Fn_)
   obtain ⟨w196, hx197, F199, hxs198⟩ := Fn_.name
   (try simp at hxs198)
   rw [hx197]
   clear hx197 F185 Fn_
   go_wp2_with fail
   refine (same_t _ _ _ _ _ _ (thkW l ic d0 need most) _ (F199.s 1 rfl) (F199.s 0 rfl)).mono ?_
   rintro e w202 ⟨rfl, hg200⟩
   have hg200s := hg200.size
   (try simp at hg200s)
   replace F199 := F199.gn hg200
   clear hg200
   have b204 := F199.bx3 11 rfl
   go_wp2_with fail
   clear b204
   refine (sameDays_c _ _ _ _ _ _ d0 _ (Own.sl (F199.o 2 rfl) (fun _ => rfl)) (Nat.le_refl _) (F199.s 18 rfl) (by first | omega | (simp; omega))).mono ?_
   rintro e w207 ⟨rfl, hg205⟩
   have hg205s := hg205.size
   (try simp at hg205s)
   replace F199 := F199.gn hg205
   clear hg205
   go_wp2_with fail
   rw [rounds_succ]
   go_wp2_with fail
   refine (awake_c _).mono ?_
   rintro e w211 ⟨rfl, hg209⟩
   have hg209s := hg209.size
   (try simp at hg209s)
   replace F199 := F199.gn hg209
   clear hg209
   go_wp2_with fail
   go_ret
   exact ⟨rfl, F199.gb⟩
 case first1 =>
  intro hK_
  clear hk0_
  by_cases c213 : 30 < (l0.cov.length : Int)
  ·
   have c213H := lhd c213
   have b214 := F10.bx8 1 rfl
   go_wp2_with fail
   clear b214
   refine (awake_c _).mono ?_
   rintro e w217 ⟨rfl, hg215⟩
   have hg215s := hg215.size
   (try simp at hg215s)
   replace F10 := F10.gn hg215
   clear hg215
   go_wp2_with fail
   go_ret
   exact ⟨rfl, F10.gb⟩
  have c213H := lhd c213
  have c213a := dec_f c213
  by_cases c219 : 12 < (d0.length : Int)
  ·
   have c219H := lhd c219
   by_cases c220 : (d0.length : Int) <= 400
   ·
    have c220H := lhd c220
    have b221 := F10.bx8 1 rfl
    go_wp2_with fail
    clear b221
    refine (awake_c _).mono ?_
    rintro e w224 ⟨rfl, hg222⟩
    have hg222s := hg222.size
    (try simp at hg222s)
    replace F10 := F10.gn hg222
    clear hg222
    go_wp2_with fail
    go_ret
    exact ⟨rfl, F10.gb⟩
   have c220H := lhd c220
   have c220a := dec_f c220
   by_cases c226 : 420 < (d0.length : Int)
   ·
    have c226H := lhd c226
    have b227 := F10.bx8 1 rfl
    go_wp2_with fail
    clear b227
    refine (awake_c _).mono ?_
    rintro e w230 ⟨rfl, hg228⟩
    have hg228s := hg228.size
    (try simp at hg228s)
    replace F10 := F10.gn hg228
    clear hg228
    go_wp2_with fail
    go_ret
    exact ⟨rfl, F10.gb⟩
   have c226H := lhd c226
   have c226a := dec_f c226
   have b232 := F10.bx8 1 rfl
   go_wp2_with fail
   clear b232
   have F233 : Bun w [rbox (w.heap.size + 1) 28 (iceC x0), rbox w.heap.size 26 (froC l0 (.slice sa0 l0.cov.length sc0)), rsl intEnc 1 0 w.heap.size (.slice na zs.length nc) zs, rsl weaEnc 6 0 w.heap.size (.slice da0 d0.length dc0) d0, rsl covEnc 3 0 w.heap.size (.slice sa0 l0.cov.length sc0) l0.cov] _ := F10.pick [0, 1, 2, 3, 4] (by decide) rfl
   clear F10
   show k0_ _ _
   exact hK_.out _ _ (by kernel_rfl) rfl ⟨(), by (iterate 6 refine ⟨by kernel_rfl, ?_⟩); exact ⟨(by first | omega | (simp; done) | (simp; omega)), (by omega), F233⟩⟩
  have c219H := lhd c219
  have c219a := dec_f c219
  have kn234 : ¬ (420 < (d0.length : Int)) := (by omega)
  have kn234H := lhd kn234
  have kn234a : decide (420 < (d0.length : Int)) = false := dec_f kn234
  have b235 := F10.bx8 1 rfl
  go_wp2_with fail
  clear b235
  have F236 : Bun w [rbox (w.heap.size + 1) 28 (iceC x0), rbox w.heap.size 26 (froC l0 (.slice sa0 l0.cov.length sc0)), rsl intEnc 1 0 w.heap.size (.slice na zs.length nc) zs, rsl weaEnc 6 0 w.heap.size (.slice da0 d0.length dc0) d0, rsl covEnc 3 0 w.heap.size (.slice sa0 l0.cov.length sc0) l0.cov] _ := F10.pick [0, 1, 2, 3, 4] (by decide) rfl
  clear F10
  show k0_ _ _
  exact hK_.out _ _ (by kernel_rfl) rfl ⟨(), by (iterate 6 refine ⟨by kernel_rfl, ?_⟩); exact ⟨(by first | omega | (simp; done) | (simp; omega)), (by omega), F236⟩⟩
end Go.Proofs.YtkclabflkocbaaaGreat
