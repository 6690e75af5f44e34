/- frost: FrostCores walked. -/
import Derived.Test.YthblaiefalbomaaF30
import Derived.Test.YthblaiefalbomaaF26
import Derived.Test.YthblaiefalbomaaFC
import Derived.Test.YthblaiefalbomaaNewS
import Derived.Test.YthblaiefalbomaaSat
set_option linter.unusedVariables false
set_option linter.unusedSimpArgs false
set_option linter.unnecessarySimpa false
namespace Go.Proofs.Ythblaiefalbomaa
open Go.RowKit
set_option maxRecDepth 100000

set_option maxHeartbeats 16000000 in
theorem cores_walk (x core : Ice) (vn : Value) (zs : List Int) (w : World) (hn : Sl intEnc 1 0 w.heap.size w vn zs) :
    Calls Try.prog 6 #[.agg (iceC x), .agg (iceC core), vn] w (Ret (.bool true) w) := by
  have F1 : Bun w [] w := Bun.nil _
  obtain ⟨na, nc, rfl⟩ := hn.any
  have hm_nums := hn.len
  unfold maxLen at hm_nums
  have F2 := F1.sl0 hn (Nat.le_refl _) rfl
  clear F1
  go_enter Try.func6, Try.ntmps6
  go_wp2_with fail
  have F3 := F2.new 32 (iceC x) (n := w.heap.size) (by simp)
  clear F2
  have F4 := F3.new 32 (iceC core) (n := (w.heap.size + 1)) (by simp)
  clear F3
  refine (newSeed_c 0 w.heap.size _ zs _ (F4.at 2 rfl : Sl intEnc 1 0 w.heap.size _ (.slice na zs.length nc) zs)).mono ?_
  rintro e w7 ⟨sb, rfl, hsb, hsbs, hg5⟩
  have hsbl := hsbs.lt
  have hg5s := hg5.size
  (try simp at hg5s)
  have F8 := F4.add (rseed sb) hg5 (hsbs) (fun g e => by cases e; exact ⟨hsb, hsbs.lt⟩)
  clear F4
  clear hg5
  go_wp2_with fail
  refine (iceOf_c sb _ (F8.at 0 rfl : SeedAt _ sb)).mono ?_
  rintro e w11 ⟨ic, rfl, ⟨hic, hicm⟩, hs10, hg9⟩
  have hicb := iceB hic
  have hg9s := hg9.size
  (try simp at hg9s)
  have F12 := F8.seedAt 0 rfl hg9 hs10
  clear F8
  clear hg9
  go_wp2_with fail
  have F13 := F12.new 32 (iceC ic) (n := w11.heap.size) (by simp)
  clear F12
  refine (innerIce_c sb ic _ (F13.at 1 rfl : SeedAt _ sb) hic).mono ?_
  rintro e w16 ⟨nr, rfl, hnr, hnrs, hs15, hg14⟩
  have hnrb := iceB hnr
  have hg14s := hg14.size
  (try simp at hg14s)
  have F17 := F13.seedAt 1 rfl hg14 hs15
  clear F13
  clear hg14
  go_wp2_with fail
  have F22 := F17.new 32 (iceC nr) (n := w16.heap.size) (by simp)
  clear F17
  obtain ⟨w23, hx24, F26, hxs25⟩ := (show Bun w [rbox w16.heap.size 32 (iceC nr), rbox w11.heap.size 32 (iceC ic), rseed sb, rbox (w.heap.size + 1) 32 (iceC core), rbox w.heap.size 32 (iceC x), rsl intEnc 1 0 w.heap.size (.slice na zs.length nc) zs] _ from F22).name
  (try simp at hxs25)
  rw [hx24]
  clear hx24 F22
  have F27 := F26.drew
  clear F26
  refine ru_begin (fun W => W.cell? ⟨w16.heap.size, 0, none⟩ = some (.int .i64 nr.bl.lo) ∧ W.cell? ⟨w16.heap.size, 1, none⟩ = some (.int .i64 nr.bl.hi)) 15 (by kernel_rfl) ?_ ?_
  · exact ⟨F27.cl 0 0 rfl rfl, F27.cl 0 1 rfl rfl⟩
  obtain ⟨wd29, hwd_⟩ : ∃ x : World, w23.drew = x := ⟨_, rfl⟩
  rw [hwd_] at F27 ⊢
  have wd29s : w23.heap.size ≤ wd29.heap.size := by rw [← hwd_]; exact Nat.le_refl _
  clear hwd_
  have hS28 := (And.intro (F27.cl 0 0 rfl rfl) (F27.cl 0 1 rfl rfl))
  refine ru_take 0 [] (v := ?_) rfl (by kernel_rfl) (fun _ _ _ h => h) (by assumption) (.inl ⟨by first | kernel_rfl | rfl, ?_⟩) ?_
  rotate_left
  · (intro wS hwS; (try dsimp only at hwS); go_simp; (try with_reducible rfl))
  (try simp only [Act.put, List.setIfInBounds_toArray, List.set_cons_zero, List.set_cons_succ])
  refine ru_take 1 [] (v := ?_) rfl (by kernel_rfl) (fun _ _ _ h => h) (by assumption) (.inl ⟨by first | kernel_rfl | rfl, ?_⟩) ?_
  rotate_left
  · (intro wS hwS; (try dsimp only at hwS); go_simp; (try with_reducible rfl))
  (try simp only [Act.put, List.setIfInBounds_toArray, List.set_cons_zero, List.set_cons_succ])
  refine ru_take 2 [] (v := ?_) rfl (by kernel_rfl) (fun _ _ _ h => h) (by assumption) (.inl ⟨by first | kernel_rfl | rfl, ?_⟩) ?_
  rotate_left
  · (intro wS hwS; (try dsimp only at hwS); go_simp; (try with_reducible rfl))
  (try simp only [Act.put, List.setIfInBounds_toArray, List.set_cons_zero, List.set_cons_succ])
  refine ru_take 3 [] (v := ?_) rfl (by kernel_rfl) (fun _ _ _ h => h) (by assumption) (.inl ⟨by first | kernel_rfl | rfl, ?_⟩) ?_
  rotate_left
  · (intro wS hwS; (try dsimp only at hwS); go_simp; (try with_reducible rfl))
  (try simp only [Act.put, List.setIfInBounds_toArray, List.set_cons_zero, List.set_cons_succ])
  refine ru_take 7 [] (v := ?_) rfl (by kernel_rfl) (fun _ _ _ h => h) (by assumption) (.inl ⟨by first | kernel_rfl | rfl, ?_⟩) ?_
  rotate_left
  · (intro wS hwS; (try dsimp only at hwS); go_simp; (try with_reducible rfl))
  (try simp only [Act.put, List.setIfInBounds_toArray, List.set_cons_zero, List.set_cons_succ])
  refine ru_take 8 [] (v := ?_) rfl (by kernel_rfl) (fun _ _ _ h => h) (by assumption) (.inl ⟨by first | kernel_rfl | rfl, ?_⟩) ?_
  rotate_left
  · (intro wS hwS; (try dsimp only at hwS); go_simp; (try with_reducible rfl))
  (try simp only [Act.put, List.setIfInBounds_toArray, List.set_cons_zero, List.set_cons_succ])
  refine ru_take 9 [] (v := ?_) rfl (by kernel_rfl) (fun _ _ _ h => h) (by assumption) (.inl ⟨by first | kernel_rfl | rfl, ?_⟩) ?_
  rotate_left
  · (intro wS hwS; (try dsimp only at hwS); go_simp; (try with_reducible rfl))
  (try simp only [Act.put, List.setIfInBounds_toArray, List.set_cons_zero, List.set_cons_succ])
  refine ru_take 10 [] (v := ?_) rfl (by kernel_rfl) (fun _ _ _ h => h) (by assumption) (.inl ⟨by first | kernel_rfl | rfl, ?_⟩) ?_
  rotate_left
  · (intro wS hwS; (try dsimp only at hwS); go_simp; (try with_reducible rfl))
  (try simp only [Act.put, List.setIfInBounds_toArray, List.set_cons_zero, List.set_cons_succ])
  clear hS28
  refine ru_one 4 rfl (by kernel_rfl) (fun K hK => ?_)
  go_simp
  refine (from_c sb (-2) 2 _ (F27.at 2 rfl : SeedAt _ sb) (by omega) (by omega) (by omega) (by omega)).mono ?_
  rintro e w34 ⟨r30, rfl, hr31, hs33, hg32⟩
  unfold fromR at hr31; have hr31b : (-2) ≤ r30 ∧ r30 ≤ 2 := (by omega); clear hr31
  have hg32s := hg32.size
  (try simp at hg32s)
  have F35 := F27.seedAt 2 rfl hg32 hs33
  clear F27
  refine ru_back hK (by exact ⟨F35.cl 0 0 rfl rfl, F35.cl 0 1 rfl rfl⟩) (fun hHeld => ?_)
  clear hK K
  (try simp only [Act.put, List.setIfInBounds_toArray, List.set_cons_zero, List.set_cons_succ])
  have hw36 : IntKind.i64.wrap (nr.bl.lo + r30) = nr.bl.lo + r30 := IntWalk.i64_in _ (by omega)
  refine ru_pure 5 (v := ?_) rfl (by kernel_rfl) (fun _ _ _ h => h) (fun hd_ => by first | assumption | (exact absurd hd_ (by decide))) (.inl ⟨by first | kernel_rfl | rfl, ?_⟩) ?_
  rotate_left
  · (intro wS hwS; clear hwS; go_simp; (try with_reducible rfl))
  (try simp only [Act.put, List.setIfInBounds_toArray, List.set_cons_zero, List.set_cons_succ])
  refine ru_pure 6 (v := ?_) rfl (by kernel_rfl) (fun _ _ _ h => h) (fun hd_ => by first | assumption | (exact absurd hd_ (by decide))) (.inl ⟨by first | kernel_rfl | rfl, ?_⟩) ?_
  rotate_left
  · (intro wS hwS; clear hwS; go_simp; (try with_reducible rfl))
  (try simp only [Act.put, List.setIfInBounds_toArray, List.set_cons_zero, List.set_cons_succ])
  refine ru_one 11 rfl (by kernel_rfl) (fun K hK => ?_)
  go_simp
  refine (from_c sb 0 3 _ (F35.at 2 rfl : SeedAt _ sb) (by omega) (by omega) (by omega) (by omega)).mono ?_
  rintro e w41 ⟨r37, rfl, hr38, hs40, hg39⟩
  unfold fromR at hr38; have hr38b : 0 ≤ r37 ∧ r37 ≤ 3 := (by omega); clear hr38
  have hg39s := hg39.size
  (try simp at hg39s)
  have F42 := F35.seedAt 2 rfl hg39 hs40
  clear F35
  refine ru_back hK (by exact ⟨F42.cl 0 0 rfl rfl, F42.cl 0 1 rfl rfl⟩) (fun hHeld => ?_)
  clear hK K
  (try simp only [Act.put, List.setIfInBounds_toArray, List.set_cons_zero, List.set_cons_succ])
  have hw43 : IntKind.i64.wrap (nr.bl.hi + r37) = nr.bl.hi + r37 := IntWalk.i64_in _ (by omega)
  refine ru_pure 12 (v := ?_) rfl (by kernel_rfl) (fun _ _ _ h => h) (fun hd_ => by first | assumption | (exact absurd hd_ (by decide))) (.inl ⟨by first | kernel_rfl | rfl, ?_⟩) ?_
  rotate_left
  · (intro wS hwS; clear hwS; go_simp; (try with_reducible rfl))
  (try simp only [Act.put, List.setIfInBounds_toArray, List.set_cons_zero, List.set_cons_succ])
  refine ru_pure 13 (v := ?_) rfl (by kernel_rfl) (fun _ _ _ h => h) (fun hd_ => by first | assumption | (exact absurd hd_ (by decide))) (.inl ⟨by first | kernel_rfl | rfl, ?_⟩) ?_
  rotate_left
  · (intro wS hwS; clear hwS; go_simp; (try with_reducible rfl))
  (try simp only [Act.put, List.setIfInBounds_toArray, List.set_cons_zero, List.set_cons_succ])
  refine ru_pure 14 (v := ?_) rfl (by kernel_rfl) (fun _ _ _ h => h) (fun hd_ => by first | assumption | (exact absurd hd_ (by decide))) (.inl ⟨by first | kernel_rfl | rfl, ?_⟩) ?_
  rotate_left
  · (intro wS hwS; clear hwS; go_simp; (try with_reducible rfl))
  (try simp only [Act.put, List.setIfInBounds_toArray, List.set_cons_zero, List.set_cons_succ])
  refine ru_one 15 rfl (by kernel_rfl) (fun K hK => ?_)
  have kb_ := F42.bx8 0 rfl
  go_simp
  clear kb_
  have F44 := (F42.set 0 (.int .i64 (max 0 (nr.bl.lo + r30)))).nf #[.int .i64 (max 0 (nr.bl.lo + r30)), .int .i64 nr.bl.hi, .int .i64 nr.wh.lo, .int .i64 nr.wh.hi, .int .i64 nr.we.lo, .int .i64 nr.we.hi, .int .i64 nr.sn.lo, .int .i64 nr.sn.hi] rfl
  clear F42
  have F45 := (F44.set 1 (.int .i64 (nr.bl.hi + r37))).nf #[.int .i64 (max 0 (nr.bl.lo + r30)), .int .i64 (nr.bl.hi + r37), .int .i64 nr.wh.lo, .int .i64 nr.wh.hi, .int .i64 nr.we.lo, .int .i64 nr.we.hi, .int .i64 nr.sn.lo, .int .i64 nr.sn.hi] rfl
  clear F44
  refine ru_back_late hK (by kernel_rfl) ?_
  clear hK K
  (try simp only [Act.put, List.setIfInBounds_toArray, List.set_cons_zero, List.set_cons_succ])
  refine ru_done (by kernel_rfl) ?_
  (try clear hw36 hw43)
  obtain ⟨w46, hx47, F49, hxs48⟩ := (show Bun w [rbox w16.heap.size 32 #[.int .i64 (max 0 (nr.bl.lo + r30)), .int .i64 (nr.bl.hi + r37), .int .i64 nr.wh.lo, .int .i64 nr.wh.hi, .int .i64 nr.we.lo, .int .i64 nr.we.hi, .int .i64 nr.sn.lo, .int .i64 nr.sn.hi], rbox w11.heap.size 32 (iceC ic), rseed sb, rbox (w.heap.size + 1) 32 (iceC core), rbox w.heap.size 32 (iceC x), rsl intEnc 1 0 w.heap.size (.slice na zs.length nc) zs] _ from F45).name
  (try simp at hxs48)
  rw [hx47]
  clear hx47 F45
  go_wp2_with fail
  refine wp_cutK 88 (fun t wr => ∃ (g5_43 : Nat) (g5_48 : Nat), t 10 = .slice (some ⟨g5_43, 0, none⟩) 4 4 ∧ t 11 = .slice (some ⟨g5_48, 0, none⟩) 4 4 ∧ w46.heap.size ≤ wr.heap.size ∧ Bun w [rbox g5_43 32 #[.int .i64 x.bl.lo, .int .i64 x.bl.hi, .int .i64 x.wh.lo, .int .i64 x.wh.hi, .int .i64 x.we.lo, .int .i64 x.we.hi, .int .i64 x.sn.lo, .int .i64 x.sn.hi, .int .i64 ic.bl.lo, .int .i64 ic.bl.hi, .int .i64 ic.wh.lo, .int .i64 ic.wh.hi, .int .i64 ic.we.lo, .int .i64 ic.we.hi, .int .i64 ic.sn.lo, .int .i64 ic.sn.hi, .int .i64 ic.bl.lo, .int .i64 ic.bl.hi, .int .i64 ic.wh.lo, .int .i64 ic.wh.hi, .int .i64 ic.we.lo, .int .i64 ic.we.hi, .int .i64 ic.sn.lo, .int .i64 ic.sn.hi, .int .i64 x.bl.lo, .int .i64 x.bl.hi, .int .i64 x.wh.lo, .int .i64 x.wh.hi, .int .i64 x.we.lo, .int .i64 x.we.hi, .int .i64 x.sn.lo, .int .i64 x.sn.hi], rbox g5_48 32 #[.int .i64 core.bl.lo, .int .i64 core.bl.hi, .int .i64 core.wh.lo, .int .i64 core.wh.hi, .int .i64 core.we.lo, .int .i64 core.we.hi, .int .i64 core.sn.lo, .int .i64 core.sn.hi, .int .i64 (max 0 (nr.bl.lo + r30)), .int .i64 (nr.bl.hi + r37), .int .i64 nr.wh.lo, .int .i64 nr.wh.hi, .int .i64 nr.we.lo, .int .i64 nr.we.hi, .int .i64 nr.sn.lo, .int .i64 nr.sn.hi, .int .i64 core.bl.lo, .int .i64 core.bl.hi, .int .i64 core.wh.lo, .int .i64 core.wh.hi, .int .i64 core.we.lo, .int .i64 core.we.hi, .int .i64 core.sn.lo, .int .i64 core.sn.hi, .int .i64 (max 0 (nr.bl.lo + r30)), .int .i64 (nr.bl.hi + r37), .int .i64 nr.wh.lo, .int .i64 nr.wh.hi, .int .i64 nr.we.lo, .int .i64 nr.we.hi, .int .i64 nr.sn.lo, .int .i64 nr.sn.hi], rbox w16.heap.size 32 #[.int .i64 (max 0 (nr.bl.lo + r30)), .int .i64 (nr.bl.hi + r37), .int .i64 nr.wh.lo, .int .i64 nr.wh.hi, .int .i64 nr.we.lo, .int .i64 nr.we.hi, .int .i64 nr.sn.lo, .int .i64 nr.sn.hi], rbox w11.heap.size 32 (iceC ic), rseed sb, rbox (w.heap.size + 1) 32 (iceC core), rbox w.heap.size 32 (iceC x), rsl intEnc 1 0 w.heap.size (.slice na zs.length nc) zs] wr) ?first10 ?rest10
  case rest10 =>
    rintro t wr ⟨g5_43, g5_48, e10, e11, hrel⟩
    have e : ((List.range 88).map t).toArray = #[t 0, t 1, t 2, t 3, t 4, t 5, t 6, t 7, t 8, t 9, t 10, t 11, t 12, t 13, t 14, t 15, t 16, t 17, t 18, t 19, t 20, t 21, t 22, t 23, t 24, t 25, t 26, t 27, t 28, t 29, t 30, t 31, t 32, t 33, t 34, t 35, t 36, t 37, t 38, t 39, t 40, t 41, t 42, t 43, t 44, t 45, t 46, t 47, t 48, t 49, t 50, t 51, t 52, t 53, t 54, t 55, t 56, t 57, t 58, t 59, t 60, t 61, t 62, t 63, t 64, t 65, t 66, t 67, t 68, t 69, t 70, t 71, t 72, t 73, t 74, t 75, t 76, t 77, t 78, t 79, t 80, t 81, t 82, t 83, t 84, t 85, t 86, t 87] := rfl
    (try dsimp only at e)
    rw [e10, e11] at e
    rw [e]
    clear e e10 e11
    obtain ⟨hs51, hF50⟩ := hrel
    clear F49
    obtain ⟨w52, rfl⟩ : ∃ x_ : World, x_ = wr := ⟨_, rfl⟩
    go_wp2_with fail
    have F53 := hF50.lit iceEnc 8 [x, ic, ic, x] 4 (fun _ => rfl) rfl (by show (4 : Nat) ≤ 1000; omega)
    clear hF50
    have F54 := (F53.front 1 rfl rfl).lit iceEnc 8 [core, ⟨⟨max 0 (nr.bl.lo + r30), nr.bl.hi + r37⟩, ⟨nr.wh.lo, nr.wh.hi⟩, ⟨nr.we.lo, nr.we.hi⟩, ⟨nr.sn.lo, nr.sn.hi⟩⟩, core, ⟨⟨max 0 (nr.bl.lo + r30), nr.bl.hi + r37⟩, ⟨nr.wh.lo, nr.wh.hi⟩, ⟨nr.we.lo, nr.we.hi⟩, ⟨nr.sn.lo, nr.sn.hi⟩⟩] 4 (fun _ => rfl) rfl (by show (4 : Nat) ≤ 1000; omega)
    clear F53
    (skip)
    obtain ⟨HI55_, HI550⟩ : ∃ I : (Nat → Value) → List Deferred → World → Prop, I = (fun t ds wr => ∃ (k : Nat), t 10 = .slice (some ⟨g5_43, 0, none⟩) 4 4 ∧ t 11 = .slice (some ⟨g5_48, 0, none⟩) 4 4 ∧ t 12 = .int .i64 (k : Int) ∧ k ≤ 4 ∧ ds = [] ∧ w52.heap.size ≤ wr.heap.size ∧ Bun w [rsl iceEnc 8 g5_48 (g5_48 + 1) (.slice (some ⟨g5_48, 0, none⟩) 4 4) ([core, ⟨⟨max 0 (nr.bl.lo + r30), nr.bl.hi + r37⟩, ⟨nr.wh.lo, nr.wh.hi⟩, ⟨nr.we.lo, nr.we.hi⟩, ⟨nr.sn.lo, nr.sn.hi⟩⟩, core, ⟨⟨max 0 (nr.bl.lo + r30), nr.bl.hi + r37⟩, ⟨nr.wh.lo, nr.wh.hi⟩, ⟨nr.we.lo, nr.we.hi⟩, ⟨nr.sn.lo, nr.sn.hi⟩⟩]), rsl iceEnc 8 g5_43 (g5_43 + 1) (.slice (some ⟨g5_43, 0, none⟩) 4 4) ([x, ic, ic, x]), rseed sb, rsl intEnc 1 0 w.heap.size (.slice na zs.length nc) zs] wr) := ⟨_, rfl⟩
    have HI55 := Lib.hid HI550
    clear HI550
    refine wp_loopS 88 rfl HI55_ (fun t wr => 4 - (intOf (t 12)).toNat) ?atStart9 ?round9
    case round9 =>
      intro t ds wr hHid
      rw [HI55.out] at hHid
      obtain ⟨k, e10, e11, e12, hrel⟩ := hHid
      have e : ((List.range 88).map t).toArray = #[t 0, t 1, t 2, t 3, t 4, t 5, t 6, t 7, t 8, t 9, t 10, t 11, t 12, t 13, t 14, t 15, t 16, t 17, t 18, t 19, t 20, t 21, t 22, t 23, t 24, t 25, t 26, t 27, t 28, t 29, t 30, t 31, t 32, t 33, t 34, t 35, t 36, t 37, t 38, t 39, t 40, t 41, t 42, t 43, t 44, t 45, t 46, t 47, t 48, t 49, t 50, t 51, t 52, t 53, t 54, t 55, t 56, t 57, t 58, t 59, t 60, t 61, t 62, t 63, t 64, t 65, t 66, t 67, t 68, t 69, t 70, t 71, t 72, t 73, t 74, t 75, t 76, t 77, t 78, t 79, t 80, t 81, t 82, t 83, t 84, t 85, t 86, t 87] := rfl
      (try dsimp only at e)
      rw [e10, e11, e12] at e
      rw [e]
      simp only [e12]
      clear e e10 e11 e12
      obtain ⟨hk, rfl, hs57, hF56⟩ := hrel
      clear F54
      obtain ⟨w58, rfl⟩ : ∃ x_ : World, x_ = wr := ⟨_, rfl⟩
      by_cases c59 : (k : Int) < 4
      · skip
        have c59H := Lib.hid c59
        obtain ⟨z, hz60_⟩ : ∃ z_, ([x, ic, ic, x])[k]? = some z_ := ⟨_, List.getElem?_eq_getElem (by show k < 4; omega)⟩
        have hz60 := Lib.hid hz60_
        clear hz60_
        obtain ⟨y, hz61_⟩ : ∃ z_, ([core, ⟨⟨max 0 (nr.bl.lo + r30), nr.bl.hi + r37⟩, ⟨nr.wh.lo, nr.wh.hi⟩, ⟨nr.we.lo, nr.we.hi⟩, ⟨nr.sn.lo, nr.sn.hi⟩⟩, core, ⟨⟨max 0 (nr.bl.lo + r30), nr.bl.hi + r37⟩, ⟨nr.wh.lo, nr.wh.hi⟩, ⟨nr.we.lo, nr.we.hi⟩, ⟨nr.sn.lo, nr.sn.hi⟩⟩])[k]? = some z_ := ⟨_, List.getElem?_eq_getElem (by show k < 4; omega)⟩
        have hz61 := Lib.hid hz61_
        clear hz61_
        go_wp2_with fail
        have F62 := hF56.drew
        clear hF56
        refine ru_begin (fun W => W.cell? ⟨g5_43, k * 8, none⟩ = some (.int .i64 z.bl.lo) ∧ W.cell? ⟨g5_43, k * 8 + 1, none⟩ = some (.int .i64 z.bl.hi) ∧ W.cell? ⟨g5_43, k * 8 + 2, none⟩ = some (.int .i64 z.wh.lo) ∧ W.cell? ⟨g5_43, k * 8 + 3, none⟩ = some (.int .i64 z.wh.hi) ∧ W.cell? ⟨g5_43, k * 8 + 4, none⟩ = some (.int .i64 z.we.lo) ∧ W.cell? ⟨g5_43, k * 8 + 5, none⟩ = some (.int .i64 z.we.hi) ∧ W.cell? ⟨g5_43, k * 8 + 6, none⟩ = some (.int .i64 z.sn.lo) ∧ W.cell? ⟨g5_43, k * 8 + 7, none⟩ = some (.int .i64 z.sn.hi) ∧ W.cell? ⟨g5_48, k * 8, none⟩ = some (.int .i64 y.bl.lo) ∧ W.cell? ⟨g5_48, k * 8 + 1, none⟩ = some (.int .i64 y.bl.hi) ∧ W.cell? ⟨g5_48, k * 8 + 2, none⟩ = some (.int .i64 y.wh.lo) ∧ W.cell? ⟨g5_48, k * 8 + 3, none⟩ = some (.int .i64 y.wh.hi) ∧ W.cell? ⟨g5_48, k * 8 + 4, none⟩ = some (.int .i64 y.we.lo) ∧ W.cell? ⟨g5_48, k * 8 + 5, none⟩ = some (.int .i64 y.we.hi) ∧ W.cell? ⟨g5_48, k * 8 + 6, none⟩ = some (.int .i64 y.sn.lo) ∧ W.cell? ⟨g5_48, k * 8 + 7, none⟩ = some (.int .i64 y.sn.hi)) 13 (by kernel_rfl) ?_ ?_
        · exact ⟨(((F62.at 1 rfl : Sl iceEnc 8 g5_43 (g5_43 + 1) _ (.slice (some ⟨g5_43, 0, none⟩) 4 4) ([x, ic, ic, x]))).cells0 hz60.out 0 _ rfl), (((F62.at 1 rfl : Sl iceEnc 8 g5_43 (g5_43 + 1) _ (.slice (some ⟨g5_43, 0, none⟩) 4 4) ([x, ic, ic, x]))).cells0 hz60.out 1 _ rfl), (((F62.at 1 rfl : Sl iceEnc 8 g5_43 (g5_43 + 1) _ (.slice (some ⟨g5_43, 0, none⟩) 4 4) ([x, ic, ic, x]))).cells0 hz60.out 2 _ rfl), (((F62.at 1 rfl : Sl iceEnc 8 g5_43 (g5_43 + 1) _ (.slice (some ⟨g5_43, 0, none⟩) 4 4) ([x, ic, ic, x]))).cells0 hz60.out 3 _ rfl), (((F62.at 1 rfl : Sl iceEnc 8 g5_43 (g5_43 + 1) _ (.slice (some ⟨g5_43, 0, none⟩) 4 4) ([x, ic, ic, x]))).cells0 hz60.out 4 _ rfl), (((F62.at 1 rfl : Sl iceEnc 8 g5_43 (g5_43 + 1) _ (.slice (some ⟨g5_43, 0, none⟩) 4 4) ([x, ic, ic, x]))).cells0 hz60.out 5 _ rfl), (((F62.at 1 rfl : Sl iceEnc 8 g5_43 (g5_43 + 1) _ (.slice (some ⟨g5_43, 0, none⟩) 4 4) ([x, ic, ic, x]))).cells0 hz60.out 6 _ rfl), (((F62.at 1 rfl : Sl iceEnc 8 g5_43 (g5_43 + 1) _ (.slice (some ⟨g5_43, 0, none⟩) 4 4) ([x, ic, ic, x]))).cells0 hz60.out 7 _ rfl), (((F62.at 0 rfl : Sl iceEnc 8 g5_48 (g5_48 + 1) _ (.slice (some ⟨g5_48, 0, none⟩) 4 4) ([core, ⟨⟨max 0 (nr.bl.lo + r30), nr.bl.hi + r37⟩, ⟨nr.wh.lo, nr.wh.hi⟩, ⟨nr.we.lo, nr.we.hi⟩, ⟨nr.sn.lo, nr.sn.hi⟩⟩, core, ⟨⟨max 0 (nr.bl.lo + r30), nr.bl.hi + r37⟩, ⟨nr.wh.lo, nr.wh.hi⟩, ⟨nr.we.lo, nr.we.hi⟩, ⟨nr.sn.lo, nr.sn.hi⟩⟩]))).cells0 hz61.out 0 _ rfl), (((F62.at 0 rfl : Sl iceEnc 8 g5_48 (g5_48 + 1) _ (.slice (some ⟨g5_48, 0, none⟩) 4 4) ([core, ⟨⟨max 0 (nr.bl.lo + r30), nr.bl.hi + r37⟩, ⟨nr.wh.lo, nr.wh.hi⟩, ⟨nr.we.lo, nr.we.hi⟩, ⟨nr.sn.lo, nr.sn.hi⟩⟩, core, ⟨⟨max 0 (nr.bl.lo + r30), nr.bl.hi + r37⟩, ⟨nr.wh.lo, nr.wh.hi⟩, ⟨nr.we.lo, nr.we.hi⟩, ⟨nr.sn.lo, nr.sn.hi⟩⟩]))).cells0 hz61.out 1 _ rfl), (((F62.at 0 rfl : Sl iceEnc 8 g5_48 (g5_48 + 1) _ (.slice (some ⟨g5_48, 0, none⟩) 4 4) ([core, ⟨⟨max 0 (nr.bl.lo + r30), nr.bl.hi + r37⟩, ⟨nr.wh.lo, nr.wh.hi⟩, ⟨nr.we.lo, nr.we.hi⟩, ⟨nr.sn.lo, nr.sn.hi⟩⟩, core, ⟨⟨max 0 (nr.bl.lo + r30), nr.bl.hi + r37⟩, ⟨nr.wh.lo, nr.wh.hi⟩, ⟨nr.we.lo, nr.we.hi⟩, ⟨nr.sn.lo, nr.sn.hi⟩⟩]))).cells0 hz61.out 2 _ rfl), (((F62.at 0 rfl : Sl iceEnc 8 g5_48 (g5_48 + 1) _ (.slice (some ⟨g5_48, 0, none⟩) 4 4) ([core, ⟨⟨max 0 (nr.bl.lo + r30), nr.bl.hi + r37⟩, ⟨nr.wh.lo, nr.wh.hi⟩, ⟨nr.we.lo, nr.we.hi⟩, ⟨nr.sn.lo, nr.sn.hi⟩⟩, core, ⟨⟨max 0 (nr.bl.lo + r30), nr.bl.hi + r37⟩, ⟨nr.wh.lo, nr.wh.hi⟩, ⟨nr.we.lo, nr.we.hi⟩, ⟨nr.sn.lo, nr.sn.hi⟩⟩]))).cells0 hz61.out 3 _ rfl), (((F62.at 0 rfl : Sl iceEnc 8 g5_48 (g5_48 + 1) _ (.slice (some ⟨g5_48, 0, none⟩) 4 4) ([core, ⟨⟨max 0 (nr.bl.lo + r30), nr.bl.hi + r37⟩, ⟨nr.wh.lo, nr.wh.hi⟩, ⟨nr.we.lo, nr.we.hi⟩, ⟨nr.sn.lo, nr.sn.hi⟩⟩, core, ⟨⟨max 0 (nr.bl.lo + r30), nr.bl.hi + r37⟩, ⟨nr.wh.lo, nr.wh.hi⟩, ⟨nr.we.lo, nr.we.hi⟩, ⟨nr.sn.lo, nr.sn.hi⟩⟩]))).cells0 hz61.out 4 _ rfl), (((F62.at 0 rfl : Sl iceEnc 8 g5_48 (g5_48 + 1) _ (.slice (some ⟨g5_48, 0, none⟩) 4 4) ([core, ⟨⟨max 0 (nr.bl.lo + r30), nr.bl.hi + r37⟩, ⟨nr.wh.lo, nr.wh.hi⟩, ⟨nr.we.lo, nr.we.hi⟩, ⟨nr.sn.lo, nr.sn.hi⟩⟩, core, ⟨⟨max 0 (nr.bl.lo + r30), nr.bl.hi + r37⟩, ⟨nr.wh.lo, nr.wh.hi⟩, ⟨nr.we.lo, nr.we.hi⟩, ⟨nr.sn.lo, nr.sn.hi⟩⟩]))).cells0 hz61.out 5 _ rfl), (((F62.at 0 rfl : Sl iceEnc 8 g5_48 (g5_48 + 1) _ (.slice (some ⟨g5_48, 0, none⟩) 4 4) ([core, ⟨⟨max 0 (nr.bl.lo + r30), nr.bl.hi + r37⟩, ⟨nr.wh.lo, nr.wh.hi⟩, ⟨nr.we.lo, nr.we.hi⟩, ⟨nr.sn.lo, nr.sn.hi⟩⟩, core, ⟨⟨max 0 (nr.bl.lo + r30), nr.bl.hi + r37⟩, ⟨nr.wh.lo, nr.wh.hi⟩, ⟨nr.we.lo, nr.we.hi⟩, ⟨nr.sn.lo, nr.sn.hi⟩⟩]))).cells0 hz61.out 6 _ rfl), (((F62.at 0 rfl : Sl iceEnc 8 g5_48 (g5_48 + 1) _ (.slice (some ⟨g5_48, 0, none⟩) 4 4) ([core, ⟨⟨max 0 (nr.bl.lo + r30), nr.bl.hi + r37⟩, ⟨nr.wh.lo, nr.wh.hi⟩, ⟨nr.we.lo, nr.we.hi⟩, ⟨nr.sn.lo, nr.sn.hi⟩⟩, core, ⟨⟨max 0 (nr.bl.lo + r30), nr.bl.hi + r37⟩, ⟨nr.wh.lo, nr.wh.hi⟩, ⟨nr.we.lo, nr.we.hi⟩, ⟨nr.sn.lo, nr.sn.hi⟩⟩]))).cells0 hz61.out 7 _ rfl)⟩
        obtain ⟨wd64, hwd_⟩ : ∃ x : World, w58.drew = x := ⟨_, rfl⟩
        rw [hwd_] at F62 ⊢
        have wd64s : w58.heap.size ≤ wd64.heap.size := by rw [← hwd_]; exact Nat.le_refl _
        clear hwd_
        have hS63 := (And.intro ((((F62.at 1 rfl : Sl iceEnc 8 g5_43 (g5_43 + 1) _ (.slice (some ⟨g5_43, 0, none⟩) 4 4) ([x, ic, ic, x]))).cells0 hz60.out 0 _ rfl)) (And.intro ((((F62.at 1 rfl : Sl iceEnc 8 g5_43 (g5_43 + 1) _ (.slice (some ⟨g5_43, 0, none⟩) 4 4) ([x, ic, ic, x]))).cells0 hz60.out 1 _ rfl)) (And.intro ((((F62.at 1 rfl : Sl iceEnc 8 g5_43 (g5_43 + 1) _ (.slice (some ⟨g5_43, 0, none⟩) 4 4) ([x, ic, ic, x]))).cells0 hz60.out 2 _ rfl)) (And.intro ((((F62.at 1 rfl : Sl iceEnc 8 g5_43 (g5_43 + 1) _ (.slice (some ⟨g5_43, 0, none⟩) 4 4) ([x, ic, ic, x]))).cells0 hz60.out 3 _ rfl)) (And.intro ((((F62.at 1 rfl : Sl iceEnc 8 g5_43 (g5_43 + 1) _ (.slice (some ⟨g5_43, 0, none⟩) 4 4) ([x, ic, ic, x]))).cells0 hz60.out 4 _ rfl)) (And.intro ((((F62.at 1 rfl : Sl iceEnc 8 g5_43 (g5_43 + 1) _ (.slice (some ⟨g5_43, 0, none⟩) 4 4) ([x, ic, ic, x]))).cells0 hz60.out 5 _ rfl)) (And.intro ((((F62.at 1 rfl : Sl iceEnc 8 g5_43 (g5_43 + 1) _ (.slice (some ⟨g5_43, 0, none⟩) 4 4) ([x, ic, ic, x]))).cells0 hz60.out 6 _ rfl)) (And.intro ((((F62.at 1 rfl : Sl iceEnc 8 g5_43 (g5_43 + 1) _ (.slice (some ⟨g5_43, 0, none⟩) 4 4) ([x, ic, ic, x]))).cells0 hz60.out 7 _ rfl)) (And.intro ((((F62.at 0 rfl : Sl iceEnc 8 g5_48 (g5_48 + 1) _ (.slice (some ⟨g5_48, 0, none⟩) 4 4) ([core, ⟨⟨max 0 (nr.bl.lo + r30), nr.bl.hi + r37⟩, ⟨nr.wh.lo, nr.wh.hi⟩, ⟨nr.we.lo, nr.we.hi⟩, ⟨nr.sn.lo, nr.sn.hi⟩⟩, core, ⟨⟨max 0 (nr.bl.lo + r30), nr.bl.hi + r37⟩, ⟨nr.wh.lo, nr.wh.hi⟩, ⟨nr.we.lo, nr.we.hi⟩, ⟨nr.sn.lo, nr.sn.hi⟩⟩]))).cells0 hz61.out 0 _ rfl)) (And.intro ((((F62.at 0 rfl : Sl iceEnc 8 g5_48 (g5_48 + 1) _ (.slice (some ⟨g5_48, 0, none⟩) 4 4) ([core, ⟨⟨max 0 (nr.bl.lo + r30), nr.bl.hi + r37⟩, ⟨nr.wh.lo, nr.wh.hi⟩, ⟨nr.we.lo, nr.we.hi⟩, ⟨nr.sn.lo, nr.sn.hi⟩⟩, core, ⟨⟨max 0 (nr.bl.lo + r30), nr.bl.hi + r37⟩, ⟨nr.wh.lo, nr.wh.hi⟩, ⟨nr.we.lo, nr.we.hi⟩, ⟨nr.sn.lo, nr.sn.hi⟩⟩]))).cells0 hz61.out 1 _ rfl)) (And.intro ((((F62.at 0 rfl : Sl iceEnc 8 g5_48 (g5_48 + 1) _ (.slice (some ⟨g5_48, 0, none⟩) 4 4) ([core, ⟨⟨max 0 (nr.bl.lo + r30), nr.bl.hi + r37⟩, ⟨nr.wh.lo, nr.wh.hi⟩, ⟨nr.we.lo, nr.we.hi⟩, ⟨nr.sn.lo, nr.sn.hi⟩⟩, core, ⟨⟨max 0 (nr.bl.lo + r30), nr.bl.hi + r37⟩, ⟨nr.wh.lo, nr.wh.hi⟩, ⟨nr.we.lo, nr.we.hi⟩, ⟨nr.sn.lo, nr.sn.hi⟩⟩]))).cells0 hz61.out 2 _ rfl)) (And.intro ((((F62.at 0 rfl : Sl iceEnc 8 g5_48 (g5_48 + 1) _ (.slice (some ⟨g5_48, 0, none⟩) 4 4) ([core, ⟨⟨max 0 (nr.bl.lo + r30), nr.bl.hi + r37⟩, ⟨nr.wh.lo, nr.wh.hi⟩, ⟨nr.we.lo, nr.we.hi⟩, ⟨nr.sn.lo, nr.sn.hi⟩⟩, core, ⟨⟨max 0 (nr.bl.lo + r30), nr.bl.hi + r37⟩, ⟨nr.wh.lo, nr.wh.hi⟩, ⟨nr.we.lo, nr.we.hi⟩, ⟨nr.sn.lo, nr.sn.hi⟩⟩]))).cells0 hz61.out 3 _ rfl)) (And.intro ((((F62.at 0 rfl : Sl iceEnc 8 g5_48 (g5_48 + 1) _ (.slice (some ⟨g5_48, 0, none⟩) 4 4) ([core, ⟨⟨max 0 (nr.bl.lo + r30), nr.bl.hi + r37⟩, ⟨nr.wh.lo, nr.wh.hi⟩, ⟨nr.we.lo, nr.we.hi⟩, ⟨nr.sn.lo, nr.sn.hi⟩⟩, core, ⟨⟨max 0 (nr.bl.lo + r30), nr.bl.hi + r37⟩, ⟨nr.wh.lo, nr.wh.hi⟩, ⟨nr.we.lo, nr.we.hi⟩, ⟨nr.sn.lo, nr.sn.hi⟩⟩]))).cells0 hz61.out 4 _ rfl)) (And.intro ((((F62.at 0 rfl : Sl iceEnc 8 g5_48 (g5_48 + 1) _ (.slice (some ⟨g5_48, 0, none⟩) 4 4) ([core, ⟨⟨max 0 (nr.bl.lo + r30), nr.bl.hi + r37⟩, ⟨nr.wh.lo, nr.wh.hi⟩, ⟨nr.we.lo, nr.we.hi⟩, ⟨nr.sn.lo, nr.sn.hi⟩⟩, core, ⟨⟨max 0 (nr.bl.lo + r30), nr.bl.hi + r37⟩, ⟨nr.wh.lo, nr.wh.hi⟩, ⟨nr.we.lo, nr.we.hi⟩, ⟨nr.sn.lo, nr.sn.hi⟩⟩]))).cells0 hz61.out 5 _ rfl)) (And.intro ((((F62.at 0 rfl : Sl iceEnc 8 g5_48 (g5_48 + 1) _ (.slice (some ⟨g5_48, 0, none⟩) 4 4) ([core, ⟨⟨max 0 (nr.bl.lo + r30), nr.bl.hi + r37⟩, ⟨nr.wh.lo, nr.wh.hi⟩, ⟨nr.we.lo, nr.we.hi⟩, ⟨nr.sn.lo, nr.sn.hi⟩⟩, core, ⟨⟨max 0 (nr.bl.lo + r30), nr.bl.hi + r37⟩, ⟨nr.wh.lo, nr.wh.hi⟩, ⟨nr.we.lo, nr.we.hi⟩, ⟨nr.sn.lo, nr.sn.hi⟩⟩]))).cells0 hz61.out 6 _ rfl)) ((((F62.at 0 rfl : Sl iceEnc 8 g5_48 (g5_48 + 1) _ (.slice (some ⟨g5_48, 0, none⟩) 4 4) ([core, ⟨⟨max 0 (nr.bl.lo + r30), nr.bl.hi + r37⟩, ⟨nr.wh.lo, nr.wh.hi⟩, ⟨nr.we.lo, nr.we.hi⟩, ⟨nr.sn.lo, nr.sn.hi⟩⟩, core, ⟨⟨max 0 (nr.bl.lo + r30), nr.bl.hi + r37⟩, ⟨nr.wh.lo, nr.wh.hi⟩, ⟨nr.we.lo, nr.we.hi⟩, ⟨nr.sn.lo, nr.sn.hi⟩⟩]))).cells0 hz61.out 7 _ rfl)))))))))))))))))
        refine ru_take 0 [] (v := ?_) rfl (by kernel_rfl) (fun _ _ _ h => h) (by assumption) (.inl ⟨by first | kernel_rfl | rfl, ?_⟩) ?_
        rotate_left
        · (intro wS hwS; (try dsimp only at hwS); go_simp; (try with_reducible rfl))
        (try simp only [Act.put, List.setIfInBounds_toArray, List.set_cons_zero, List.set_cons_succ])
        refine ru_take 1 [] (v := ?_) rfl (by kernel_rfl) (fun _ _ _ h => h) (by assumption) (.inl ⟨by first | kernel_rfl | rfl, ?_⟩) ?_
        rotate_left
        · (intro wS hwS; (try dsimp only at hwS); go_simp; (try with_reducible rfl))
        (try simp only [Act.put, List.setIfInBounds_toArray, List.set_cons_zero, List.set_cons_succ])
        refine ru_take 2 [] (v := ?_) rfl (by kernel_rfl) (fun _ _ _ h => h) (by assumption) (.inl ⟨by first | kernel_rfl | rfl, ?_⟩) ?_
        rotate_left
        · (intro wS hwS; (try dsimp only at hwS); go_simp; (try with_reducible rfl))
        (try simp only [Act.put, List.setIfInBounds_toArray, List.set_cons_zero, List.set_cons_succ])
        refine ru_take 3 [] (v := ?_) rfl (by kernel_rfl) (fun _ _ _ h => h) (by assumption) (.inl ⟨by first | kernel_rfl | rfl, ?_⟩) ?_
        rotate_left
        · (intro wS hwS; (try dsimp only at hwS); go_simp; (try with_reducible rfl))
        (try simp only [Act.put, List.setIfInBounds_toArray, List.set_cons_zero, List.set_cons_succ])
        refine ru_take 4 [] (v := ?_) rfl (by kernel_rfl) (fun _ _ _ h => h) (by assumption) (.inl ⟨by first | kernel_rfl | rfl, ?_⟩) ?_
        rotate_left
        · (intro wS hwS; (try dsimp only at hwS); go_simp; (try with_reducible rfl))
        (try simp only [Act.put, List.setIfInBounds_toArray, List.set_cons_zero, List.set_cons_succ])
        refine ru_take 5 [] (v := ?_) rfl (by kernel_rfl) (fun _ _ _ h => h) (by assumption) (.inl ⟨by first | kernel_rfl | rfl, ?_⟩) ?_
        rotate_left
        · (intro wS hwS; (try dsimp only at hwS); go_simp; (try with_reducible rfl))
        (try simp only [Act.put, List.setIfInBounds_toArray, List.set_cons_zero, List.set_cons_succ])
        refine ru_take 6 [] (v := ?_) rfl (by kernel_rfl) (fun _ _ _ h => h) (by assumption) (.inl ⟨by first | kernel_rfl | rfl, ?_⟩) ?_
        rotate_left
        · (intro wS hwS; (try dsimp only at hwS); go_simp; (try with_reducible rfl))
        (try simp only [Act.put, List.setIfInBounds_toArray, List.set_cons_zero, List.set_cons_succ])
        refine ru_take 7 [] (v := ?_) rfl (by kernel_rfl) (fun _ _ _ h => h) (by assumption) (.inl ⟨by first | kernel_rfl | rfl, ?_⟩) ?_
        rotate_left
        · (intro wS hwS; (try dsimp only at hwS); go_simp; (try with_reducible rfl))
        (try simp only [Act.put, List.setIfInBounds_toArray, List.set_cons_zero, List.set_cons_succ])
        clear hS63
        have hSS : ∀ (LA : List Res) (W : World), Bun w ([rsl iceEnc 8 g5_48 (g5_48 + 1) (.slice (some ⟨g5_48, 0, none⟩) 4 4) ([core, ⟨⟨max 0 (nr.bl.lo + r30), nr.bl.hi + r37⟩, ⟨nr.wh.lo, nr.wh.hi⟩, ⟨nr.we.lo, nr.we.hi⟩, ⟨nr.sn.lo, nr.sn.hi⟩⟩, core, ⟨⟨max 0 (nr.bl.lo + r30), nr.bl.hi + r37⟩, ⟨nr.wh.lo, nr.wh.hi⟩, ⟨nr.we.lo, nr.we.hi⟩, ⟨nr.sn.lo, nr.sn.hi⟩⟩]), rsl iceEnc 8 g5_43 (g5_43 + 1) (.slice (some ⟨g5_43, 0, none⟩) 4 4) ([x, ic, ic, x]), rseed sb, rsl intEnc 1 0 w.heap.size (.slice na zs.length nc) zs] ++ LA) W ∧ w58.heap.size ≤ W.heap.size → W.cell? ⟨g5_43, k * 8, none⟩ = some (.int .i64 z.bl.lo) ∧ W.cell? ⟨g5_43, k * 8 + 1, none⟩ = some (.int .i64 z.bl.hi) ∧ W.cell? ⟨g5_43, k * 8 + 2, none⟩ = some (.int .i64 z.wh.lo) ∧ W.cell? ⟨g5_43, k * 8 + 3, none⟩ = some (.int .i64 z.wh.hi) ∧ W.cell? ⟨g5_43, k * 8 + 4, none⟩ = some (.int .i64 z.we.lo) ∧ W.cell? ⟨g5_43, k * 8 + 5, none⟩ = some (.int .i64 z.we.hi) ∧ W.cell? ⟨g5_43, k * 8 + 6, none⟩ = some (.int .i64 z.sn.lo) ∧ W.cell? ⟨g5_43, k * 8 + 7, none⟩ = some (.int .i64 z.sn.hi) ∧ W.cell? ⟨g5_48, k * 8, none⟩ = some (.int .i64 y.bl.lo) ∧ W.cell? ⟨g5_48, k * 8 + 1, none⟩ = some (.int .i64 y.bl.hi) ∧ W.cell? ⟨g5_48, k * 8 + 2, none⟩ = some (.int .i64 y.wh.lo) ∧ W.cell? ⟨g5_48, k * 8 + 3, none⟩ = some (.int .i64 y.wh.hi) ∧ W.cell? ⟨g5_48, k * 8 + 4, none⟩ = some (.int .i64 y.we.lo) ∧ W.cell? ⟨g5_48, k * 8 + 5, none⟩ = some (.int .i64 y.we.hi) ∧ W.cell? ⟨g5_48, k * 8 + 6, none⟩ = some (.int .i64 y.sn.lo) ∧ W.cell? ⟨g5_48, k * 8 + 7, none⟩ = some (.int .i64 y.sn.hi) := fun _ _ ⟨F_, _⟩ => ⟨(((F_.at 1 rfl : Sl iceEnc 8 g5_43 (g5_43 + 1) _ (.slice (some ⟨g5_43, 0, none⟩) 4 4) ([x, ic, ic, x]))).cells0 hz60.out 0 _ rfl), (((F_.at 1 rfl : Sl iceEnc 8 g5_43 (g5_43 + 1) _ (.slice (some ⟨g5_43, 0, none⟩) 4 4) ([x, ic, ic, x]))).cells0 hz60.out 1 _ rfl), (((F_.at 1 rfl : Sl iceEnc 8 g5_43 (g5_43 + 1) _ (.slice (some ⟨g5_43, 0, none⟩) 4 4) ([x, ic, ic, x]))).cells0 hz60.out 2 _ rfl), (((F_.at 1 rfl : Sl iceEnc 8 g5_43 (g5_43 + 1) _ (.slice (some ⟨g5_43, 0, none⟩) 4 4) ([x, ic, ic, x]))).cells0 hz60.out 3 _ rfl), (((F_.at 1 rfl : Sl iceEnc 8 g5_43 (g5_43 + 1) _ (.slice (some ⟨g5_43, 0, none⟩) 4 4) ([x, ic, ic, x]))).cells0 hz60.out 4 _ rfl), (((F_.at 1 rfl : Sl iceEnc 8 g5_43 (g5_43 + 1) _ (.slice (some ⟨g5_43, 0, none⟩) 4 4) ([x, ic, ic, x]))).cells0 hz60.out 5 _ rfl), (((F_.at 1 rfl : Sl iceEnc 8 g5_43 (g5_43 + 1) _ (.slice (some ⟨g5_43, 0, none⟩) 4 4) ([x, ic, ic, x]))).cells0 hz60.out 6 _ rfl), (((F_.at 1 rfl : Sl iceEnc 8 g5_43 (g5_43 + 1) _ (.slice (some ⟨g5_43, 0, none⟩) 4 4) ([x, ic, ic, x]))).cells0 hz60.out 7 _ rfl), (((F_.at 0 rfl : Sl iceEnc 8 g5_48 (g5_48 + 1) _ (.slice (some ⟨g5_48, 0, none⟩) 4 4) ([core, ⟨⟨max 0 (nr.bl.lo + r30), nr.bl.hi + r37⟩, ⟨nr.wh.lo, nr.wh.hi⟩, ⟨nr.we.lo, nr.we.hi⟩, ⟨nr.sn.lo, nr.sn.hi⟩⟩, core, ⟨⟨max 0 (nr.bl.lo + r30), nr.bl.hi + r37⟩, ⟨nr.wh.lo, nr.wh.hi⟩, ⟨nr.we.lo, nr.we.hi⟩, ⟨nr.sn.lo, nr.sn.hi⟩⟩]))).cells0 hz61.out 0 _ rfl), (((F_.at 0 rfl : Sl iceEnc 8 g5_48 (g5_48 + 1) _ (.slice (some ⟨g5_48, 0, none⟩) 4 4) ([core, ⟨⟨max 0 (nr.bl.lo + r30), nr.bl.hi + r37⟩, ⟨nr.wh.lo, nr.wh.hi⟩, ⟨nr.we.lo, nr.we.hi⟩, ⟨nr.sn.lo, nr.sn.hi⟩⟩, core, ⟨⟨max 0 (nr.bl.lo + r30), nr.bl.hi + r37⟩, ⟨nr.wh.lo, nr.wh.hi⟩, ⟨nr.we.lo, nr.we.hi⟩, ⟨nr.sn.lo, nr.sn.hi⟩⟩]))).cells0 hz61.out 1 _ rfl), (((F_.at 0 rfl : Sl iceEnc 8 g5_48 (g5_48 + 1) _ (.slice (some ⟨g5_48, 0, none⟩) 4 4) ([core, ⟨⟨max 0 (nr.bl.lo + r30), nr.bl.hi + r37⟩, ⟨nr.wh.lo, nr.wh.hi⟩, ⟨nr.we.lo, nr.we.hi⟩, ⟨nr.sn.lo, nr.sn.hi⟩⟩, core, ⟨⟨max 0 (nr.bl.lo + r30), nr.bl.hi + r37⟩, ⟨nr.wh.lo, nr.wh.hi⟩, ⟨nr.we.lo, nr.we.hi⟩, ⟨nr.sn.lo, nr.sn.hi⟩⟩]))).cells0 hz61.out 2 _ rfl), (((F_.at 0 rfl : Sl iceEnc 8 g5_48 (g5_48 + 1) _ (.slice (some ⟨g5_48, 0, none⟩) 4 4) ([core, ⟨⟨max 0 (nr.bl.lo + r30), nr.bl.hi + r37⟩, ⟨nr.wh.lo, nr.wh.hi⟩, ⟨nr.we.lo, nr.we.hi⟩, ⟨nr.sn.lo, nr.sn.hi⟩⟩, core, ⟨⟨max 0 (nr.bl.lo + r30), nr.bl.hi + r37⟩, ⟨nr.wh.lo, nr.wh.hi⟩, ⟨nr.we.lo, nr.we.hi⟩, ⟨nr.sn.lo, nr.sn.hi⟩⟩]))).cells0 hz61.out 3 _ rfl), (((F_.at 0 rfl : Sl iceEnc 8 g5_48 (g5_48 + 1) _ (.slice (some ⟨g5_48, 0, none⟩) 4 4) ([core, ⟨⟨max 0 (nr.bl.lo + r30), nr.bl.hi + r37⟩, ⟨nr.wh.lo, nr.wh.hi⟩, ⟨nr.we.lo, nr.we.hi⟩, ⟨nr.sn.lo, nr.sn.hi⟩⟩, core, ⟨⟨max 0 (nr.bl.lo + r30), nr.bl.hi + r37⟩, ⟨nr.wh.lo, nr.wh.hi⟩, ⟨nr.we.lo, nr.we.hi⟩, ⟨nr.sn.lo, nr.sn.hi⟩⟩]))).cells0 hz61.out 4 _ rfl), (((F_.at 0 rfl : Sl iceEnc 8 g5_48 (g5_48 + 1) _ (.slice (some ⟨g5_48, 0, none⟩) 4 4) ([core, ⟨⟨max 0 (nr.bl.lo + r30), nr.bl.hi + r37⟩, ⟨nr.wh.lo, nr.wh.hi⟩, ⟨nr.we.lo, nr.we.hi⟩, ⟨nr.sn.lo, nr.sn.hi⟩⟩, core, ⟨⟨max 0 (nr.bl.lo + r30), nr.bl.hi + r37⟩, ⟨nr.wh.lo, nr.wh.hi⟩, ⟨nr.we.lo, nr.we.hi⟩, ⟨nr.sn.lo, nr.sn.hi⟩⟩]))).cells0 hz61.out 5 _ rfl), (((F_.at 0 rfl : Sl iceEnc 8 g5_48 (g5_48 + 1) _ (.slice (some ⟨g5_48, 0, none⟩) 4 4) ([core, ⟨⟨max 0 (nr.bl.lo + r30), nr.bl.hi + r37⟩, ⟨nr.wh.lo, nr.wh.hi⟩, ⟨nr.we.lo, nr.we.hi⟩, ⟨nr.sn.lo, nr.sn.hi⟩⟩, core, ⟨⟨max 0 (nr.bl.lo + r30), nr.bl.hi + r37⟩, ⟨nr.wh.lo, nr.wh.hi⟩, ⟨nr.we.lo, nr.we.hi⟩, ⟨nr.sn.lo, nr.sn.hi⟩⟩]))).cells0 hz61.out 6 _ rfl), (((F_.at 0 rfl : Sl iceEnc 8 g5_48 (g5_48 + 1) _ (.slice (some ⟨g5_48, 0, none⟩) 4 4) ([core, ⟨⟨max 0 (nr.bl.lo + r30), nr.bl.hi + r37⟩, ⟨nr.wh.lo, nr.wh.hi⟩, ⟨nr.we.lo, nr.we.hi⟩, ⟨nr.sn.lo, nr.sn.hi⟩⟩, core, ⟨⟨max 0 (nr.bl.lo + r30), nr.bl.hi + r37⟩, ⟨nr.wh.lo, nr.wh.hi⟩, ⟨nr.we.lo, nr.we.hi⟩, ⟨nr.sn.lo, nr.sn.hi⟩⟩]))).cells0 hz61.out 7 _ rfl)⟩
        refine ru_mix (goodBunS _ w58.heap.size) 88 [⟨12, 13, 32, (z8)⟩] [8, 9, 10, 11] 2 (by kernel_rfl) (by kernel_rfl) (fun _ _ _ _ _ h => h) (U0 := (fun t => t 10 = .slice (some ⟨g5_43, 0, none⟩) 4 4 ∧ t 11 = .slice (some ⟨g5_48, 0, none⟩) 4 4 ∧ t 12 = .int .i64 (k : Int) ∧ t 59 = .agg (iceC z) ∧ t 63 = .agg (iceC y))) (Um := (fun t => t 10 = .slice (some ⟨g5_43, 0, none⟩) 4 4 ∧ t 11 = .slice (some ⟨g5_48, 0, none⟩) 4 4 ∧ t 12 = .int .i64 (k : Int) ∧ t 65 = .agg #[.int .i64 ((coreI z y).bl.lo), .int .i64 ((coreI z y).bl.hi), .int .i64 ((coreI z y).wh.lo), .int .i64 ((coreI z y).wh.hi), .int .i64 ((coreI z y).we.lo), .int .i64 ((coreI z y).we.hi), .int .i64 ((coreI z y).sn.lo), .int .i64 ((coreI z y).sn.hi)] ∧ t 66 = .int .i64 (coreE z y))) (L0 := [rsl iceEnc 8 g5_48 (g5_48 + 1) (.slice (some ⟨g5_48, 0, none⟩) 4 4) ([core, ⟨⟨max 0 (nr.bl.lo + r30), nr.bl.hi + r37⟩, ⟨nr.wh.lo, nr.wh.hi⟩, ⟨nr.we.lo, nr.we.hi⟩, ⟨nr.sn.lo, nr.sn.hi⟩⟩, core, ⟨⟨max 0 (nr.bl.lo + r30), nr.bl.hi + r37⟩, ⟨nr.wh.lo, nr.wh.hi⟩, ⟨nr.we.lo, nr.we.hi⟩, ⟨nr.sn.lo, nr.sn.hi⟩⟩]), rsl iceEnc 8 g5_43 (g5_43 + 1) (.slice (some ⟨g5_43, 0, none⟩) 4 4) ([x, ic, ic, x]), rseed sb, rsl intEnc 1 0 w.heap.size (.slice na zs.length nc) zs]) (Lm := [rsl iceEnc 8 g5_48 (g5_48 + 1) (.slice (some ⟨g5_48, 0, none⟩) 4 4) ([core, ⟨⟨max 0 (nr.bl.lo + r30), nr.bl.hi + r37⟩, ⟨nr.wh.lo, nr.wh.hi⟩, ⟨nr.we.lo, nr.we.hi⟩, ⟨nr.sn.lo, nr.sn.hi⟩⟩, core, ⟨⟨max 0 (nr.bl.lo + r30), nr.bl.hi + r37⟩, ⟨nr.wh.lo, nr.wh.hi⟩, ⟨nr.we.lo, nr.we.hi⟩, ⟨nr.sn.lo, nr.sn.hi⟩⟩]), rsl iceEnc 8 g5_43 (g5_43 + 1) (.slice (some ⟨g5_43, 0, none⟩) 4 4) ([x, ic, ic, x]), rseed sb, rsl intEnc 1 0 w.heap.size (.slice na zs.length nc) zs]) ?chM65 ?alM65 ⟨(by kernel_rfl), rfl, ⟨(by kernel_rfl), (by kernel_rfl), (by kernel_rfl), (by kernel_rfl), (by kernel_rfl)⟩⟩ ⟨F62, (by first | assumption | omega)⟩ ?restM65
        case chM65 =>
          refine Chain.callS 8 (fun t => t 10 = .slice (some ⟨g5_43, 0, none⟩) 4 4 ∧ t 11 = .slice (some ⟨g5_48, 0, none⟩) 4 4 ∧ t 12 = .int .i64 (k : Int) ∧ t 64 = .tuple #[.agg #[.int .i64 ((coreI z y).bl.lo), .int .i64 ((coreI z y).bl.hi), .int .i64 ((coreI z y).wh.lo), .int .i64 ((coreI z y).wh.hi), .int .i64 ((coreI z y).we.lo), .int .i64 ((coreI z y).we.hi), .int .i64 ((coreI z y).sn.lo), .int .i64 ((coreI z y).sn.hi)], .int .i64 (coreE z y)]) (List.forall_mem_cons.2 ⟨fun _ _ u => u, fun _ h => (by cases h)⟩) hSS (by kernel_rfl) ?_ ?_
          · rintro t w_ LA ⟨e10, e11, e12, e59, e63⟩ ⟨F_, hwn_⟩
            have hws := F_.gb.size
            have e : ((List.range 88).map t).toArray = #[t 0, t 1, t 2, t 3, t 4, t 5, t 6, t 7, t 8, t 9, t 10, t 11, t 12, t 13, t 14, t 15, t 16, t 17, t 18, t 19, t 20, t 21, t 22, t 23, t 24, t 25, t 26, t 27, t 28, t 29, t 30, t 31, t 32, t 33, t 34, t 35, t 36, t 37, t 38, t 39, t 40, t 41, t 42, t 43, t 44, t 45, t 46, t 47, t 48, t 49, t 50, t 51, t 52, t 53, t 54, t 55, t 56, t 57, t 58, t 59, t 60, t 61, t 62, t 63, t 64, t 65, t 66, t 67, t 68, t 69, t 70, t 71, t 72, t 73, t 74, t 75, t 76, t 77, t 78, t 79, t 80, t 81, t 82, t 83, t 84, t 85, t 86, t 87] := rfl
            (try dsimp only at e)
            rw [e10, e11, e12, e59, e63] at e; rw [e]; clear e e10 e11 e12 e59 e63
            refine wpOp_stepH rfl (fun K hK => ?_)
            go_simp
            refine (core_c z y _).mono ?_
            rintro e w66 ⟨rfl, hg67⟩
            exact hK.out _ _ ⟨(by kernel_rfl), rfl, ⟨(by kernel_rfl), (by kernel_rfl), (by kernel_rfl), (by kernel_rfl)⟩, List.forall_mem_cons.2 ⟨(by kernel_rfl), fun _ h => (by cases h)⟩, ⟨F_.gn hg67, Nat.le_trans hwn_ hg67.size⟩, hSS _ _ ⟨F_.gn hg67, Nat.le_trans hwn_ hg67.size⟩⟩
          refine Chain.pureS 9 (fun t => t 10 = .slice (some ⟨g5_43, 0, none⟩) 4 4 ∧ t 11 = .slice (some ⟨g5_48, 0, none⟩) 4 4 ∧ t 12 = .int .i64 (k : Int) ∧ t 55 = .tuple #[.agg #[.int .i64 ((coreI z y).bl.lo), .int .i64 ((coreI z y).bl.hi), .int .i64 ((coreI z y).wh.lo), .int .i64 ((coreI z y).wh.hi), .int .i64 ((coreI z y).we.lo), .int .i64 ((coreI z y).we.hi), .int .i64 ((coreI z y).sn.lo), .int .i64 ((coreI z y).sn.hi)], .int .i64 (coreE z y)]) rfl (List.forall_mem_cons.2 ⟨fun _ _ u => u, fun _ h => (by cases h)⟩) hSS (by kernel_rfl) ?_ ?_
          · rintro t ⟨e10, e11, e12, e64⟩
            have e : ((List.range 88).map t).toArray = #[t 0, t 1, t 2, t 3, t 4, t 5, t 6, t 7, t 8, t 9, t 10, t 11, t 12, t 13, t 14, t 15, t 16, t 17, t 18, t 19, t 20, t 21, t 22, t 23, t 24, t 25, t 26, t 27, t 28, t 29, t 30, t 31, t 32, t 33, t 34, t 35, t 36, t 37, t 38, t 39, t 40, t 41, t 42, t 43, t 44, t 45, t 46, t 47, t 48, t 49, t 50, t 51, t 52, t 53, t 54, t 55, t 56, t 57, t 58, t 59, t 60, t 61, t 62, t 63, t 64, t 65, t 66, t 67, t 68, t 69, t 70, t 71, t 72, t 73, t 74, t 75, t 76, t 77, t 78, t 79, t 80, t 81, t 82, t 83, t 84, t 85, t 86, t 87] := rfl
            (try dsimp only at e)
            rw [e10, e11, e12, e64] at e; rw [e]; clear e e10 e11 e12 e64
            refine ⟨.tuple #[.agg #[.int .i64 ((coreI z y).bl.lo), .int .i64 ((coreI z y).bl.hi), .int .i64 ((coreI z y).wh.lo), .int .i64 ((coreI z y).wh.hi), .int .i64 ((coreI z y).we.lo), .int .i64 ((coreI z y).we.hi), .int .i64 ((coreI z y).sn.lo), .int .i64 ((coreI z y).sn.hi)], .int .i64 (coreE z y)], .inl ⟨by first | kernel_rfl | rfl, ?_⟩, ⟨(by kernel_rfl), rfl⟩, ⟨(by kernel_rfl), (by kernel_rfl), (by kernel_rfl), (by kernel_rfl)⟩, List.forall_mem_cons.2 ⟨(by kernel_rfl), fun _ h => (by cases h)⟩⟩
            intro wS _
            go_simp
            (try with_reducible rfl)
          refine Chain.pureS 10 (fun t => t 10 = .slice (some ⟨g5_43, 0, none⟩) 4 4 ∧ t 11 = .slice (some ⟨g5_48, 0, none⟩) 4 4 ∧ t 12 = .int .i64 (k : Int) ∧ t 55 = .tuple #[.agg #[.int .i64 ((coreI z y).bl.lo), .int .i64 ((coreI z y).bl.hi), .int .i64 ((coreI z y).wh.lo), .int .i64 ((coreI z y).wh.hi), .int .i64 ((coreI z y).we.lo), .int .i64 ((coreI z y).we.hi), .int .i64 ((coreI z y).sn.lo), .int .i64 ((coreI z y).sn.hi)], .int .i64 (coreE z y)] ∧ t 65 = .agg #[.int .i64 ((coreI z y).bl.lo), .int .i64 ((coreI z y).bl.hi), .int .i64 ((coreI z y).wh.lo), .int .i64 ((coreI z y).wh.hi), .int .i64 ((coreI z y).we.lo), .int .i64 ((coreI z y).we.hi), .int .i64 ((coreI z y).sn.lo), .int .i64 ((coreI z y).sn.hi)]) rfl (List.forall_mem_cons.2 ⟨fun _ _ u => u, fun _ h => (by cases h)⟩) hSS (by kernel_rfl) ?_ ?_
          · rintro t ⟨e10, e11, e12, e55⟩
            have e : ((List.range 88).map t).toArray = #[t 0, t 1, t 2, t 3, t 4, t 5, t 6, t 7, t 8, t 9, t 10, t 11, t 12, t 13, t 14, t 15, t 16, t 17, t 18, t 19, t 20, t 21, t 22, t 23, t 24, t 25, t 26, t 27, t 28, t 29, t 30, t 31, t 32, t 33, t 34, t 35, t 36, t 37, t 38, t 39, t 40, t 41, t 42, t 43, t 44, t 45, t 46, t 47, t 48, t 49, t 50, t 51, t 52, t 53, t 54, t 55, t 56, t 57, t 58, t 59, t 60, t 61, t 62, t 63, t 64, t 65, t 66, t 67, t 68, t 69, t 70, t 71, t 72, t 73, t 74, t 75, t 76, t 77, t 78, t 79, t 80, t 81, t 82, t 83, t 84, t 85, t 86, t 87] := rfl
            (try dsimp only at e)
            rw [e10, e11, e12, e55] at e; rw [e]; clear e e10 e11 e12 e55
            refine ⟨.agg #[.int .i64 ((coreI z y).bl.lo), .int .i64 ((coreI z y).bl.hi), .int .i64 ((coreI z y).wh.lo), .int .i64 ((coreI z y).wh.hi), .int .i64 ((coreI z y).we.lo), .int .i64 ((coreI z y).we.hi), .int .i64 ((coreI z y).sn.lo), .int .i64 ((coreI z y).sn.hi)], .inl ⟨by first | kernel_rfl | rfl, ?_⟩, ⟨(by kernel_rfl), rfl⟩, ⟨(by kernel_rfl), (by kernel_rfl), (by kernel_rfl), (by kernel_rfl), (by kernel_rfl)⟩, List.forall_mem_cons.2 ⟨(by kernel_rfl), fun _ h => (by cases h)⟩⟩
            intro wS _
            go_simp
            (try with_reducible rfl)
          refine Chain.pureS 11 (fun t => t 10 = .slice (some ⟨g5_43, 0, none⟩) 4 4 ∧ t 11 = .slice (some ⟨g5_48, 0, none⟩) 4 4 ∧ t 12 = .int .i64 (k : Int) ∧ t 65 = .agg #[.int .i64 ((coreI z y).bl.lo), .int .i64 ((coreI z y).bl.hi), .int .i64 ((coreI z y).wh.lo), .int .i64 ((coreI z y).wh.hi), .int .i64 ((coreI z y).we.lo), .int .i64 ((coreI z y).we.hi), .int .i64 ((coreI z y).sn.lo), .int .i64 ((coreI z y).sn.hi)] ∧ t 66 = .int .i64 (coreE z y)) rfl (List.forall_mem_cons.2 ⟨fun _ _ u => u, fun _ h => (by cases h)⟩) hSS (by kernel_rfl) ?_ ?_
          · rintro t ⟨e10, e11, e12, e55, e65⟩
            have e : ((List.range 88).map t).toArray = #[t 0, t 1, t 2, t 3, t 4, t 5, t 6, t 7, t 8, t 9, t 10, t 11, t 12, t 13, t 14, t 15, t 16, t 17, t 18, t 19, t 20, t 21, t 22, t 23, t 24, t 25, t 26, t 27, t 28, t 29, t 30, t 31, t 32, t 33, t 34, t 35, t 36, t 37, t 38, t 39, t 40, t 41, t 42, t 43, t 44, t 45, t 46, t 47, t 48, t 49, t 50, t 51, t 52, t 53, t 54, t 55, t 56, t 57, t 58, t 59, t 60, t 61, t 62, t 63, t 64, t 65, t 66, t 67, t 68, t 69, t 70, t 71, t 72, t 73, t 74, t 75, t 76, t 77, t 78, t 79, t 80, t 81, t 82, t 83, t 84, t 85, t 86, t 87] := rfl
            (try dsimp only at e)
            rw [e10, e11, e12, e55, e65] at e; rw [e]; clear e e10 e11 e12 e55 e65
            refine ⟨.int .i64 (coreE z y), .inl ⟨by first | kernel_rfl | rfl, ?_⟩, ⟨(by kernel_rfl), rfl⟩, ⟨(by kernel_rfl), (by kernel_rfl), (by kernel_rfl), (by kernel_rfl), (by kernel_rfl)⟩, List.forall_mem_cons.2 ⟨(by kernel_rfl), fun _ h => (by cases h)⟩⟩
            intro wS _
            go_simp
            (try with_reducible rfl)
          exact Chain.nil _ _ _ (List.forall_mem_cons.2 ⟨fun _ _ u => u, fun _ h => (by cases h)⟩) hSS
        case alM65 => exact List.forall_mem_cons.2 ⟨fun _ _ _ h => wpOp_step rfl (fun K hK => by go_simp; exact hK _ _ h), fun _ h => (by cases h)⟩
        case restM65 =>
          rintro t w70 g ⟨e10, e11, e12, e65, e66⟩ hA ⟨F_, hwnM65⟩
          clear hSS
          clear F62
          have hA0 : t 13 = .pointer (some ⟨g 12, 0, none⟩) := hA _ (.head _)
          have F71 : Bun w [rbox (g 12) 32 (z8), rsl iceEnc 8 g5_48 (g5_48 + 1) (.slice (some ⟨g5_48, 0, none⟩) 4 4) ([core, ⟨⟨max 0 (nr.bl.lo + r30), nr.bl.hi + r37⟩, ⟨nr.wh.lo, nr.wh.hi⟩, ⟨nr.we.lo, nr.we.hi⟩, ⟨nr.sn.lo, nr.sn.hi⟩⟩, core, ⟨⟨max 0 (nr.bl.lo + r30), nr.bl.hi + r37⟩, ⟨nr.wh.lo, nr.wh.hi⟩, ⟨nr.we.lo, nr.we.hi⟩, ⟨nr.sn.lo, nr.sn.hi⟩⟩]), rsl iceEnc 8 g5_43 (g5_43 + 1) (.slice (some ⟨g5_43, 0, none⟩) 4 4) ([x, ic, ic, x]), rseed sb, rsl intEnc 1 0 w.heap.size (.slice na zs.length nc) zs] w70 := F_
          clear hA F_
          obtain ⟨g69, hgx_⟩ : ∃ x_, g 12 = x_ := ⟨_, rfl⟩
          rw [hgx_] at hA0 F71; clear hgx_
          have hws := F71.gb.size
          have g69l := (F71.bx8 0 rfl).2.2
          have e : ((List.range 88).map t).toArray = #[t 0, t 1, t 2, t 3, t 4, t 5, t 6, t 7, t 8, t 9, t 10, t 11, t 12, t 13, t 14, t 15, t 16, t 17, t 18, t 19, t 20, t 21, t 22, t 23, t 24, t 25, t 26, t 27, t 28, t 29, t 30, t 31, t 32, t 33, t 34, t 35, t 36, t 37, t 38, t 39, t 40, t 41, t 42, t 43, t 44, t 45, t 46, t 47, t 48, t 49, t 50, t 51, t 52, t 53, t 54, t 55, t 56, t 57, t 58, t 59, t 60, t 61, t 62, t 63, t 64, t 65, t 66, t 67, t 68, t 69, t 70, t 71, t 72, t 73, t 74, t 75, t 76, t 77, t 78, t 79, t 80, t 81, t 82, t 83, t 84, t 85, t 86, t 87] := rfl
          (try dsimp only at e)
          rw [e10, e11, e12, e65, e66, hA0] at e; rw [e]; clear e e10 e11 e12 e65 e66 hA0
          refine ru_one 13 rfl (by kernel_rfl) (fun K hK => ?_)
          have kb_ := F71.bx8 0 rfl
          go_simp
          clear kb_
          have F72 := F71.pt8 (.int .i64 ((coreI z y).bl.lo)) (.int .i64 ((coreI z y).bl.hi)) (.int .i64 ((coreI z y).wh.lo)) (.int .i64 ((coreI z y).wh.hi)) (.int .i64 ((coreI z y).we.lo)) (.int .i64 ((coreI z y).we.hi)) (.int .i64 ((coreI z y).sn.lo)) (.int .i64 ((coreI z y).sn.hi))
          clear F71
          refine ru_back_late hK (by kernel_rfl) ?_
          clear hK K
          (try simp only [Act.put, List.setIfInBounds_toArray, List.set_cons_zero, List.set_cons_succ])
          refine ru_one 14 rfl (by kernel_rfl) (fun K hK => ?_)
          go_simp
          refine ru_back_late hK (by kernel_rfl) ?_
          clear hK K
          (try simp only [Act.put, List.setIfInBounds_toArray, List.set_cons_zero, List.set_cons_succ])
          refine ru_done (by kernel_rfl) ?_
          obtain ⟨w73, hx74, F76, hxs75⟩ := (show Bun w [rbox g69 32 #[.int .i64 ((coreI z y).bl.lo), .int .i64 ((coreI z y).bl.hi), .int .i64 ((coreI z y).wh.lo), .int .i64 ((coreI z y).wh.hi), .int .i64 ((coreI z y).we.lo), .int .i64 ((coreI z y).we.hi), .int .i64 ((coreI z y).sn.lo), .int .i64 ((coreI z y).sn.hi)], rsl iceEnc 8 g5_48 (g5_48 + 1) (.slice (some ⟨g5_48, 0, none⟩) 4 4) ([core, ⟨⟨max 0 (nr.bl.lo + r30), nr.bl.hi + r37⟩, ⟨nr.wh.lo, nr.wh.hi⟩, ⟨nr.we.lo, nr.we.hi⟩, ⟨nr.sn.lo, nr.sn.hi⟩⟩, core, ⟨⟨max 0 (nr.bl.lo + r30), nr.bl.hi + r37⟩, ⟨nr.wh.lo, nr.wh.hi⟩, ⟨nr.we.lo, nr.we.hi⟩, ⟨nr.sn.lo, nr.sn.hi⟩⟩]), rsl iceEnc 8 g5_43 (g5_43 + 1) (.slice (some ⟨g5_43, 0, none⟩) 4 4) ([x, ic, ic, x]), rseed sb, rsl intEnc 1 0 w.heap.size (.slice na zs.length nc) zs] _ from F72).name
          (try simp at hxs75)
          rw [hx74]
          clear hx74 F72
          go_wp2_with fail
          have F77 := F76.drew
          clear F76
          refine ru_begin (fun W => W.cell? ⟨g5_43, k * 8, none⟩ = some (.int .i64 z.bl.lo) ∧ W.cell? ⟨g5_43, k * 8 + 1, none⟩ = some (.int .i64 z.bl.hi) ∧ W.cell? ⟨g5_43, k * 8 + 2, none⟩ = some (.int .i64 z.wh.lo) ∧ W.cell? ⟨g5_43, k * 8 + 3, none⟩ = some (.int .i64 z.wh.hi) ∧ W.cell? ⟨g5_43, k * 8 + 4, none⟩ = some (.int .i64 z.we.lo) ∧ W.cell? ⟨g5_43, k * 8 + 5, none⟩ = some (.int .i64 z.we.hi) ∧ W.cell? ⟨g5_43, k * 8 + 6, none⟩ = some (.int .i64 z.sn.lo) ∧ W.cell? ⟨g5_43, k * 8 + 7, none⟩ = some (.int .i64 z.sn.hi) ∧ W.cell? ⟨g5_48, k * 8, none⟩ = some (.int .i64 y.bl.lo) ∧ W.cell? ⟨g5_48, k * 8 + 1, none⟩ = some (.int .i64 y.bl.hi) ∧ W.cell? ⟨g5_48, k * 8 + 2, none⟩ = some (.int .i64 y.wh.lo) ∧ W.cell? ⟨g5_48, k * 8 + 3, none⟩ = some (.int .i64 y.wh.hi) ∧ W.cell? ⟨g5_48, k * 8 + 4, none⟩ = some (.int .i64 y.we.lo) ∧ W.cell? ⟨g5_48, k * 8 + 5, none⟩ = some (.int .i64 y.we.hi) ∧ W.cell? ⟨g5_48, k * 8 + 6, none⟩ = some (.int .i64 y.sn.lo) ∧ W.cell? ⟨g5_48, k * 8 + 7, none⟩ = some (.int .i64 y.sn.hi)) 13 (by kernel_rfl) ?_ ?_
          · exact ⟨(((F77.at 2 rfl : Sl iceEnc 8 g5_43 (g5_43 + 1) _ (.slice (some ⟨g5_43, 0, none⟩) 4 4) ([x, ic, ic, x]))).cells0 hz60.out 0 _ rfl), (((F77.at 2 rfl : Sl iceEnc 8 g5_43 (g5_43 + 1) _ (.slice (some ⟨g5_43, 0, none⟩) 4 4) ([x, ic, ic, x]))).cells0 hz60.out 1 _ rfl), (((F77.at 2 rfl : Sl iceEnc 8 g5_43 (g5_43 + 1) _ (.slice (some ⟨g5_43, 0, none⟩) 4 4) ([x, ic, ic, x]))).cells0 hz60.out 2 _ rfl), (((F77.at 2 rfl : Sl iceEnc 8 g5_43 (g5_43 + 1) _ (.slice (some ⟨g5_43, 0, none⟩) 4 4) ([x, ic, ic, x]))).cells0 hz60.out 3 _ rfl), (((F77.at 2 rfl : Sl iceEnc 8 g5_43 (g5_43 + 1) _ (.slice (some ⟨g5_43, 0, none⟩) 4 4) ([x, ic, ic, x]))).cells0 hz60.out 4 _ rfl), (((F77.at 2 rfl : Sl iceEnc 8 g5_43 (g5_43 + 1) _ (.slice (some ⟨g5_43, 0, none⟩) 4 4) ([x, ic, ic, x]))).cells0 hz60.out 5 _ rfl), (((F77.at 2 rfl : Sl iceEnc 8 g5_43 (g5_43 + 1) _ (.slice (some ⟨g5_43, 0, none⟩) 4 4) ([x, ic, ic, x]))).cells0 hz60.out 6 _ rfl), (((F77.at 2 rfl : Sl iceEnc 8 g5_43 (g5_43 + 1) _ (.slice (some ⟨g5_43, 0, none⟩) 4 4) ([x, ic, ic, x]))).cells0 hz60.out 7 _ rfl), (((F77.at 1 rfl : Sl iceEnc 8 g5_48 (g5_48 + 1) _ (.slice (some ⟨g5_48, 0, none⟩) 4 4) ([core, ⟨⟨max 0 (nr.bl.lo + r30), nr.bl.hi + r37⟩, ⟨nr.wh.lo, nr.wh.hi⟩, ⟨nr.we.lo, nr.we.hi⟩, ⟨nr.sn.lo, nr.sn.hi⟩⟩, core, ⟨⟨max 0 (nr.bl.lo + r30), nr.bl.hi + r37⟩, ⟨nr.wh.lo, nr.wh.hi⟩, ⟨nr.we.lo, nr.we.hi⟩, ⟨nr.sn.lo, nr.sn.hi⟩⟩]))).cells0 hz61.out 0 _ rfl), (((F77.at 1 rfl : Sl iceEnc 8 g5_48 (g5_48 + 1) _ (.slice (some ⟨g5_48, 0, none⟩) 4 4) ([core, ⟨⟨max 0 (nr.bl.lo + r30), nr.bl.hi + r37⟩, ⟨nr.wh.lo, nr.wh.hi⟩, ⟨nr.we.lo, nr.we.hi⟩, ⟨nr.sn.lo, nr.sn.hi⟩⟩, core, ⟨⟨max 0 (nr.bl.lo + r30), nr.bl.hi + r37⟩, ⟨nr.wh.lo, nr.wh.hi⟩, ⟨nr.we.lo, nr.we.hi⟩, ⟨nr.sn.lo, nr.sn.hi⟩⟩]))).cells0 hz61.out 1 _ rfl), (((F77.at 1 rfl : Sl iceEnc 8 g5_48 (g5_48 + 1) _ (.slice (some ⟨g5_48, 0, none⟩) 4 4) ([core, ⟨⟨max 0 (nr.bl.lo + r30), nr.bl.hi + r37⟩, ⟨nr.wh.lo, nr.wh.hi⟩, ⟨nr.we.lo, nr.we.hi⟩, ⟨nr.sn.lo, nr.sn.hi⟩⟩, core, ⟨⟨max 0 (nr.bl.lo + r30), nr.bl.hi + r37⟩, ⟨nr.wh.lo, nr.wh.hi⟩, ⟨nr.we.lo, nr.we.hi⟩, ⟨nr.sn.lo, nr.sn.hi⟩⟩]))).cells0 hz61.out 2 _ rfl), (((F77.at 1 rfl : Sl iceEnc 8 g5_48 (g5_48 + 1) _ (.slice (some ⟨g5_48, 0, none⟩) 4 4) ([core, ⟨⟨max 0 (nr.bl.lo + r30), nr.bl.hi + r37⟩, ⟨nr.wh.lo, nr.wh.hi⟩, ⟨nr.we.lo, nr.we.hi⟩, ⟨nr.sn.lo, nr.sn.hi⟩⟩, core, ⟨⟨max 0 (nr.bl.lo + r30), nr.bl.hi + r37⟩, ⟨nr.wh.lo, nr.wh.hi⟩, ⟨nr.we.lo, nr.we.hi⟩, ⟨nr.sn.lo, nr.sn.hi⟩⟩]))).cells0 hz61.out 3 _ rfl), (((F77.at 1 rfl : Sl iceEnc 8 g5_48 (g5_48 + 1) _ (.slice (some ⟨g5_48, 0, none⟩) 4 4) ([core, ⟨⟨max 0 (nr.bl.lo + r30), nr.bl.hi + r37⟩, ⟨nr.wh.lo, nr.wh.hi⟩, ⟨nr.we.lo, nr.we.hi⟩, ⟨nr.sn.lo, nr.sn.hi⟩⟩, core, ⟨⟨max 0 (nr.bl.lo + r30), nr.bl.hi + r37⟩, ⟨nr.wh.lo, nr.wh.hi⟩, ⟨nr.we.lo, nr.we.hi⟩, ⟨nr.sn.lo, nr.sn.hi⟩⟩]))).cells0 hz61.out 4 _ rfl), (((F77.at 1 rfl : Sl iceEnc 8 g5_48 (g5_48 + 1) _ (.slice (some ⟨g5_48, 0, none⟩) 4 4) ([core, ⟨⟨max 0 (nr.bl.lo + r30), nr.bl.hi + r37⟩, ⟨nr.wh.lo, nr.wh.hi⟩, ⟨nr.we.lo, nr.we.hi⟩, ⟨nr.sn.lo, nr.sn.hi⟩⟩, core, ⟨⟨max 0 (nr.bl.lo + r30), nr.bl.hi + r37⟩, ⟨nr.wh.lo, nr.wh.hi⟩, ⟨nr.we.lo, nr.we.hi⟩, ⟨nr.sn.lo, nr.sn.hi⟩⟩]))).cells0 hz61.out 5 _ rfl), (((F77.at 1 rfl : Sl iceEnc 8 g5_48 (g5_48 + 1) _ (.slice (some ⟨g5_48, 0, none⟩) 4 4) ([core, ⟨⟨max 0 (nr.bl.lo + r30), nr.bl.hi + r37⟩, ⟨nr.wh.lo, nr.wh.hi⟩, ⟨nr.we.lo, nr.we.hi⟩, ⟨nr.sn.lo, nr.sn.hi⟩⟩, core, ⟨⟨max 0 (nr.bl.lo + r30), nr.bl.hi + r37⟩, ⟨nr.wh.lo, nr.wh.hi⟩, ⟨nr.we.lo, nr.we.hi⟩, ⟨nr.sn.lo, nr.sn.hi⟩⟩]))).cells0 hz61.out 6 _ rfl), (((F77.at 1 rfl : Sl iceEnc 8 g5_48 (g5_48 + 1) _ (.slice (some ⟨g5_48, 0, none⟩) 4 4) ([core, ⟨⟨max 0 (nr.bl.lo + r30), nr.bl.hi + r37⟩, ⟨nr.wh.lo, nr.wh.hi⟩, ⟨nr.we.lo, nr.we.hi⟩, ⟨nr.sn.lo, nr.sn.hi⟩⟩, core, ⟨⟨max 0 (nr.bl.lo + r30), nr.bl.hi + r37⟩, ⟨nr.wh.lo, nr.wh.hi⟩, ⟨nr.we.lo, nr.we.hi⟩, ⟨nr.sn.lo, nr.sn.hi⟩⟩]))).cells0 hz61.out 7 _ rfl)⟩
          obtain ⟨wd79, hwd_⟩ : ∃ x : World, w73.drew = x := ⟨_, rfl⟩
          rw [hwd_] at F77 ⊢
          have wd79s : w73.heap.size ≤ wd79.heap.size := by rw [← hwd_]; exact Nat.le_refl _
          clear hwd_
          have hS78 := (And.intro ((((F77.at 2 rfl : Sl iceEnc 8 g5_43 (g5_43 + 1) _ (.slice (some ⟨g5_43, 0, none⟩) 4 4) ([x, ic, ic, x]))).cells0 hz60.out 0 _ rfl)) (And.intro ((((F77.at 2 rfl : Sl iceEnc 8 g5_43 (g5_43 + 1) _ (.slice (some ⟨g5_43, 0, none⟩) 4 4) ([x, ic, ic, x]))).cells0 hz60.out 1 _ rfl)) (And.intro ((((F77.at 2 rfl : Sl iceEnc 8 g5_43 (g5_43 + 1) _ (.slice (some ⟨g5_43, 0, none⟩) 4 4) ([x, ic, ic, x]))).cells0 hz60.out 2 _ rfl)) (And.intro ((((F77.at 2 rfl : Sl iceEnc 8 g5_43 (g5_43 + 1) _ (.slice (some ⟨g5_43, 0, none⟩) 4 4) ([x, ic, ic, x]))).cells0 hz60.out 3 _ rfl)) (And.intro ((((F77.at 2 rfl : Sl iceEnc 8 g5_43 (g5_43 + 1) _ (.slice (some ⟨g5_43, 0, none⟩) 4 4) ([x, ic, ic, x]))).cells0 hz60.out 4 _ rfl)) (And.intro ((((F77.at 2 rfl : Sl iceEnc 8 g5_43 (g5_43 + 1) _ (.slice (some ⟨g5_43, 0, none⟩) 4 4) ([x, ic, ic, x]))).cells0 hz60.out 5 _ rfl)) (And.intro ((((F77.at 2 rfl : Sl iceEnc 8 g5_43 (g5_43 + 1) _ (.slice (some ⟨g5_43, 0, none⟩) 4 4) ([x, ic, ic, x]))).cells0 hz60.out 6 _ rfl)) (And.intro ((((F77.at 2 rfl : Sl iceEnc 8 g5_43 (g5_43 + 1) _ (.slice (some ⟨g5_43, 0, none⟩) 4 4) ([x, ic, ic, x]))).cells0 hz60.out 7 _ rfl)) (And.intro ((((F77.at 1 rfl : Sl iceEnc 8 g5_48 (g5_48 + 1) _ (.slice (some ⟨g5_48, 0, none⟩) 4 4) ([core, ⟨⟨max 0 (nr.bl.lo + r30), nr.bl.hi + r37⟩, ⟨nr.wh.lo, nr.wh.hi⟩, ⟨nr.we.lo, nr.we.hi⟩, ⟨nr.sn.lo, nr.sn.hi⟩⟩, core, ⟨⟨max 0 (nr.bl.lo + r30), nr.bl.hi + r37⟩, ⟨nr.wh.lo, nr.wh.hi⟩, ⟨nr.we.lo, nr.we.hi⟩, ⟨nr.sn.lo, nr.sn.hi⟩⟩]))).cells0 hz61.out 0 _ rfl)) (And.intro ((((F77.at 1 rfl : Sl iceEnc 8 g5_48 (g5_48 + 1) _ (.slice (some ⟨g5_48, 0, none⟩) 4 4) ([core, ⟨⟨max 0 (nr.bl.lo + r30), nr.bl.hi + r37⟩, ⟨nr.wh.lo, nr.wh.hi⟩, ⟨nr.we.lo, nr.we.hi⟩, ⟨nr.sn.lo, nr.sn.hi⟩⟩, core, ⟨⟨max 0 (nr.bl.lo + r30), nr.bl.hi + r37⟩, ⟨nr.wh.lo, nr.wh.hi⟩, ⟨nr.we.lo, nr.we.hi⟩, ⟨nr.sn.lo, nr.sn.hi⟩⟩]))).cells0 hz61.out 1 _ rfl)) (And.intro ((((F77.at 1 rfl : Sl iceEnc 8 g5_48 (g5_48 + 1) _ (.slice (some ⟨g5_48, 0, none⟩) 4 4) ([core, ⟨⟨max 0 (nr.bl.lo + r30), nr.bl.hi + r37⟩, ⟨nr.wh.lo, nr.wh.hi⟩, ⟨nr.we.lo, nr.we.hi⟩, ⟨nr.sn.lo, nr.sn.hi⟩⟩, core, ⟨⟨max 0 (nr.bl.lo + r30), nr.bl.hi + r37⟩, ⟨nr.wh.lo, nr.wh.hi⟩, ⟨nr.we.lo, nr.we.hi⟩, ⟨nr.sn.lo, nr.sn.hi⟩⟩]))).cells0 hz61.out 2 _ rfl)) (And.intro ((((F77.at 1 rfl : Sl iceEnc 8 g5_48 (g5_48 + 1) _ (.slice (some ⟨g5_48, 0, none⟩) 4 4) ([core, ⟨⟨max 0 (nr.bl.lo + r30), nr.bl.hi + r37⟩, ⟨nr.wh.lo, nr.wh.hi⟩, ⟨nr.we.lo, nr.we.hi⟩, ⟨nr.sn.lo, nr.sn.hi⟩⟩, core, ⟨⟨max 0 (nr.bl.lo + r30), nr.bl.hi + r37⟩, ⟨nr.wh.lo, nr.wh.hi⟩, ⟨nr.we.lo, nr.we.hi⟩, ⟨nr.sn.lo, nr.sn.hi⟩⟩]))).cells0 hz61.out 3 _ rfl)) (And.intro ((((F77.at 1 rfl : Sl iceEnc 8 g5_48 (g5_48 + 1) _ (.slice (some ⟨g5_48, 0, none⟩) 4 4) ([core, ⟨⟨max 0 (nr.bl.lo + r30), nr.bl.hi + r37⟩, ⟨nr.wh.lo, nr.wh.hi⟩, ⟨nr.we.lo, nr.we.hi⟩, ⟨nr.sn.lo, nr.sn.hi⟩⟩, core, ⟨⟨max 0 (nr.bl.lo + r30), nr.bl.hi + r37⟩, ⟨nr.wh.lo, nr.wh.hi⟩, ⟨nr.we.lo, nr.we.hi⟩, ⟨nr.sn.lo, nr.sn.hi⟩⟩]))).cells0 hz61.out 4 _ rfl)) (And.intro ((((F77.at 1 rfl : Sl iceEnc 8 g5_48 (g5_48 + 1) _ (.slice (some ⟨g5_48, 0, none⟩) 4 4) ([core, ⟨⟨max 0 (nr.bl.lo + r30), nr.bl.hi + r37⟩, ⟨nr.wh.lo, nr.wh.hi⟩, ⟨nr.we.lo, nr.we.hi⟩, ⟨nr.sn.lo, nr.sn.hi⟩⟩, core, ⟨⟨max 0 (nr.bl.lo + r30), nr.bl.hi + r37⟩, ⟨nr.wh.lo, nr.wh.hi⟩, ⟨nr.we.lo, nr.we.hi⟩, ⟨nr.sn.lo, nr.sn.hi⟩⟩]))).cells0 hz61.out 5 _ rfl)) (And.intro ((((F77.at 1 rfl : Sl iceEnc 8 g5_48 (g5_48 + 1) _ (.slice (some ⟨g5_48, 0, none⟩) 4 4) ([core, ⟨⟨max 0 (nr.bl.lo + r30), nr.bl.hi + r37⟩, ⟨nr.wh.lo, nr.wh.hi⟩, ⟨nr.we.lo, nr.we.hi⟩, ⟨nr.sn.lo, nr.sn.hi⟩⟩, core, ⟨⟨max 0 (nr.bl.lo + r30), nr.bl.hi + r37⟩, ⟨nr.wh.lo, nr.wh.hi⟩, ⟨nr.we.lo, nr.we.hi⟩, ⟨nr.sn.lo, nr.sn.hi⟩⟩]))).cells0 hz61.out 6 _ rfl)) ((((F77.at 1 rfl : Sl iceEnc 8 g5_48 (g5_48 + 1) _ (.slice (some ⟨g5_48, 0, none⟩) 4 4) ([core, ⟨⟨max 0 (nr.bl.lo + r30), nr.bl.hi + r37⟩, ⟨nr.wh.lo, nr.wh.hi⟩, ⟨nr.we.lo, nr.we.hi⟩, ⟨nr.sn.lo, nr.sn.hi⟩⟩, core, ⟨⟨max 0 (nr.bl.lo + r30), nr.bl.hi + r37⟩, ⟨nr.wh.lo, nr.wh.hi⟩, ⟨nr.we.lo, nr.we.hi⟩, ⟨nr.sn.lo, nr.sn.hi⟩⟩]))).cells0 hz61.out 7 _ rfl)))))))))))))))))
          refine ru_take 0 [] (v := ?_) rfl (by kernel_rfl) (fun _ _ _ h => h) (by assumption) (.inl ⟨by first | kernel_rfl | rfl, ?_⟩) ?_
          rotate_left
          · (intro wS hwS; (try dsimp only at hwS); go_simp; (try with_reducible rfl))
          (try simp only [Act.put, List.setIfInBounds_toArray, List.set_cons_zero, List.set_cons_succ])
          refine ru_take 1 [] (v := ?_) rfl (by kernel_rfl) (fun _ _ _ h => h) (by assumption) (.inl ⟨by first | kernel_rfl | rfl, ?_⟩) ?_
          rotate_left
          · (intro wS hwS; (try dsimp only at hwS); go_simp; (try with_reducible rfl))
          (try simp only [Act.put, List.setIfInBounds_toArray, List.set_cons_zero, List.set_cons_succ])
          refine ru_take 2 [] (v := ?_) rfl (by kernel_rfl) (fun _ _ _ h => h) (by assumption) (.inl ⟨by first | kernel_rfl | rfl, ?_⟩) ?_
          rotate_left
          · (intro wS hwS; (try dsimp only at hwS); go_simp; (try with_reducible rfl))
          (try simp only [Act.put, List.setIfInBounds_toArray, List.set_cons_zero, List.set_cons_succ])
          refine ru_take 3 [] (v := ?_) rfl (by kernel_rfl) (fun _ _ _ h => h) (by assumption) (.inl ⟨by first | kernel_rfl | rfl, ?_⟩) ?_
          rotate_left
          · (intro wS hwS; (try dsimp only at hwS); go_simp; (try with_reducible rfl))
          (try simp only [Act.put, List.setIfInBounds_toArray, List.set_cons_zero, List.set_cons_succ])
          refine ru_take 4 [] (v := ?_) rfl (by kernel_rfl) (fun _ _ _ h => h) (by assumption) (.inl ⟨by first | kernel_rfl | rfl, ?_⟩) ?_
          rotate_left
          · (intro wS hwS; (try dsimp only at hwS); go_simp; (try with_reducible rfl))
          (try simp only [Act.put, List.setIfInBounds_toArray, List.set_cons_zero, List.set_cons_succ])
          refine ru_take 5 [] (v := ?_) rfl (by kernel_rfl) (fun _ _ _ h => h) (by assumption) (.inl ⟨by first | kernel_rfl | rfl, ?_⟩) ?_
          rotate_left
          · (intro wS hwS; (try dsimp only at hwS); go_simp; (try with_reducible rfl))
          (try simp only [Act.put, List.setIfInBounds_toArray, List.set_cons_zero, List.set_cons_succ])
          refine ru_take 6 [] (v := ?_) rfl (by kernel_rfl) (fun _ _ _ h => h) (by assumption) (.inl ⟨by first | kernel_rfl | rfl, ?_⟩) ?_
          rotate_left
          · (intro wS hwS; (try dsimp only at hwS); go_simp; (try with_reducible rfl))
          (try simp only [Act.put, List.setIfInBounds_toArray, List.set_cons_zero, List.set_cons_succ])
          refine ru_take 7 [] (v := ?_) rfl (by kernel_rfl) (fun _ _ _ h => h) (by assumption) (.inl ⟨by first | kernel_rfl | rfl, ?_⟩) ?_
          rotate_left
          · (intro wS hwS; (try dsimp only at hwS); go_simp; (try with_reducible rfl))
          (try simp only [Act.put, List.setIfInBounds_toArray, List.set_cons_zero, List.set_cons_succ])
          clear hS78
          have hSS : ∀ (LA : List Res) (W : World), Bun w ([rbox g69 32 #[.int .i64 ((coreI z y).bl.lo), .int .i64 ((coreI z y).bl.hi), .int .i64 ((coreI z y).wh.lo), .int .i64 ((coreI z y).wh.hi), .int .i64 ((coreI z y).we.lo), .int .i64 ((coreI z y).we.hi), .int .i64 ((coreI z y).sn.lo), .int .i64 ((coreI z y).sn.hi)], rsl iceEnc 8 g5_48 (g5_48 + 1) (.slice (some ⟨g5_48, 0, none⟩) 4 4) ([core, ⟨⟨max 0 (nr.bl.lo + r30), nr.bl.hi + r37⟩, ⟨nr.wh.lo, nr.wh.hi⟩, ⟨nr.we.lo, nr.we.hi⟩, ⟨nr.sn.lo, nr.sn.hi⟩⟩, core, ⟨⟨max 0 (nr.bl.lo + r30), nr.bl.hi + r37⟩, ⟨nr.wh.lo, nr.wh.hi⟩, ⟨nr.we.lo, nr.we.hi⟩, ⟨nr.sn.lo, nr.sn.hi⟩⟩]), rsl iceEnc 8 g5_43 (g5_43 + 1) (.slice (some ⟨g5_43, 0, none⟩) 4 4) ([x, ic, ic, x]), rseed sb, rsl intEnc 1 0 w.heap.size (.slice na zs.length nc) zs] ++ LA) W ∧ w73.heap.size ≤ W.heap.size → W.cell? ⟨g5_43, k * 8, none⟩ = some (.int .i64 z.bl.lo) ∧ W.cell? ⟨g5_43, k * 8 + 1, none⟩ = some (.int .i64 z.bl.hi) ∧ W.cell? ⟨g5_43, k * 8 + 2, none⟩ = some (.int .i64 z.wh.lo) ∧ W.cell? ⟨g5_43, k * 8 + 3, none⟩ = some (.int .i64 z.wh.hi) ∧ W.cell? ⟨g5_43, k * 8 + 4, none⟩ = some (.int .i64 z.we.lo) ∧ W.cell? ⟨g5_43, k * 8 + 5, none⟩ = some (.int .i64 z.we.hi) ∧ W.cell? ⟨g5_43, k * 8 + 6, none⟩ = some (.int .i64 z.sn.lo) ∧ W.cell? ⟨g5_43, k * 8 + 7, none⟩ = some (.int .i64 z.sn.hi) ∧ W.cell? ⟨g5_48, k * 8, none⟩ = some (.int .i64 y.bl.lo) ∧ W.cell? ⟨g5_48, k * 8 + 1, none⟩ = some (.int .i64 y.bl.hi) ∧ W.cell? ⟨g5_48, k * 8 + 2, none⟩ = some (.int .i64 y.wh.lo) ∧ W.cell? ⟨g5_48, k * 8 + 3, none⟩ = some (.int .i64 y.wh.hi) ∧ W.cell? ⟨g5_48, k * 8 + 4, none⟩ = some (.int .i64 y.we.lo) ∧ W.cell? ⟨g5_48, k * 8 + 5, none⟩ = some (.int .i64 y.we.hi) ∧ W.cell? ⟨g5_48, k * 8 + 6, none⟩ = some (.int .i64 y.sn.lo) ∧ W.cell? ⟨g5_48, k * 8 + 7, none⟩ = some (.int .i64 y.sn.hi) := fun _ _ ⟨F_, _⟩ => ⟨(((F_.at 2 rfl : Sl iceEnc 8 g5_43 (g5_43 + 1) _ (.slice (some ⟨g5_43, 0, none⟩) 4 4) ([x, ic, ic, x]))).cells0 hz60.out 0 _ rfl), (((F_.at 2 rfl : Sl iceEnc 8 g5_43 (g5_43 + 1) _ (.slice (some ⟨g5_43, 0, none⟩) 4 4) ([x, ic, ic, x]))).cells0 hz60.out 1 _ rfl), (((F_.at 2 rfl : Sl iceEnc 8 g5_43 (g5_43 + 1) _ (.slice (some ⟨g5_43, 0, none⟩) 4 4) ([x, ic, ic, x]))).cells0 hz60.out 2 _ rfl), (((F_.at 2 rfl : Sl iceEnc 8 g5_43 (g5_43 + 1) _ (.slice (some ⟨g5_43, 0, none⟩) 4 4) ([x, ic, ic, x]))).cells0 hz60.out 3 _ rfl), (((F_.at 2 rfl : Sl iceEnc 8 g5_43 (g5_43 + 1) _ (.slice (some ⟨g5_43, 0, none⟩) 4 4) ([x, ic, ic, x]))).cells0 hz60.out 4 _ rfl), (((F_.at 2 rfl : Sl iceEnc 8 g5_43 (g5_43 + 1) _ (.slice (some ⟨g5_43, 0, none⟩) 4 4) ([x, ic, ic, x]))).cells0 hz60.out 5 _ rfl), (((F_.at 2 rfl : Sl iceEnc 8 g5_43 (g5_43 + 1) _ (.slice (some ⟨g5_43, 0, none⟩) 4 4) ([x, ic, ic, x]))).cells0 hz60.out 6 _ rfl), (((F_.at 2 rfl : Sl iceEnc 8 g5_43 (g5_43 + 1) _ (.slice (some ⟨g5_43, 0, none⟩) 4 4) ([x, ic, ic, x]))).cells0 hz60.out 7 _ rfl), (((F_.at 1 rfl : Sl iceEnc 8 g5_48 (g5_48 + 1) _ (.slice (some ⟨g5_48, 0, none⟩) 4 4) ([core, ⟨⟨max 0 (nr.bl.lo + r30), nr.bl.hi + r37⟩, ⟨nr.wh.lo, nr.wh.hi⟩, ⟨nr.we.lo, nr.we.hi⟩, ⟨nr.sn.lo, nr.sn.hi⟩⟩, core, ⟨⟨max 0 (nr.bl.lo + r30), nr.bl.hi + r37⟩, ⟨nr.wh.lo, nr.wh.hi⟩, ⟨nr.we.lo, nr.we.hi⟩, ⟨nr.sn.lo, nr.sn.hi⟩⟩]))).cells0 hz61.out 0 _ rfl), (((F_.at 1 rfl : Sl iceEnc 8 g5_48 (g5_48 + 1) _ (.slice (some ⟨g5_48, 0, none⟩) 4 4) ([core, ⟨⟨max 0 (nr.bl.lo + r30), nr.bl.hi + r37⟩, ⟨nr.wh.lo, nr.wh.hi⟩, ⟨nr.we.lo, nr.we.hi⟩, ⟨nr.sn.lo, nr.sn.hi⟩⟩, core, ⟨⟨max 0 (nr.bl.lo + r30), nr.bl.hi + r37⟩, ⟨nr.wh.lo, nr.wh.hi⟩, ⟨nr.we.lo, nr.we.hi⟩, ⟨nr.sn.lo, nr.sn.hi⟩⟩]))).cells0 hz61.out 1 _ rfl), (((F_.at 1 rfl : Sl iceEnc 8 g5_48 (g5_48 + 1) _ (.slice (some ⟨g5_48, 0, none⟩) 4 4) ([core, ⟨⟨max 0 (nr.bl.lo + r30), nr.bl.hi + r37⟩, ⟨nr.wh.lo, nr.wh.hi⟩, ⟨nr.we.lo, nr.we.hi⟩, ⟨nr.sn.lo, nr.sn.hi⟩⟩, core, ⟨⟨max 0 (nr.bl.lo + r30), nr.bl.hi + r37⟩, ⟨nr.wh.lo, nr.wh.hi⟩, ⟨nr.we.lo, nr.we.hi⟩, ⟨nr.sn.lo, nr.sn.hi⟩⟩]))).cells0 hz61.out 2 _ rfl), (((F_.at 1 rfl : Sl iceEnc 8 g5_48 (g5_48 + 1) _ (.slice (some ⟨g5_48, 0, none⟩) 4 4) ([core, ⟨⟨max 0 (nr.bl.lo + r30), nr.bl.hi + r37⟩, ⟨nr.wh.lo, nr.wh.hi⟩, ⟨nr.we.lo, nr.we.hi⟩, ⟨nr.sn.lo, nr.sn.hi⟩⟩, core, ⟨⟨max 0 (nr.bl.lo + r30), nr.bl.hi + r37⟩, ⟨nr.wh.lo, nr.wh.hi⟩, ⟨nr.we.lo, nr.we.hi⟩, ⟨nr.sn.lo, nr.sn.hi⟩⟩]))).cells0 hz61.out 3 _ rfl), (((F_.at 1 rfl : Sl iceEnc 8 g5_48 (g5_48 + 1) _ (.slice (some ⟨g5_48, 0, none⟩) 4 4) ([core, ⟨⟨max 0 (nr.bl.lo + r30), nr.bl.hi + r37⟩, ⟨nr.wh.lo, nr.wh.hi⟩, ⟨nr.we.lo, nr.we.hi⟩, ⟨nr.sn.lo, nr.sn.hi⟩⟩, core, ⟨⟨max 0 (nr.bl.lo + r30), nr.bl.hi + r37⟩, ⟨nr.wh.lo, nr.wh.hi⟩, ⟨nr.we.lo, nr.we.hi⟩, ⟨nr.sn.lo, nr.sn.hi⟩⟩]))).cells0 hz61.out 4 _ rfl), (((F_.at 1 rfl : Sl iceEnc 8 g5_48 (g5_48 + 1) _ (.slice (some ⟨g5_48, 0, none⟩) 4 4) ([core, ⟨⟨max 0 (nr.bl.lo + r30), nr.bl.hi + r37⟩, ⟨nr.wh.lo, nr.wh.hi⟩, ⟨nr.we.lo, nr.we.hi⟩, ⟨nr.sn.lo, nr.sn.hi⟩⟩, core, ⟨⟨max 0 (nr.bl.lo + r30), nr.bl.hi + r37⟩, ⟨nr.wh.lo, nr.wh.hi⟩, ⟨nr.we.lo, nr.we.hi⟩, ⟨nr.sn.lo, nr.sn.hi⟩⟩]))).cells0 hz61.out 5 _ rfl), (((F_.at 1 rfl : Sl iceEnc 8 g5_48 (g5_48 + 1) _ (.slice (some ⟨g5_48, 0, none⟩) 4 4) ([core, ⟨⟨max 0 (nr.bl.lo + r30), nr.bl.hi + r37⟩, ⟨nr.wh.lo, nr.wh.hi⟩, ⟨nr.we.lo, nr.we.hi⟩, ⟨nr.sn.lo, nr.sn.hi⟩⟩, core, ⟨⟨max 0 (nr.bl.lo + r30), nr.bl.hi + r37⟩, ⟨nr.wh.lo, nr.wh.hi⟩, ⟨nr.we.lo, nr.we.hi⟩, ⟨nr.sn.lo, nr.sn.hi⟩⟩]))).cells0 hz61.out 6 _ rfl), (((F_.at 1 rfl : Sl iceEnc 8 g5_48 (g5_48 + 1) _ (.slice (some ⟨g5_48, 0, none⟩) 4 4) ([core, ⟨⟨max 0 (nr.bl.lo + r30), nr.bl.hi + r37⟩, ⟨nr.wh.lo, nr.wh.hi⟩, ⟨nr.we.lo, nr.we.hi⟩, ⟨nr.sn.lo, nr.sn.hi⟩⟩, core, ⟨⟨max 0 (nr.bl.lo + r30), nr.bl.hi + r37⟩, ⟨nr.wh.lo, nr.wh.hi⟩, ⟨nr.we.lo, nr.we.hi⟩, ⟨nr.sn.lo, nr.sn.hi⟩⟩]))).cells0 hz61.out 7 _ rfl)⟩
          refine ru_mix (goodBunS _ w73.heap.size) 88 [⟨12, 15, 32, (z8)⟩] [8, 9, 10, 11] 2 (by kernel_rfl) (by kernel_rfl) (fun _ _ _ _ _ h => h) (U0 := (fun t => t 10 = .slice (some ⟨g5_43, 0, none⟩) 4 4 ∧ t 11 = .slice (some ⟨g5_48, 0, none⟩) 4 4 ∧ t 12 = .int .i64 (k : Int) ∧ t 13 = .pointer (some ⟨g69, 0, none⟩) ∧ t 14 = .int .i64 (coreE z y) ∧ t 71 = .agg (iceC z) ∧ t 75 = .agg (iceC y))) (Um := (fun t => t 10 = .slice (some ⟨g5_43, 0, none⟩) 4 4 ∧ t 11 = .slice (some ⟨g5_48, 0, none⟩) 4 4 ∧ t 12 = .int .i64 (k : Int) ∧ t 13 = .pointer (some ⟨g69, 0, none⟩) ∧ t 14 = .int .i64 (coreE z y) ∧ t 77 = .agg #[.int .i64 ((coreI z y).bl.lo), .int .i64 ((coreI z y).bl.hi), .int .i64 ((coreI z y).wh.lo), .int .i64 ((coreI z y).wh.hi), .int .i64 ((coreI z y).we.lo), .int .i64 ((coreI z y).we.hi), .int .i64 ((coreI z y).sn.lo), .int .i64 ((coreI z y).sn.hi)] ∧ t 78 = .int .i64 (coreE z y))) (L0 := [rbox g69 32 #[.int .i64 ((coreI z y).bl.lo), .int .i64 ((coreI z y).bl.hi), .int .i64 ((coreI z y).wh.lo), .int .i64 ((coreI z y).wh.hi), .int .i64 ((coreI z y).we.lo), .int .i64 ((coreI z y).we.hi), .int .i64 ((coreI z y).sn.lo), .int .i64 ((coreI z y).sn.hi)], rsl iceEnc 8 g5_48 (g5_48 + 1) (.slice (some ⟨g5_48, 0, none⟩) 4 4) ([core, ⟨⟨max 0 (nr.bl.lo + r30), nr.bl.hi + r37⟩, ⟨nr.wh.lo, nr.wh.hi⟩, ⟨nr.we.lo, nr.we.hi⟩, ⟨nr.sn.lo, nr.sn.hi⟩⟩, core, ⟨⟨max 0 (nr.bl.lo + r30), nr.bl.hi + r37⟩, ⟨nr.wh.lo, nr.wh.hi⟩, ⟨nr.we.lo, nr.we.hi⟩, ⟨nr.sn.lo, nr.sn.hi⟩⟩]), rsl iceEnc 8 g5_43 (g5_43 + 1) (.slice (some ⟨g5_43, 0, none⟩) 4 4) ([x, ic, ic, x]), rseed sb, rsl intEnc 1 0 w.heap.size (.slice na zs.length nc) zs]) (Lm := [rbox g69 32 #[.int .i64 ((coreI z y).bl.lo), .int .i64 ((coreI z y).bl.hi), .int .i64 ((coreI z y).wh.lo), .int .i64 ((coreI z y).wh.hi), .int .i64 ((coreI z y).we.lo), .int .i64 ((coreI z y).we.hi), .int .i64 ((coreI z y).sn.lo), .int .i64 ((coreI z y).sn.hi)], rsl iceEnc 8 g5_48 (g5_48 + 1) (.slice (some ⟨g5_48, 0, none⟩) 4 4) ([core, ⟨⟨max 0 (nr.bl.lo + r30), nr.bl.hi + r37⟩, ⟨nr.wh.lo, nr.wh.hi⟩, ⟨nr.we.lo, nr.we.hi⟩, ⟨nr.sn.lo, nr.sn.hi⟩⟩, core, ⟨⟨max 0 (nr.bl.lo + r30), nr.bl.hi + r37⟩, ⟨nr.wh.lo, nr.wh.hi⟩, ⟨nr.we.lo, nr.we.hi⟩, ⟨nr.sn.lo, nr.sn.hi⟩⟩]), rsl iceEnc 8 g5_43 (g5_43 + 1) (.slice (some ⟨g5_43, 0, none⟩) 4 4) ([x, ic, ic, x]), rseed sb, rsl intEnc 1 0 w.heap.size (.slice na zs.length nc) zs]) ?chM80 ?alM80 ⟨(by kernel_rfl), rfl, ⟨(by kernel_rfl), (by kernel_rfl), (by kernel_rfl), (by kernel_rfl), (by kernel_rfl), (by kernel_rfl), (by kernel_rfl)⟩⟩ ⟨F77, (by first | assumption | omega)⟩ ?restM80
          case chM80 =>
            refine Chain.callS 8 (fun t => t 10 = .slice (some ⟨g5_43, 0, none⟩) 4 4 ∧ t 11 = .slice (some ⟨g5_48, 0, none⟩) 4 4 ∧ t 12 = .int .i64 (k : Int) ∧ t 13 = .pointer (some ⟨g69, 0, none⟩) ∧ t 14 = .int .i64 (coreE z y) ∧ t 76 = .tuple #[.agg #[.int .i64 ((coreI z y).bl.lo), .int .i64 ((coreI z y).bl.hi), .int .i64 ((coreI z y).wh.lo), .int .i64 ((coreI z y).wh.hi), .int .i64 ((coreI z y).we.lo), .int .i64 ((coreI z y).we.hi), .int .i64 ((coreI z y).sn.lo), .int .i64 ((coreI z y).sn.hi)], .int .i64 (coreE z y)]) (List.forall_mem_cons.2 ⟨fun _ _ u => u, fun _ h => (by cases h)⟩) hSS (by kernel_rfl) ?_ ?_
            · rintro t w_ LA ⟨e10, e11, e12, e13, e14, e71, e75⟩ ⟨F_, hwn_⟩
              have hws := F_.gb.size
              have e : ((List.range 88).map t).toArray = #[t 0, t 1, t 2, t 3, t 4, t 5, t 6, t 7, t 8, t 9, t 10, t 11, t 12, t 13, t 14, t 15, t 16, t 17, t 18, t 19, t 20, t 21, t 22, t 23, t 24, t 25, t 26, t 27, t 28, t 29, t 30, t 31, t 32, t 33, t 34, t 35, t 36, t 37, t 38, t 39, t 40, t 41, t 42, t 43, t 44, t 45, t 46, t 47, t 48, t 49, t 50, t 51, t 52, t 53, t 54, t 55, t 56, t 57, t 58, t 59, t 60, t 61, t 62, t 63, t 64, t 65, t 66, t 67, t 68, t 69, t 70, t 71, t 72, t 73, t 74, t 75, t 76, t 77, t 78, t 79, t 80, t 81, t 82, t 83, t 84, t 85, t 86, t 87] := rfl
              (try dsimp only at e)
              rw [e10, e11, e12, e13, e14, e71, e75] at e; rw [e]; clear e e10 e11 e12 e13 e14 e71 e75
              refine wpOp_stepH rfl (fun K hK => ?_)
              go_simp
              refine (rcore_c z y _).mono ?_
              rintro e w81 ⟨rfl, hg82⟩
              exact hK.out _ _ ⟨(by kernel_rfl), rfl, ⟨(by kernel_rfl), (by kernel_rfl), (by kernel_rfl), (by kernel_rfl), (by kernel_rfl), (by kernel_rfl)⟩, List.forall_mem_cons.2 ⟨(by kernel_rfl), fun _ h => (by cases h)⟩, ⟨F_.gn hg82, Nat.le_trans hwn_ hg82.size⟩, hSS _ _ ⟨F_.gn hg82, Nat.le_trans hwn_ hg82.size⟩⟩
            refine Chain.pureS 9 (fun t => t 10 = .slice (some ⟨g5_43, 0, none⟩) 4 4 ∧ t 11 = .slice (some ⟨g5_48, 0, none⟩) 4 4 ∧ t 12 = .int .i64 (k : Int) ∧ t 13 = .pointer (some ⟨g69, 0, none⟩) ∧ t 14 = .int .i64 (coreE z y) ∧ t 67 = .tuple #[.agg #[.int .i64 ((coreI z y).bl.lo), .int .i64 ((coreI z y).bl.hi), .int .i64 ((coreI z y).wh.lo), .int .i64 ((coreI z y).wh.hi), .int .i64 ((coreI z y).we.lo), .int .i64 ((coreI z y).we.hi), .int .i64 ((coreI z y).sn.lo), .int .i64 ((coreI z y).sn.hi)], .int .i64 (coreE z y)]) rfl (List.forall_mem_cons.2 ⟨fun _ _ u => u, fun _ h => (by cases h)⟩) hSS (by kernel_rfl) ?_ ?_
            · rintro t ⟨e10, e11, e12, e13, e14, e76⟩
              have e : ((List.range 88).map t).toArray = #[t 0, t 1, t 2, t 3, t 4, t 5, t 6, t 7, t 8, t 9, t 10, t 11, t 12, t 13, t 14, t 15, t 16, t 17, t 18, t 19, t 20, t 21, t 22, t 23, t 24, t 25, t 26, t 27, t 28, t 29, t 30, t 31, t 32, t 33, t 34, t 35, t 36, t 37, t 38, t 39, t 40, t 41, t 42, t 43, t 44, t 45, t 46, t 47, t 48, t 49, t 50, t 51, t 52, t 53, t 54, t 55, t 56, t 57, t 58, t 59, t 60, t 61, t 62, t 63, t 64, t 65, t 66, t 67, t 68, t 69, t 70, t 71, t 72, t 73, t 74, t 75, t 76, t 77, t 78, t 79, t 80, t 81, t 82, t 83, t 84, t 85, t 86, t 87] := rfl
              (try dsimp only at e)
              rw [e10, e11, e12, e13, e14, e76] at e; rw [e]; clear e e10 e11 e12 e13 e14 e76
              refine ⟨.tuple #[.agg #[.int .i64 ((coreI z y).bl.lo), .int .i64 ((coreI z y).bl.hi), .int .i64 ((coreI z y).wh.lo), .int .i64 ((coreI z y).wh.hi), .int .i64 ((coreI z y).we.lo), .int .i64 ((coreI z y).we.hi), .int .i64 ((coreI z y).sn.lo), .int .i64 ((coreI z y).sn.hi)], .int .i64 (coreE z y)], .inl ⟨by first | kernel_rfl | rfl, ?_⟩, ⟨(by kernel_rfl), rfl⟩, ⟨(by kernel_rfl), (by kernel_rfl), (by kernel_rfl), (by kernel_rfl), (by kernel_rfl), (by kernel_rfl)⟩, List.forall_mem_cons.2 ⟨(by kernel_rfl), fun _ h => (by cases h)⟩⟩
              intro wS _
              go_simp
              (try with_reducible rfl)
            refine Chain.pureS 10 (fun t => t 10 = .slice (some ⟨g5_43, 0, none⟩) 4 4 ∧ t 11 = .slice (some ⟨g5_48, 0, none⟩) 4 4 ∧ t 12 = .int .i64 (k : Int) ∧ t 13 = .pointer (some ⟨g69, 0, none⟩) ∧ t 14 = .int .i64 (coreE z y) ∧ t 67 = .tuple #[.agg #[.int .i64 ((coreI z y).bl.lo), .int .i64 ((coreI z y).bl.hi), .int .i64 ((coreI z y).wh.lo), .int .i64 ((coreI z y).wh.hi), .int .i64 ((coreI z y).we.lo), .int .i64 ((coreI z y).we.hi), .int .i64 ((coreI z y).sn.lo), .int .i64 ((coreI z y).sn.hi)], .int .i64 (coreE z y)] ∧ t 77 = .agg #[.int .i64 ((coreI z y).bl.lo), .int .i64 ((coreI z y).bl.hi), .int .i64 ((coreI z y).wh.lo), .int .i64 ((coreI z y).wh.hi), .int .i64 ((coreI z y).we.lo), .int .i64 ((coreI z y).we.hi), .int .i64 ((coreI z y).sn.lo), .int .i64 ((coreI z y).sn.hi)]) rfl (List.forall_mem_cons.2 ⟨fun _ _ u => u, fun _ h => (by cases h)⟩) hSS (by kernel_rfl) ?_ ?_
            · rintro t ⟨e10, e11, e12, e13, e14, e67⟩
              have e : ((List.range 88).map t).toArray = #[t 0, t 1, t 2, t 3, t 4, t 5, t 6, t 7, t 8, t 9, t 10, t 11, t 12, t 13, t 14, t 15, t 16, t 17, t 18, t 19, t 20, t 21, t 22, t 23, t 24, t 25, t 26, t 27, t 28, t 29, t 30, t 31, t 32, t 33, t 34, t 35, t 36, t 37, t 38, t 39, t 40, t 41, t 42, t 43, t 44, t 45, t 46, t 47, t 48, t 49, t 50, t 51, t 52, t 53, t 54, t 55, t 56, t 57, t 58, t 59, t 60, t 61, t 62, t 63, t 64, t 65, t 66, t 67, t 68, t 69, t 70, t 71, t 72, t 73, t 74, t 75, t 76, t 77, t 78, t 79, t 80, t 81, t 82, t 83, t 84, t 85, t 86, t 87] := rfl
              (try dsimp only at e)
              rw [e10, e11, e12, e13, e14, e67] at e; rw [e]; clear e e10 e11 e12 e13 e14 e67
              refine ⟨.agg #[.int .i64 ((coreI z y).bl.lo), .int .i64 ((coreI z y).bl.hi), .int .i64 ((coreI z y).wh.lo), .int .i64 ((coreI z y).wh.hi), .int .i64 ((coreI z y).we.lo), .int .i64 ((coreI z y).we.hi), .int .i64 ((coreI z y).sn.lo), .int .i64 ((coreI z y).sn.hi)], .inl ⟨by first | kernel_rfl | rfl, ?_⟩, ⟨(by kernel_rfl), rfl⟩, ⟨(by kernel_rfl), (by kernel_rfl), (by kernel_rfl), (by kernel_rfl), (by kernel_rfl), (by kernel_rfl), (by kernel_rfl)⟩, List.forall_mem_cons.2 ⟨(by kernel_rfl), fun _ h => (by cases h)⟩⟩
              intro wS _
              go_simp
              (try with_reducible rfl)
            refine Chain.pureS 11 (fun t => t 10 = .slice (some ⟨g5_43, 0, none⟩) 4 4 ∧ t 11 = .slice (some ⟨g5_48, 0, none⟩) 4 4 ∧ t 12 = .int .i64 (k : Int) ∧ t 13 = .pointer (some ⟨g69, 0, none⟩) ∧ t 14 = .int .i64 (coreE z y) ∧ t 77 = .agg #[.int .i64 ((coreI z y).bl.lo), .int .i64 ((coreI z y).bl.hi), .int .i64 ((coreI z y).wh.lo), .int .i64 ((coreI z y).wh.hi), .int .i64 ((coreI z y).we.lo), .int .i64 ((coreI z y).we.hi), .int .i64 ((coreI z y).sn.lo), .int .i64 ((coreI z y).sn.hi)] ∧ t 78 = .int .i64 (coreE z y)) rfl (List.forall_mem_cons.2 ⟨fun _ _ u => u, fun _ h => (by cases h)⟩) hSS (by kernel_rfl) ?_ ?_
            · rintro t ⟨e10, e11, e12, e13, e14, e67, e77⟩
              have e : ((List.range 88).map t).toArray = #[t 0, t 1, t 2, t 3, t 4, t 5, t 6, t 7, t 8, t 9, t 10, t 11, t 12, t 13, t 14, t 15, t 16, t 17, t 18, t 19, t 20, t 21, t 22, t 23, t 24, t 25, t 26, t 27, t 28, t 29, t 30, t 31, t 32, t 33, t 34, t 35, t 36, t 37, t 38, t 39, t 40, t 41, t 42, t 43, t 44, t 45, t 46, t 47, t 48, t 49, t 50, t 51, t 52, t 53, t 54, t 55, t 56, t 57, t 58, t 59, t 60, t 61, t 62, t 63, t 64, t 65, t 66, t 67, t 68, t 69, t 70, t 71, t 72, t 73, t 74, t 75, t 76, t 77, t 78, t 79, t 80, t 81, t 82, t 83, t 84, t 85, t 86, t 87] := rfl
              (try dsimp only at e)
              rw [e10, e11, e12, e13, e14, e67, e77] at e; rw [e]; clear e e10 e11 e12 e13 e14 e67 e77
              refine ⟨.int .i64 (coreE z y), .inl ⟨by first | kernel_rfl | rfl, ?_⟩, ⟨(by kernel_rfl), rfl⟩, ⟨(by kernel_rfl), (by kernel_rfl), (by kernel_rfl), (by kernel_rfl), (by kernel_rfl), (by kernel_rfl), (by kernel_rfl)⟩, List.forall_mem_cons.2 ⟨(by kernel_rfl), fun _ h => (by cases h)⟩⟩
              intro wS _
              go_simp
              (try with_reducible rfl)
            exact Chain.nil _ _ _ (List.forall_mem_cons.2 ⟨fun _ _ u => u, fun _ h => (by cases h)⟩) hSS
          case alM80 => exact List.forall_mem_cons.2 ⟨fun _ _ _ h => wpOp_step rfl (fun K hK => by go_simp; exact hK _ _ h), fun _ h => (by cases h)⟩
          case restM80 =>
            rintro t w85 g ⟨e10, e11, e12, e13, e14, e77, e78⟩ hA ⟨F_, hwnM80⟩
            clear hSS
            clear F77
            have hA0 : t 15 = .pointer (some ⟨g 12, 0, none⟩) := hA _ (.head _)
            have F86 : Bun w [rbox (g 12) 32 (z8), rbox g69 32 #[.int .i64 ((coreI z y).bl.lo), .int .i64 ((coreI z y).bl.hi), .int .i64 ((coreI z y).wh.lo), .int .i64 ((coreI z y).wh.hi), .int .i64 ((coreI z y).we.lo), .int .i64 ((coreI z y).we.hi), .int .i64 ((coreI z y).sn.lo), .int .i64 ((coreI z y).sn.hi)], rsl iceEnc 8 g5_48 (g5_48 + 1) (.slice (some ⟨g5_48, 0, none⟩) 4 4) ([core, ⟨⟨max 0 (nr.bl.lo + r30), nr.bl.hi + r37⟩, ⟨nr.wh.lo, nr.wh.hi⟩, ⟨nr.we.lo, nr.we.hi⟩, ⟨nr.sn.lo, nr.sn.hi⟩⟩, core, ⟨⟨max 0 (nr.bl.lo + r30), nr.bl.hi + r37⟩, ⟨nr.wh.lo, nr.wh.hi⟩, ⟨nr.we.lo, nr.we.hi⟩, ⟨nr.sn.lo, nr.sn.hi⟩⟩]), rsl iceEnc 8 g5_43 (g5_43 + 1) (.slice (some ⟨g5_43, 0, none⟩) 4 4) ([x, ic, ic, x]), rseed sb, rsl intEnc 1 0 w.heap.size (.slice na zs.length nc) zs] w85 := F_
            clear hA F_
            obtain ⟨g84, hgx_⟩ : ∃ x_, g 12 = x_ := ⟨_, rfl⟩
            rw [hgx_] at hA0 F86; clear hgx_
            have hws := F86.gb.size
            have g84l := (F86.bx8 0 rfl).2.2
            have e : ((List.range 88).map t).toArray = #[t 0, t 1, t 2, t 3, t 4, t 5, t 6, t 7, t 8, t 9, t 10, t 11, t 12, t 13, t 14, t 15, t 16, t 17, t 18, t 19, t 20, t 21, t 22, t 23, t 24, t 25, t 26, t 27, t 28, t 29, t 30, t 31, t 32, t 33, t 34, t 35, t 36, t 37, t 38, t 39, t 40, t 41, t 42, t 43, t 44, t 45, t 46, t 47, t 48, t 49, t 50, t 51, t 52, t 53, t 54, t 55, t 56, t 57, t 58, t 59, t 60, t 61, t 62, t 63, t 64, t 65, t 66, t 67, t 68, t 69, t 70, t 71, t 72, t 73, t 74, t 75, t 76, t 77, t 78, t 79, t 80, t 81, t 82, t 83, t 84, t 85, t 86, t 87] := rfl
            (try dsimp only at e)
            rw [e10, e11, e12, e13, e14, e77, e78, hA0] at e; rw [e]; clear e e10 e11 e12 e13 e14 e77 e78 hA0
            refine ru_one 13 rfl (by kernel_rfl) (fun K hK => ?_)
            have kb_ := F86.bx8 0 rfl
            go_simp
            clear kb_
            have F87 := F86.pt8 (.int .i64 ((coreI z y).bl.lo)) (.int .i64 ((coreI z y).bl.hi)) (.int .i64 ((coreI z y).wh.lo)) (.int .i64 ((coreI z y).wh.hi)) (.int .i64 ((coreI z y).we.lo)) (.int .i64 ((coreI z y).we.hi)) (.int .i64 ((coreI z y).sn.lo)) (.int .i64 ((coreI z y).sn.hi))
            clear F86
            refine ru_back_late hK (by kernel_rfl) ?_
            clear hK K
            (try simp only [Act.put, List.setIfInBounds_toArray, List.set_cons_zero, List.set_cons_succ])
            refine ru_one 14 rfl (by kernel_rfl) (fun K hK => ?_)
            go_simp
            refine ru_back_late hK (by kernel_rfl) ?_
            clear hK K
            (try simp only [Act.put, List.setIfInBounds_toArray, List.set_cons_zero, List.set_cons_succ])
            refine ru_done (by kernel_rfl) ?_
            obtain ⟨w88, hx89, F91, hxs90⟩ := (show Bun w [rbox g84 32 #[.int .i64 ((coreI z y).bl.lo), .int .i64 ((coreI z y).bl.hi), .int .i64 ((coreI z y).wh.lo), .int .i64 ((coreI z y).wh.hi), .int .i64 ((coreI z y).we.lo), .int .i64 ((coreI z y).we.hi), .int .i64 ((coreI z y).sn.lo), .int .i64 ((coreI z y).sn.hi)], rbox g69 32 #[.int .i64 ((coreI z y).bl.lo), .int .i64 ((coreI z y).bl.hi), .int .i64 ((coreI z y).wh.lo), .int .i64 ((coreI z y).wh.hi), .int .i64 ((coreI z y).we.lo), .int .i64 ((coreI z y).we.hi), .int .i64 ((coreI z y).sn.lo), .int .i64 ((coreI z y).sn.hi)], rsl iceEnc 8 g5_48 (g5_48 + 1) (.slice (some ⟨g5_48, 0, none⟩) 4 4) ([core, ⟨⟨max 0 (nr.bl.lo + r30), nr.bl.hi + r37⟩, ⟨nr.wh.lo, nr.wh.hi⟩, ⟨nr.we.lo, nr.we.hi⟩, ⟨nr.sn.lo, nr.sn.hi⟩⟩, core, ⟨⟨max 0 (nr.bl.lo + r30), nr.bl.hi + r37⟩, ⟨nr.wh.lo, nr.wh.hi⟩, ⟨nr.we.lo, nr.we.hi⟩, ⟨nr.sn.lo, nr.sn.hi⟩⟩]), rsl iceEnc 8 g5_43 (g5_43 + 1) (.slice (some ⟨g5_43, 0, none⟩) 4 4) ([x, ic, ic, x]), rseed sb, rsl intEnc 1 0 w.heap.size (.slice na zs.length nc) zs] _ from F87).name
            (try simp at hxs90)
            rw [hx89]
            clear hx89 F87
            have b92 := F91.bx8 0 rfl
            have b93 := F91.bx8 1 rfl
            go_wp2_with fail
            clear b92 b93
            have F94 : Bun w [rsl iceEnc 8 g5_48 (g5_48 + 1) (.slice (some ⟨g5_48, 0, none⟩) 4 4) ([core, ⟨⟨max 0 (nr.bl.lo + r30), nr.bl.hi + r37⟩, ⟨nr.wh.lo, nr.wh.hi⟩, ⟨nr.we.lo, nr.we.hi⟩, ⟨nr.sn.lo, nr.sn.hi⟩⟩, core, ⟨⟨max 0 (nr.bl.lo + r30), nr.bl.hi + r37⟩, ⟨nr.wh.lo, nr.wh.hi⟩, ⟨nr.we.lo, nr.we.hi⟩, ⟨nr.sn.lo, nr.sn.hi⟩⟩]), rsl iceEnc 8 g5_43 (g5_43 + 1) (.slice (some ⟨g5_43, 0, none⟩) 4 4) ([x, ic, ic, x]), rseed sb, rsl intEnc 1 0 w.heap.size (.slice na zs.length nc) zs] _ := F91.pick [2, 3, 4, 5] (by decide) rfl
            clear F91
            (first | refine ⟨by kernel_rfl, ?_, ?_⟩ | refine ⟨rfl, ?_, ?_⟩ | refine ⟨?_, ?_⟩)
            · rw [HI55.out]; exact ⟨k + 1, (by first | kernel_rfl | rfl), (by first | kernel_rfl | rfl), (by show Value.int .i64 ((k : Int) + 1) = _; simp), by omega, (by first | rfl | simp), (by first | omega | (simp; done) | (simp; omega)), F94⟩
            · simp [slot, intOf]; omega
      · skip
        have c59H := Lib.hid c59
        have c59a : decide ((k : Int) < 4) = false := dec_f c59
        go_wp2_with fail
        refine (awake_c _).mono ?_
        rintro e w97 ⟨rfl, hg95⟩
        have hg95s := hg95.size
        (try simp at hg95s)
        have F98 := hF56.gn hg95
        clear hF56
        clear hg95
        go_wp2_with fail
        go_ret
        exact ⟨rfl, F98.gb⟩
    case atStart9 =>
      rw [HI55.out]
      exact ⟨0, (by first | kernel_rfl | rfl), (by first | kernel_rfl | rfl), rfl, Nat.zero_le _, rfl, (by first | exact Nat.le_refl _ | omega | (simp; done) | (simp; omega)), ((((F54.drop 2 rfl).drop 2 rfl).drop 3 rfl).drop 3 rfl)⟩
  case first10 =>
    have F99 := F49.drew
    clear F49
    refine ru_begin (fun W => W.cell? ⟨w.heap.size, 0, none⟩ = some (.int .i64 x.bl.lo) ∧ W.cell? ⟨w.heap.size, 1, none⟩ = some (.int .i64 x.bl.hi) ∧ W.cell? ⟨w.heap.size, 2, none⟩ = some (.int .i64 x.wh.lo) ∧ W.cell? ⟨w.heap.size, 3, none⟩ = some (.int .i64 x.wh.hi) ∧ W.cell? ⟨w.heap.size, 4, none⟩ = some (.int .i64 x.we.lo) ∧ W.cell? ⟨w.heap.size, 5, none⟩ = some (.int .i64 x.we.hi) ∧ W.cell? ⟨w.heap.size, 6, none⟩ = some (.int .i64 x.sn.lo) ∧ W.cell? ⟨w.heap.size, 7, none⟩ = some (.int .i64 x.sn.hi) ∧ W.cell? ⟨w11.heap.size, 0, none⟩ = some (.int .i64 ic.bl.lo) ∧ W.cell? ⟨w11.heap.size, 1, none⟩ = some (.int .i64 ic.bl.hi) ∧ W.cell? ⟨w11.heap.size, 2, none⟩ = some (.int .i64 ic.wh.lo) ∧ W.cell? ⟨w11.heap.size, 3, none⟩ = some (.int .i64 ic.wh.hi) ∧ W.cell? ⟨w11.heap.size, 4, none⟩ = some (.int .i64 ic.we.lo) ∧ W.cell? ⟨w11.heap.size, 5, none⟩ = some (.int .i64 ic.we.hi) ∧ W.cell? ⟨w11.heap.size, 6, none⟩ = some (.int .i64 ic.sn.lo) ∧ W.cell? ⟨w11.heap.size, 7, none⟩ = some (.int .i64 ic.sn.hi) ∧ W.cell? ⟨(w.heap.size + 1), 0, none⟩ = some (.int .i64 core.bl.lo) ∧ W.cell? ⟨(w.heap.size + 1), 1, none⟩ = some (.int .i64 core.bl.hi) ∧ W.cell? ⟨(w.heap.size + 1), 2, none⟩ = some (.int .i64 core.wh.lo) ∧ W.cell? ⟨(w.heap.size + 1), 3, none⟩ = some (.int .i64 core.wh.hi) ∧ W.cell? ⟨(w.heap.size + 1), 4, none⟩ = some (.int .i64 core.we.lo) ∧ W.cell? ⟨(w.heap.size + 1), 5, none⟩ = some (.int .i64 core.we.hi) ∧ W.cell? ⟨(w.heap.size + 1), 6, none⟩ = some (.int .i64 core.sn.lo) ∧ W.cell? ⟨(w.heap.size + 1), 7, none⟩ = some (.int .i64 core.sn.hi) ∧ W.cell? ⟨w16.heap.size, 0, none⟩ = some (.int .i64 (max 0 (nr.bl.lo + r30))) ∧ W.cell? ⟨w16.heap.size, 1, none⟩ = some (.int .i64 (nr.bl.hi + r37)) ∧ W.cell? ⟨w16.heap.size, 2, none⟩ = some (.int .i64 nr.wh.lo) ∧ W.cell? ⟨w16.heap.size, 3, none⟩ = some (.int .i64 nr.wh.hi) ∧ W.cell? ⟨w16.heap.size, 4, none⟩ = some (.int .i64 nr.we.lo) ∧ W.cell? ⟨w16.heap.size, 5, none⟩ = some (.int .i64 nr.we.hi) ∧ W.cell? ⟨w16.heap.size, 6, none⟩ = some (.int .i64 nr.sn.lo) ∧ W.cell? ⟨w16.heap.size, 7, none⟩ = some (.int .i64 nr.sn.hi)) 11 (by kernel_rfl) ?_ ?_
    · exact ⟨F99.cl 4 0 rfl rfl, F99.cl 4 1 rfl rfl, F99.cl 4 2 rfl rfl, F99.cl 4 3 rfl rfl, F99.cl 4 4 rfl rfl, F99.cl 4 5 rfl rfl, F99.cl 4 6 rfl rfl, F99.cl 4 7 rfl rfl, F99.cl 1 0 rfl rfl, F99.cl 1 1 rfl rfl, F99.cl 1 2 rfl rfl, F99.cl 1 3 rfl rfl, F99.cl 1 4 rfl rfl, F99.cl 1 5 rfl rfl, F99.cl 1 6 rfl rfl, F99.cl 1 7 rfl rfl, F99.cl 3 0 rfl rfl, F99.cl 3 1 rfl rfl, F99.cl 3 2 rfl rfl, F99.cl 3 3 rfl rfl, F99.cl 3 4 rfl rfl, F99.cl 3 5 rfl rfl, F99.cl 3 6 rfl rfl, F99.cl 3 7 rfl rfl, F99.cl 0 0 rfl rfl, F99.cl 0 1 rfl rfl, F99.cl 0 2 rfl rfl, F99.cl 0 3 rfl rfl, F99.cl 0 4 rfl rfl, F99.cl 0 5 rfl rfl, F99.cl 0 6 rfl rfl, F99.cl 0 7 rfl rfl⟩
    obtain ⟨wd101, hwd_⟩ : ∃ x : World, w46.drew = x := ⟨_, rfl⟩
    rw [hwd_] at F99 ⊢
    have wd101s : w46.heap.size ≤ wd101.heap.size := by rw [← hwd_]; exact Nat.le_refl _
    clear hwd_
    have hS100 := (And.intro (F99.cl 4 0 rfl rfl) (And.intro (F99.cl 4 1 rfl rfl) (And.intro (F99.cl 4 2 rfl rfl) (And.intro (F99.cl 4 3 rfl rfl) (And.intro (F99.cl 4 4 rfl rfl) (And.intro (F99.cl 4 5 rfl rfl) (And.intro (F99.cl 4 6 rfl rfl) (And.intro (F99.cl 4 7 rfl rfl) (And.intro (F99.cl 1 0 rfl rfl) (And.intro (F99.cl 1 1 rfl rfl) (And.intro (F99.cl 1 2 rfl rfl) (And.intro (F99.cl 1 3 rfl rfl) (And.intro (F99.cl 1 4 rfl rfl) (And.intro (F99.cl 1 5 rfl rfl) (And.intro (F99.cl 1 6 rfl rfl) (And.intro (F99.cl 1 7 rfl rfl) (And.intro (F99.cl 3 0 rfl rfl) (And.intro (F99.cl 3 1 rfl rfl) (And.intro (F99.cl 3 2 rfl rfl) (And.intro (F99.cl 3 3 rfl rfl) (And.intro (F99.cl 3 4 rfl rfl) (And.intro (F99.cl 3 5 rfl rfl) (And.intro (F99.cl 3 6 rfl rfl) (And.intro (F99.cl 3 7 rfl rfl) (And.intro (F99.cl 0 0 rfl rfl) (And.intro (F99.cl 0 1 rfl rfl) (And.intro (F99.cl 0 2 rfl rfl) (And.intro (F99.cl 0 3 rfl rfl) (And.intro (F99.cl 0 4 rfl rfl) (And.intro (F99.cl 0 5 rfl rfl) (And.intro (F99.cl 0 6 rfl rfl) (F99.cl 0 7 rfl rfl))))))))))))))))))))))))))))))))
    refine ru_take 0 [] (v := ?_) rfl (by kernel_rfl) (fun _ _ _ h => h) (by assumption) (.inl ⟨by first | kernel_rfl | rfl, ?_⟩) ?_
    rotate_left
    · (intro wS hwS; (try dsimp only at hwS); go_simp; (try with_reducible rfl))
    (try simp only [Act.put, List.setIfInBounds_toArray, List.set_cons_zero, List.set_cons_succ])
    refine ru_take 1 [] (v := ?_) rfl (by kernel_rfl) (fun _ _ _ h => h) (by assumption) (.inl ⟨by first | kernel_rfl | rfl, ?_⟩) ?_
    rotate_left
    · (intro wS hwS; (try dsimp only at hwS); go_simp; (try with_reducible rfl))
    (try simp only [Act.put, List.setIfInBounds_toArray, List.set_cons_zero, List.set_cons_succ])
    refine ru_take 2 [] (v := ?_) rfl (by kernel_rfl) (fun _ _ _ h => h) (by assumption) (.inl ⟨by first | kernel_rfl | rfl, ?_⟩) ?_
    rotate_left
    · (intro wS hwS; (try dsimp only at hwS); go_simp; (try with_reducible rfl))
    (try simp only [Act.put, List.setIfInBounds_toArray, List.set_cons_zero, List.set_cons_succ])
    refine ru_take 3 [] (v := ?_) rfl (by kernel_rfl) (fun _ _ _ h => h) (by assumption) (.inl ⟨by first | kernel_rfl | rfl, ?_⟩) ?_
    rotate_left
    · (intro wS hwS; (try dsimp only at hwS); go_simp; (try with_reducible rfl))
    (try simp only [Act.put, List.setIfInBounds_toArray, List.set_cons_zero, List.set_cons_succ])
    refine ru_take 5 [] (v := ?_) rfl (by kernel_rfl) (fun _ _ _ h => h) (by assumption) (.inl ⟨by first | kernel_rfl | rfl, ?_⟩) ?_
    rotate_left
    · (intro wS hwS; (try dsimp only at hwS); go_simp; (try with_reducible rfl))
    (try simp only [Act.put, List.setIfInBounds_toArray, List.set_cons_zero, List.set_cons_succ])
    refine ru_take 6 [] (v := ?_) rfl (by kernel_rfl) (fun _ _ _ h => h) (by assumption) (.inl ⟨by first | kernel_rfl | rfl, ?_⟩) ?_
    rotate_left
    · (intro wS hwS; (try dsimp only at hwS); go_simp; (try with_reducible rfl))
    (try simp only [Act.put, List.setIfInBounds_toArray, List.set_cons_zero, List.set_cons_succ])
    refine ru_take 7 [] (v := ?_) rfl (by kernel_rfl) (fun _ _ _ h => h) (by assumption) (.inl ⟨by first | kernel_rfl | rfl, ?_⟩) ?_
    rotate_left
    · (intro wS hwS; (try dsimp only at hwS); go_simp; (try with_reducible rfl))
    (try simp only [Act.put, List.setIfInBounds_toArray, List.set_cons_zero, List.set_cons_succ])
    refine ru_take 8 [] (v := ?_) rfl (by kernel_rfl) (fun _ _ _ h => h) (by assumption) (.inl ⟨by first | kernel_rfl | rfl, ?_⟩) ?_
    rotate_left
    · (intro wS hwS; (try dsimp only at hwS); go_simp; (try with_reducible rfl))
    (try simp only [Act.put, List.setIfInBounds_toArray, List.set_cons_zero, List.set_cons_succ])
    clear hS100
    refine ru_two 4 9 rfl rfl (by kernel_rfl) ?_ ?_
    · intro K hK
      go_simp
      have F102 := F99.new 32 #[.int .i64 x.bl.lo, .int .i64 x.bl.hi, .int .i64 x.wh.lo, .int .i64 x.wh.hi, .int .i64 x.we.lo, .int .i64 x.we.hi, .int .i64 x.sn.lo, .int .i64 x.sn.hi, .int .i64 ic.bl.lo, .int .i64 ic.bl.hi, .int .i64 ic.wh.lo, .int .i64 ic.wh.hi, .int .i64 ic.we.lo, .int .i64 ic.we.hi, .int .i64 ic.sn.lo, .int .i64 ic.sn.hi, .int .i64 ic.bl.lo, .int .i64 ic.bl.hi, .int .i64 ic.wh.lo, .int .i64 ic.wh.hi, .int .i64 ic.we.lo, .int .i64 ic.we.hi, .int .i64 ic.sn.lo, .int .i64 ic.sn.hi, .int .i64 x.bl.lo, .int .i64 x.bl.hi, .int .i64 x.wh.lo, .int .i64 x.wh.hi, .int .i64 x.we.lo, .int .i64 x.we.hi, .int .i64 x.sn.lo, .int .i64 x.sn.hi] (n := wd101.heap.size) (by simp)
      clear F99
      refine ru_back hK (by exact ⟨F102.cl 5 0 rfl rfl, F102.cl 5 1 rfl rfl, F102.cl 5 2 rfl rfl, F102.cl 5 3 rfl rfl, F102.cl 5 4 rfl rfl, F102.cl 5 5 rfl rfl, F102.cl 5 6 rfl rfl, F102.cl 5 7 rfl rfl, F102.cl 2 0 rfl rfl, F102.cl 2 1 rfl rfl, F102.cl 2 2 rfl rfl, F102.cl 2 3 rfl rfl, F102.cl 2 4 rfl rfl, F102.cl 2 5 rfl rfl, F102.cl 2 6 rfl rfl, F102.cl 2 7 rfl rfl, F102.cl 4 0 rfl rfl, F102.cl 4 1 rfl rfl, F102.cl 4 2 rfl rfl, F102.cl 4 3 rfl rfl, F102.cl 4 4 rfl rfl, F102.cl 4 5 rfl rfl, F102.cl 4 6 rfl rfl, F102.cl 4 7 rfl rfl, F102.cl 1 0 rfl rfl, F102.cl 1 1 rfl rfl, F102.cl 1 2 rfl rfl, F102.cl 1 3 rfl rfl, F102.cl 1 4 rfl rfl, F102.cl 1 5 rfl rfl, F102.cl 1 6 rfl rfl, F102.cl 1 7 rfl rfl⟩) (fun hHeld => ?_)
      clear hK K
      (try simp only [Act.put, List.setIfInBounds_toArray, List.set_cons_zero, List.set_cons_succ])
      refine ru_pure 10 (v := ?_) rfl (by kernel_rfl) (fun _ _ _ h => h) (fun hd_ => by first | assumption | (exact absurd hd_ (by decide))) (.inl ⟨by first | kernel_rfl | rfl, ?_⟩) ?_
      rotate_left
      · (intro wS hwS; clear hwS; go_simp; (try with_reducible rfl))
      (try simp only [Act.put, List.setIfInBounds_toArray, List.set_cons_zero, List.set_cons_succ])
      refine ru_one 9 rfl (by kernel_rfl) (fun K hK => ?_)
      go_simp
      have F103 := F102.new 32 #[.int .i64 core.bl.lo, .int .i64 core.bl.hi, .int .i64 core.wh.lo, .int .i64 core.wh.hi, .int .i64 core.we.lo, .int .i64 core.we.hi, .int .i64 core.sn.lo, .int .i64 core.sn.hi, .int .i64 (max 0 (nr.bl.lo + r30)), .int .i64 (nr.bl.hi + r37), .int .i64 nr.wh.lo, .int .i64 nr.wh.hi, .int .i64 nr.we.lo, .int .i64 nr.we.hi, .int .i64 nr.sn.lo, .int .i64 nr.sn.hi, .int .i64 core.bl.lo, .int .i64 core.bl.hi, .int .i64 core.wh.lo, .int .i64 core.wh.hi, .int .i64 core.we.lo, .int .i64 core.we.hi, .int .i64 core.sn.lo, .int .i64 core.sn.hi, .int .i64 (max 0 (nr.bl.lo + r30)), .int .i64 (nr.bl.hi + r37), .int .i64 nr.wh.lo, .int .i64 nr.wh.hi, .int .i64 nr.we.lo, .int .i64 nr.we.hi, .int .i64 nr.sn.lo, .int .i64 nr.sn.hi] (n := (wd101.heap.size + 1)) (by simp)
      clear F102
      refine ru_back hK (by exact ⟨F103.cl 6 0 rfl rfl, F103.cl 6 1 rfl rfl, F103.cl 6 2 rfl rfl, F103.cl 6 3 rfl rfl, F103.cl 6 4 rfl rfl, F103.cl 6 5 rfl rfl, F103.cl 6 6 rfl rfl, F103.cl 6 7 rfl rfl, F103.cl 3 0 rfl rfl, F103.cl 3 1 rfl rfl, F103.cl 3 2 rfl rfl, F103.cl 3 3 rfl rfl, F103.cl 3 4 rfl rfl, F103.cl 3 5 rfl rfl, F103.cl 3 6 rfl rfl, F103.cl 3 7 rfl rfl, F103.cl 5 0 rfl rfl, F103.cl 5 1 rfl rfl, F103.cl 5 2 rfl rfl, F103.cl 5 3 rfl rfl, F103.cl 5 4 rfl rfl, F103.cl 5 5 rfl rfl, F103.cl 5 6 rfl rfl, F103.cl 5 7 rfl rfl, F103.cl 2 0 rfl rfl, F103.cl 2 1 rfl rfl, F103.cl 2 2 rfl rfl, F103.cl 2 3 rfl rfl, F103.cl 2 4 rfl rfl, F103.cl 2 5 rfl rfl, F103.cl 2 6 rfl rfl, F103.cl 2 7 rfl rfl⟩) (fun hHeld => ?_)
      clear hK K
      (try simp only [Act.put, List.setIfInBounds_toArray, List.set_cons_zero, List.set_cons_succ])
      refine ru_one 11 rfl (by kernel_rfl) (fun K hK => ?_)
      go_simp
      refine ru_back_late hK (by kernel_rfl) ?_
      clear hK K
      (try simp only [Act.put, List.setIfInBounds_toArray, List.set_cons_zero, List.set_cons_succ])
      refine ru_done (by kernel_rfl) ?_
      have F104 : Bun w [rbox wd101.heap.size 32 #[.int .i64 x.bl.lo, .int .i64 x.bl.hi, .int .i64 x.wh.lo, .int .i64 x.wh.hi, .int .i64 x.we.lo, .int .i64 x.we.hi, .int .i64 x.sn.lo, .int .i64 x.sn.hi, .int .i64 ic.bl.lo, .int .i64 ic.bl.hi, .int .i64 ic.wh.lo, .int .i64 ic.wh.hi, .int .i64 ic.we.lo, .int .i64 ic.we.hi, .int .i64 ic.sn.lo, .int .i64 ic.sn.hi, .int .i64 ic.bl.lo, .int .i64 ic.bl.hi, .int .i64 ic.wh.lo, .int .i64 ic.wh.hi, .int .i64 ic.we.lo, .int .i64 ic.we.hi, .int .i64 ic.sn.lo, .int .i64 ic.sn.hi, .int .i64 x.bl.lo, .int .i64 x.bl.hi, .int .i64 x.wh.lo, .int .i64 x.wh.hi, .int .i64 x.we.lo, .int .i64 x.we.hi, .int .i64 x.sn.lo, .int .i64 x.sn.hi], rbox (wd101.heap.size + 1) 32 #[.int .i64 core.bl.lo, .int .i64 core.bl.hi, .int .i64 core.wh.lo, .int .i64 core.wh.hi, .int .i64 core.we.lo, .int .i64 core.we.hi, .int .i64 core.sn.lo, .int .i64 core.sn.hi, .int .i64 (max 0 (nr.bl.lo + r30)), .int .i64 (nr.bl.hi + r37), .int .i64 nr.wh.lo, .int .i64 nr.wh.hi, .int .i64 nr.we.lo, .int .i64 nr.we.hi, .int .i64 nr.sn.lo, .int .i64 nr.sn.hi, .int .i64 core.bl.lo, .int .i64 core.bl.hi, .int .i64 core.wh.lo, .int .i64 core.wh.hi, .int .i64 core.we.lo, .int .i64 core.we.hi, .int .i64 core.sn.lo, .int .i64 core.sn.hi, .int .i64 (max 0 (nr.bl.lo + r30)), .int .i64 (nr.bl.hi + r37), .int .i64 nr.wh.lo, .int .i64 nr.wh.hi, .int .i64 nr.we.lo, .int .i64 nr.we.hi, .int .i64 nr.sn.lo, .int .i64 nr.sn.hi], rbox w16.heap.size 32 #[.int .i64 (max 0 (nr.bl.lo + r30)), .int .i64 (nr.bl.hi + r37), .int .i64 nr.wh.lo, .int .i64 nr.wh.hi, .int .i64 nr.we.lo, .int .i64 nr.we.hi, .int .i64 nr.sn.lo, .int .i64 nr.sn.hi], rbox w11.heap.size 32 (iceC ic), rseed sb, rbox (w.heap.size + 1) 32 (iceC core), rbox w.heap.size 32 (iceC x), rsl intEnc 1 0 w.heap.size (.slice na zs.length nc) zs] _ := F103.pick [1, 0, 2, 3, 4, 5, 6, 7] (by decide) rfl
      clear F103
      exact ⟨(by first | kernel_rfl | rfl), rfl, wd101.heap.size, wd101.heap.size + 1, (by first | kernel_rfl | rfl), (by first | kernel_rfl | rfl), (by first | omega | (simp; done) | (simp; omega)), F104⟩
    · intro K hK
      go_simp
      have F105 := F99.new 32 #[.int .i64 core.bl.lo, .int .i64 core.bl.hi, .int .i64 core.wh.lo, .int .i64 core.wh.hi, .int .i64 core.we.lo, .int .i64 core.we.hi, .int .i64 core.sn.lo, .int .i64 core.sn.hi, .int .i64 (max 0 (nr.bl.lo + r30)), .int .i64 (nr.bl.hi + r37), .int .i64 nr.wh.lo, .int .i64 nr.wh.hi, .int .i64 nr.we.lo, .int .i64 nr.we.hi, .int .i64 nr.sn.lo, .int .i64 nr.sn.hi, .int .i64 core.bl.lo, .int .i64 core.bl.hi, .int .i64 core.wh.lo, .int .i64 core.wh.hi, .int .i64 core.we.lo, .int .i64 core.we.hi, .int .i64 core.sn.lo, .int .i64 core.sn.hi, .int .i64 (max 0 (nr.bl.lo + r30)), .int .i64 (nr.bl.hi + r37), .int .i64 nr.wh.lo, .int .i64 nr.wh.hi, .int .i64 nr.we.lo, .int .i64 nr.we.hi, .int .i64 nr.sn.lo, .int .i64 nr.sn.hi] (n := wd101.heap.size) (by simp)
      clear F99
      refine ru_back hK (by exact ⟨F105.cl 5 0 rfl rfl, F105.cl 5 1 rfl rfl, F105.cl 5 2 rfl rfl, F105.cl 5 3 rfl rfl, F105.cl 5 4 rfl rfl, F105.cl 5 5 rfl rfl, F105.cl 5 6 rfl rfl, F105.cl 5 7 rfl rfl, F105.cl 2 0 rfl rfl, F105.cl 2 1 rfl rfl, F105.cl 2 2 rfl rfl, F105.cl 2 3 rfl rfl, F105.cl 2 4 rfl rfl, F105.cl 2 5 rfl rfl, F105.cl 2 6 rfl rfl, F105.cl 2 7 rfl rfl, F105.cl 4 0 rfl rfl, F105.cl 4 1 rfl rfl, F105.cl 4 2 rfl rfl, F105.cl 4 3 rfl rfl, F105.cl 4 4 rfl rfl, F105.cl 4 5 rfl rfl, F105.cl 4 6 rfl rfl, F105.cl 4 7 rfl rfl, F105.cl 1 0 rfl rfl, F105.cl 1 1 rfl rfl, F105.cl 1 2 rfl rfl, F105.cl 1 3 rfl rfl, F105.cl 1 4 rfl rfl, F105.cl 1 5 rfl rfl, F105.cl 1 6 rfl rfl, F105.cl 1 7 rfl rfl⟩) (fun hHeld => ?_)
      clear hK K
      (try simp only [Act.put, List.setIfInBounds_toArray, List.set_cons_zero, List.set_cons_succ])
      refine ru_one 4 rfl (by kernel_rfl) (fun K hK => ?_)
      go_simp
      have F106 := F105.new 32 #[.int .i64 x.bl.lo, .int .i64 x.bl.hi, .int .i64 x.wh.lo, .int .i64 x.wh.hi, .int .i64 x.we.lo, .int .i64 x.we.hi, .int .i64 x.sn.lo, .int .i64 x.sn.hi, .int .i64 ic.bl.lo, .int .i64 ic.bl.hi, .int .i64 ic.wh.lo, .int .i64 ic.wh.hi, .int .i64 ic.we.lo, .int .i64 ic.we.hi, .int .i64 ic.sn.lo, .int .i64 ic.sn.hi, .int .i64 ic.bl.lo, .int .i64 ic.bl.hi, .int .i64 ic.wh.lo, .int .i64 ic.wh.hi, .int .i64 ic.we.lo, .int .i64 ic.we.hi, .int .i64 ic.sn.lo, .int .i64 ic.sn.hi, .int .i64 x.bl.lo, .int .i64 x.bl.hi, .int .i64 x.wh.lo, .int .i64 x.wh.hi, .int .i64 x.we.lo, .int .i64 x.we.hi, .int .i64 x.sn.lo, .int .i64 x.sn.hi] (n := (wd101.heap.size + 1)) (by simp)
      clear F105
      refine ru_back hK (by exact ⟨F106.cl 6 0 rfl rfl, F106.cl 6 1 rfl rfl, F106.cl 6 2 rfl rfl, F106.cl 6 3 rfl rfl, F106.cl 6 4 rfl rfl, F106.cl 6 5 rfl rfl, F106.cl 6 6 rfl rfl, F106.cl 6 7 rfl rfl, F106.cl 3 0 rfl rfl, F106.cl 3 1 rfl rfl, F106.cl 3 2 rfl rfl, F106.cl 3 3 rfl rfl, F106.cl 3 4 rfl rfl, F106.cl 3 5 rfl rfl, F106.cl 3 6 rfl rfl, F106.cl 3 7 rfl rfl, F106.cl 5 0 rfl rfl, F106.cl 5 1 rfl rfl, F106.cl 5 2 rfl rfl, F106.cl 5 3 rfl rfl, F106.cl 5 4 rfl rfl, F106.cl 5 5 rfl rfl, F106.cl 5 6 rfl rfl, F106.cl 5 7 rfl rfl, F106.cl 2 0 rfl rfl, F106.cl 2 1 rfl rfl, F106.cl 2 2 rfl rfl, F106.cl 2 3 rfl rfl, F106.cl 2 4 rfl rfl, F106.cl 2 5 rfl rfl, F106.cl 2 6 rfl rfl, F106.cl 2 7 rfl rfl⟩) (fun hHeld => ?_)
      clear hK K
      (try simp only [Act.put, List.setIfInBounds_toArray, List.set_cons_zero, List.set_cons_succ])
      refine ru_pure 10 (v := ?_) rfl (by kernel_rfl) (fun _ _ _ h => h) (fun hd_ => by first | assumption | (exact absurd hd_ (by decide))) (.inl ⟨by first | kernel_rfl | rfl, ?_⟩) ?_
      rotate_left
      · (intro wS hwS; clear hwS; go_simp; (try with_reducible rfl))
      (try simp only [Act.put, List.setIfInBounds_toArray, List.set_cons_zero, List.set_cons_succ])
      refine ru_one 11 rfl (by kernel_rfl) (fun K hK => ?_)
      go_simp
      refine ru_back_late hK (by kernel_rfl) ?_
      clear hK K
      (try simp only [Act.put, List.setIfInBounds_toArray, List.set_cons_zero, List.set_cons_succ])
      refine ru_done (by kernel_rfl) ?_
      have F107 : Bun w [rbox (wd101.heap.size + 1) 32 #[.int .i64 x.bl.lo, .int .i64 x.bl.hi, .int .i64 x.wh.lo, .int .i64 x.wh.hi, .int .i64 x.we.lo, .int .i64 x.we.hi, .int .i64 x.sn.lo, .int .i64 x.sn.hi, .int .i64 ic.bl.lo, .int .i64 ic.bl.hi, .int .i64 ic.wh.lo, .int .i64 ic.wh.hi, .int .i64 ic.we.lo, .int .i64 ic.we.hi, .int .i64 ic.sn.lo, .int .i64 ic.sn.hi, .int .i64 ic.bl.lo, .int .i64 ic.bl.hi, .int .i64 ic.wh.lo, .int .i64 ic.wh.hi, .int .i64 ic.we.lo, .int .i64 ic.we.hi, .int .i64 ic.sn.lo, .int .i64 ic.sn.hi, .int .i64 x.bl.lo, .int .i64 x.bl.hi, .int .i64 x.wh.lo, .int .i64 x.wh.hi, .int .i64 x.we.lo, .int .i64 x.we.hi, .int .i64 x.sn.lo, .int .i64 x.sn.hi], rbox wd101.heap.size 32 #[.int .i64 core.bl.lo, .int .i64 core.bl.hi, .int .i64 core.wh.lo, .int .i64 core.wh.hi, .int .i64 core.we.lo, .int .i64 core.we.hi, .int .i64 core.sn.lo, .int .i64 core.sn.hi, .int .i64 (max 0 (nr.bl.lo + r30)), .int .i64 (nr.bl.hi + r37), .int .i64 nr.wh.lo, .int .i64 nr.wh.hi, .int .i64 nr.we.lo, .int .i64 nr.we.hi, .int .i64 nr.sn.lo, .int .i64 nr.sn.hi, .int .i64 core.bl.lo, .int .i64 core.bl.hi, .int .i64 core.wh.lo, .int .i64 core.wh.hi, .int .i64 core.we.lo, .int .i64 core.we.hi, .int .i64 core.sn.lo, .int .i64 core.sn.hi, .int .i64 (max 0 (nr.bl.lo + r30)), .int .i64 (nr.bl.hi + r37), .int .i64 nr.wh.lo, .int .i64 nr.wh.hi, .int .i64 nr.we.lo, .int .i64 nr.we.hi, .int .i64 nr.sn.lo, .int .i64 nr.sn.hi], rbox w16.heap.size 32 #[.int .i64 (max 0 (nr.bl.lo + r30)), .int .i64 (nr.bl.hi + r37), .int .i64 nr.wh.lo, .int .i64 nr.wh.hi, .int .i64 nr.we.lo, .int .i64 nr.we.hi, .int .i64 nr.sn.lo, .int .i64 nr.sn.hi], rbox w11.heap.size 32 (iceC ic), rseed sb, rbox (w.heap.size + 1) 32 (iceC core), rbox w.heap.size 32 (iceC x), rsl intEnc 1 0 w.heap.size (.slice na zs.length nc) zs] _ := F106.pick [0, 1, 2, 3, 4, 5, 6, 7] (by decide) rfl
      clear F106
      exact ⟨(by first | kernel_rfl | rfl), rfl, wd101.heap.size + 1, wd101.heap.size, (by first | kernel_rfl | rfl), (by first | kernel_rfl | rfl), (by first | omega | (simp; done) | (simp; omega)), F107⟩

end Go.Proofs.Ythblaiefalbomaa
