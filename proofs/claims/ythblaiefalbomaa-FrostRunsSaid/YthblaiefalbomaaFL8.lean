/- frost: FrostRuns walked. -/
import Derived.Test.YthblaiefalbomaaF47
import Derived.Test.YthblaiefalbomaaF17
import Derived.Test.YthblaiefalbomaaF28
import Derived.Test.YthblaiefalbomaaF26
import Derived.Test.YthblaiefalbomaaF24
import Derived.Test.YthblaiefalbomaaCopy3
set_option linter.unusedVariables false
set_option linter.unusedSimpArgs false
set_option linter.unnecessarySimpa false
namespace Go.Proofs.Ythblaiefalbomaa
open Go.RowKit
set_option maxRecDepth 100000

set_option maxHeartbeats 16000000 in
theorem runs_walk (l0 : Fro) (x0 : Ice) (d0 : List Wea) (v vd vn : Value) (zs : List Int) (w : World) (hl : Sl covEnc 3 0 w.heap.size w v l0.cov) (hd : Sl weaEnc 6 0 w.heap.size w vd d0) (hn : Sl intEnc 1 0 w.heap.size w vn zs) :
    Calls Try.prog 8 #[.agg (froC l0 v), .agg (iceC x0), vd, vn] w (Ret (.bool true) w) := by
  have F1 : Bun w [] w := Bun.nil _
  obtain ⟨sa0, sc0, rfl⟩ := hl.any
  have hm_l0 := hl.len
  unfold maxLen at hm_l0
  have F2 := F1.sl0 hl (Nat.le_refl _) rfl
  clear F1
  clear hl
  obtain ⟨da0, dc0, rfl⟩ := hd.any
  have hm_d0 := hd.len
  unfold maxLen at hm_d0
  have F3 := F2.sl0 hd (Nat.le_refl _) rfl
  clear F2
  clear hd
  obtain ⟨na, nc, rfl⟩ := hn.any
  have hm_nums := hn.len
  unfold maxLen at hm_nums
  have F4 := F3.sl0 hn (Nat.le_refl _) rfl
  clear F3
  go_enter Try.func8, Try.ntmps8
  go_wp2_with fail
  have F5 := F4.new 29 (froC l0 (.slice sa0 l0.cov.length sc0)) (n := w.heap.size) (by simp)
  clear F4
  have F6 := F5.new 32 (iceC x0) (n := (w.heap.size + 1)) (by simp)
  clear F5
  refine (big_c _ _ _ l0 _ _ _ d0 _ (F6.at 4 rfl : Sl covEnc 3 0 w.heap.size _ (.slice sa0 l0.cov.length sc0) l0.cov) (by first | omega | (simp; omega)) (F6.at 3 rfl : Sl weaEnc 6 0 w.heap.size _ (.slice da0 d0.length dc0) d0) (by first | omega | (simp; omega))).mono ?_
  rintro e w9 ⟨rfl, hg7⟩
  have hg7s := hg7.size
  (try simp at hg7s)
  have F10 := F6.gn hg7
  clear F6
  clear hg7
  cases c11 : bigB l0 d0
  · skip
    have c11H := Lib.hid c11
    have hbg : d0.length ≤ 420 := by have h_ := c11H.out; unfold bigB at h_; simp at h_; omega
    go_wp2_with fail
    refine (newSeed_c 0 w.heap.size _ zs _ (F10.at 2 rfl : Sl intEnc 1 0 w.heap.size _ (.slice na zs.length nc) zs)).mono ?_
    rintro e w14 ⟨sb, rfl, hsb, hsbs, hg12⟩
    have hsbl := hsbs.lt
    have hg12s := hg12.size
    (try simp at hg12s)
    have F15 := F10.add (rseed sb) hg12 (hsbs) (fun g e => by cases e; exact ⟨hsb, hsbs.lt⟩)
    clear F10
    clear hg12
    go_wp2_with fail
    refine (frostOf_c sb _ (F15.at 0 rfl : SeedAt _ sb)).mono ?_
    rintro e w18 ⟨l, vl, lo_l, hi_l, rfl, hxl, hyl, hzl, hfl, hs17, hg16⟩
    obtain ⟨sal, scl, rfl⟩ := hzl.any
    have HFl := Lib.hid hfl
    clear hfl
    have hml := hzl.len
    unfold maxLen at hml
    have hg16s := hg16.size
    (try simp at hg16s)
    have F19 := F15.seedAdd (rsl covEnc 3 lo_l hi_l (.slice sal l.cov.length scl) l.cov) hg16 hs17 (hzl) (fun g e => ⟨Nat.le_trans hxl e.1, Nat.lt_of_lt_of_le e.2 hyl⟩)
    clear F15
    clear hg16
    go_wp2_with fail
    refine (iceOf_c sb _ (F19.at 1 rfl : SeedAt _ sb)).mono ?_
    rintro e w22 ⟨ic, rfl, ⟨hic, hicm⟩, hs21, hg20⟩
    have hicb := iceB hic
    have hg20s := hg20.size
    (try simp at hg20s)
    have F23 := F19.seedAt 1 rfl hg20 hs21
    clear F19
    clear hg20
    go_wp2_with fail
    have F24 := F23.new 29 (froC l (.slice sal l.cov.length scl)) (n := w22.heap.size) (by simp)
    clear F23
    have F25 := F24.new 32 (iceC ic) (n := (w22.heap.size + 1)) (by simp)
    clear F24
    obtain ⟨w26, hx27, F29, hxs28⟩ := (show Bun w [rbox (w22.heap.size + 1) 32 (iceC ic), rbox w22.heap.size 29 (froC l (.slice sal l.cov.length scl)), rsl covEnc 3 lo_l hi_l (.slice sal l.cov.length scl) l.cov, rseed sb, rbox (w.heap.size + 1) 32 (iceC x0), rbox w.heap.size 29 (froC l0 (.slice sa0 l0.cov.length sc0)), rsl intEnc 1 0 w.heap.size (.slice na zs.length nc) zs, rsl weaEnc 6 0 w.heap.size (.slice da0 d0.length dc0) d0, rsl covEnc 3 0 w.heap.size (.slice sa0 l0.cov.length sc0) l0.cov] _ from F25).name
    (try simp at hxs28)
    rw [hx27]
    clear hx27 F25
    refine wp_cutK 131 (fun t wr => ∃ (g5_38 : Nat) (g5_42 : Nat) (g5_47 : Nat) (dl : List Wea) (da_dl : Option Addr) (dc_dl : Nat) (ld_dl : Nat) (hd_dl : Nat), t 12 = .slice (some ⟨g5_38, 0, none⟩) 3 3 ∧ t 13 = .slice (some ⟨g5_42, 0, none⟩) 3 3 ∧ t 14 = .slice (some ⟨g5_47, 0, none⟩) 3 3 ∧ w26.heap.size ≤ wr.heap.size ∧ ((dl.length : Int) ≤ 12) ∧ (∀ d ∈ dl, weaErr d = 0 ∧ (false = true → 0 ≤ d.cold.lo)) ∧ (dl.length ≤ dc_dl) ∧ (hd_dl ≤ wr.heap.size) ∧ Bun w [rbox g5_38 29 #[.int .i64 l0.gr, .int .i64 l0.la, .slice sa0 l0.cov.length sc0, .int .i64 l0.melt.lo, .int .i64 l0.melt.hi, .int .i64 l0.soak, .int .i64 l0.white.lo, .int .i64 l0.white.hi, .int .i64 l.gr, .int .i64 l.la, .slice sal l.cov.length scl, .int .i64 l.melt.lo, .int .i64 l.melt.hi, .int .i64 l.soak, .int .i64 l.white.lo, .int .i64 l.white.hi, .int .i64 l.gr, .int .i64 l.la, .slice sal l.cov.length scl, .int .i64 l.melt.lo, .int .i64 l.melt.hi, .int .i64 l.soak, .int .i64 l.white.lo, .int .i64 l.white.hi], rbox g5_42 32 #[.int .i64 x0.bl.lo, .int .i64 x0.bl.hi, .int .i64 x0.wh.lo, .int .i64 x0.wh.hi, .int .i64 x0.we.lo, .int .i64 x0.we.hi, .int .i64 x0.sn.lo, .int .i64 x0.sn.hi, .int .i64 ic.bl.lo, .int .i64 ic.bl.hi, .int .i64 ic.wh.lo, .int .i64 ic.wh.hi, .int .i64 ic.we.lo, .int .i64 ic.we.hi, .int .i64 ic.sn.lo, .int .i64 ic.sn.hi, .int .i64 ic.bl.lo, .int .i64 ic.bl.hi, .int .i64 ic.wh.lo, .int .i64 ic.wh.hi, .int .i64 ic.we.lo, .int .i64 ic.we.hi, .int .i64 ic.sn.lo, .int .i64 ic.sn.hi], rbox g5_47 36 #[.slice da0 d0.length dc0, .slice da_dl dl.length dc_dl, .slice da0 d0.length dc0], rbox (w22.heap.size + 1) 32 (iceC ic), rbox w22.heap.size 29 (froC l (.slice sal l.cov.length scl)), rsl covEnc 3 lo_l hi_l (.slice sal l.cov.length scl) l.cov, rseed sb, rbox (w.heap.size + 1) 32 (iceC x0), rbox w.heap.size 29 (froC l0 (.slice sa0 l0.cov.length sc0)), rsl intEnc 1 0 w.heap.size (.slice na zs.length nc) zs, rsl weaEnc 6 0 w.heap.size (.slice da0 d0.length dc0) d0, rsl covEnc 3 0 w.heap.size (.slice sa0 l0.cov.length sc0) l0.cov, rsl weaEnc 6 ld_dl hd_dl (.slice da_dl dl.length dc_dl) dl] wr) ?first17 ?rest17
    case rest17 =>
      rintro t wr ⟨g5_38, g5_42, g5_47, dl, da_dl, dc_dl, ld_dl, hd_dl, e12, e13, e14, hrel⟩
      have e : ((List.range 131).map t).toArray = #[t 0, t 1, t 2, t 3, t 4, t 5, t 6, t 7, t 8, t 9, t 10, t 11, t 12, t 13, t 14, t 15, t 16, t 17, t 18, t 19, t 20, t 21, t 22, t 23, t 24, t 25, t 26, t 27, t 28, t 29, t 30, t 31, t 32, t 33, t 34, t 35, t 36, t 37, t 38, t 39, t 40, t 41, t 42, t 43, t 44, t 45, t 46, t 47, t 48, t 49, t 50, t 51, t 52, t 53, t 54, t 55, t 56, t 57, t 58, t 59, t 60, t 61, t 62, t 63, t 64, t 65, t 66, t 67, t 68, t 69, t 70, t 71, t 72, t 73, t 74, t 75, t 76, t 77, t 78, t 79, t 80, t 81, t 82, t 83, t 84, t 85, t 86, t 87, t 88, t 89, t 90, t 91, t 92, t 93, t 94, t 95, t 96, t 97, t 98, t 99, t 100, t 101, t 102, t 103, t 104, t 105, t 106, t 107, t 108, t 109, t 110, t 111, t 112, t 113, t 114, t 115, t 116, t 117, t 118, t 119, t 120, t 121, t 122, t 123, t 124, t 125, t 126, t 127, t 128, t 129, t 130] := rfl
      (try dsimp only at e)
      rw [e12, e13, e14] at e
      rw [e]
      clear e e12 e13 e14
      obtain ⟨hs31, hdndl, hdvdl, hdcdl, hdydl, hF30⟩ := hrel
      clear F29
      obtain ⟨w32, rfl⟩ : ∃ x_ : World, x_ = wr := ⟨_, rfl⟩
      have HDdl := Lib.hid hdvdl
      clear hdvdl
      go_wp2_with fail
      refine wp_loop_rounds 4 ?_
      rw [rounds_succ]
      have b34 := hF30.bx3 2 rfl
      go_wp2_with (at_builtin; refine wpList_copyB okWea rfl _ _ rfl w.heap.size w32.heap.size rfl (hF30.new 35 #[] (n := w32.heap.size) (by simp)) (by first | omega | (simp; omega)) 0 w.heap.size (.slice da0 d0.length dc0) d0 rfl ((hF30.new 35 #[] (n := w32.heap.size) (by simp)).at 11 rfl) (by omega) ?_; intro vc35 w36 hB37 hs38; refine Hid.out ?_)
      refine Lib.hid ?_
      (try simp at hs38)
      clear b34
      have F39 := hB37
      clear hF30
      obtain ⟨ca40, cap41, e_⟩ := (Own.sl (F39.at 0 rfl : Own weaEnc 35 6 w.heap.size _ vc35 d0) (fun _ => rfl)).any
      subst e_
      go_wp2_with fail
      have F44 := F39.drew
      clear F39
      refine ru_begin (fun W => W.cell? ⟨g5_38, 0, none⟩ = some (.int .i64 l0.gr) ∧ W.cell? ⟨g5_38, 1, none⟩ = some (.int .i64 l0.la) ∧ W.cell? ⟨g5_38, 2, none⟩ = some (.slice sa0 l0.cov.length sc0) ∧ W.cell? ⟨g5_38, 3, none⟩ = some (.int .i64 l0.melt.lo) ∧ W.cell? ⟨g5_38, 4, none⟩ = some (.int .i64 l0.melt.hi) ∧ W.cell? ⟨g5_38, 5, none⟩ = some (.int .i64 l0.soak) ∧ W.cell? ⟨g5_38, 6, none⟩ = some (.int .i64 l0.white.lo) ∧ W.cell? ⟨g5_38, 7, none⟩ = some (.int .i64 l0.white.hi) ∧ W.cell? ⟨g5_42, 0, none⟩ = some (.int .i64 x0.bl.lo) ∧ W.cell? ⟨g5_42, 1, none⟩ = some (.int .i64 x0.bl.hi) ∧ W.cell? ⟨g5_42, 2, none⟩ = some (.int .i64 x0.wh.lo) ∧ W.cell? ⟨g5_42, 3, none⟩ = some (.int .i64 x0.wh.hi) ∧ W.cell? ⟨g5_42, 4, none⟩ = some (.int .i64 x0.we.lo) ∧ W.cell? ⟨g5_42, 5, none⟩ = some (.int .i64 x0.we.hi) ∧ W.cell? ⟨g5_42, 6, none⟩ = some (.int .i64 x0.sn.lo) ∧ W.cell? ⟨g5_42, 7, none⟩ = some (.int .i64 x0.sn.hi)) 14 (by kernel_rfl) ?_ ?_
      · exact ⟨F44.cl 1 0 rfl rfl, F44.cl 1 1 rfl rfl, F44.cl 1 2 rfl rfl, F44.cl 1 3 rfl rfl, F44.cl 1 4 rfl rfl, F44.cl 1 5 rfl rfl, F44.cl 1 6 rfl rfl, F44.cl 1 7 rfl rfl, F44.cl 2 0 rfl rfl, F44.cl 2 1 rfl rfl, F44.cl 2 2 rfl rfl, F44.cl 2 3 rfl rfl, F44.cl 2 4 rfl rfl, F44.cl 2 5 rfl rfl, F44.cl 2 6 rfl rfl, F44.cl 2 7 rfl rfl⟩
      obtain ⟨wd46, hwd_⟩ : ∃ x : World, w36.drew = x := ⟨_, rfl⟩
      rw [hwd_] at F44 ⊢
      have wd46s : w36.heap.size ≤ wd46.heap.size := by rw [← hwd_]; exact Nat.le_refl _
      clear hwd_
      have hS45 := (And.intro (F44.cl 1 0 rfl rfl) (And.intro (F44.cl 1 1 rfl rfl) (And.intro (F44.cl 1 2 rfl rfl) (And.intro (F44.cl 1 3 rfl rfl) (And.intro (F44.cl 1 4 rfl rfl) (And.intro (F44.cl 1 5 rfl rfl) (And.intro (F44.cl 1 6 rfl rfl) (And.intro (F44.cl 1 7 rfl rfl) (And.intro (F44.cl 2 0 rfl rfl) (And.intro (F44.cl 2 1 rfl rfl) (And.intro (F44.cl 2 2 rfl rfl) (And.intro (F44.cl 2 3 rfl rfl) (And.intro (F44.cl 2 4 rfl rfl) (And.intro (F44.cl 2 5 rfl rfl) (And.intro (F44.cl 2 6 rfl rfl) (F44.cl 2 7 rfl rfl))))))))))))))))
      refine ru_take 0 [] (v := ?_) rfl (by kernel_rfl) (fun _ _ _ h => h) (by assumption) (.inl ⟨by first | kernel_rfl | rfl, ?_⟩) ?_
      rotate_left
      · (intro wS hwS; (try dsimp only at hwS); go_simp; (try with_reducible rfl))
      (try simp only [Act.put, List.setIfInBounds_toArray, List.set_cons_zero, List.set_cons_succ])
      refine ru_take 1 [] (v := ?_) rfl (by kernel_rfl) (fun _ _ _ h => h) (by assumption) (.inl ⟨by first | kernel_rfl | rfl, ?_⟩) ?_
      rotate_left
      · (intro wS hwS; (try dsimp only at hwS); go_simp; (try with_reducible rfl))
      (try simp only [Act.put, List.setIfInBounds_toArray, List.set_cons_zero, List.set_cons_succ])
      refine ru_take 2 [] (v := ?_) rfl (by kernel_rfl) (fun _ _ _ h => h) (by assumption) (.inl ⟨by first | kernel_rfl | rfl, ?_⟩) ?_
      rotate_left
      · (intro wS hwS; (try dsimp only at hwS); go_simp; (try with_reducible rfl))
      (try simp only [Act.put, List.setIfInBounds_toArray, List.set_cons_zero, List.set_cons_succ])
      refine ru_take 3 [] (v := ?_) rfl (by kernel_rfl) (fun _ _ _ h => h) (by assumption) (.inl ⟨by first | kernel_rfl | rfl, ?_⟩) ?_
      rotate_left
      · (intro wS hwS; (try dsimp only at hwS); go_simp; (try with_reducible rfl))
      (try simp only [Act.put, List.setIfInBounds_toArray, List.set_cons_zero, List.set_cons_succ])
      refine ru_take 4 [] (v := ?_) rfl (by kernel_rfl) (fun _ _ _ h => h) (by assumption) (.inl ⟨by first | kernel_rfl | rfl, ?_⟩) ?_
      rotate_left
      · (intro wS hwS; (try dsimp only at hwS); go_simp; (try with_reducible rfl))
      (try simp only [Act.put, List.setIfInBounds_toArray, List.set_cons_zero, List.set_cons_succ])
      refine ru_take 5 [] (v := ?_) rfl (by kernel_rfl) (fun _ _ _ h => h) (by assumption) (.inl ⟨by first | kernel_rfl | rfl, ?_⟩) ?_
      rotate_left
      · (intro wS hwS; (try dsimp only at hwS); go_simp; (try with_reducible rfl))
      (try simp only [Act.put, List.setIfInBounds_toArray, List.set_cons_zero, List.set_cons_succ])
      refine ru_take 6 [] (v := ?_) rfl (by kernel_rfl) (fun _ _ _ h => h) (by assumption) (.inl ⟨by first | kernel_rfl | rfl, ?_⟩) ?_
      rotate_left
      · (intro wS hwS; (try dsimp only at hwS); go_simp; (try with_reducible rfl))
      (try simp only [Act.put, List.setIfInBounds_toArray, List.set_cons_zero, List.set_cons_succ])
      refine ru_take 7 [] (v := ?_) rfl (by kernel_rfl) (fun _ _ _ h => h) (by assumption) (.inl ⟨by first | kernel_rfl | rfl, ?_⟩) ?_
      rotate_left
      · (intro wS hwS; (try dsimp only at hwS); go_simp; (try with_reducible rfl))
      (try simp only [Act.put, List.setIfInBounds_toArray, List.set_cons_zero, List.set_cons_succ])
      refine ru_take 8 [] (v := ?_) rfl (by kernel_rfl) (fun _ _ _ h => h) (by assumption) (.inl ⟨by first | kernel_rfl | rfl, ?_⟩) ?_
      rotate_left
      · (intro wS hwS; (try dsimp only at hwS); go_simp; (try with_reducible rfl))
      (try simp only [Act.put, List.setIfInBounds_toArray, List.set_cons_zero, List.set_cons_succ])
      clear hS45
      refine ru_one 9 rfl (by kernel_rfl) (fun K hK => ?_)
      go_simp
      refine (run_g _ _ _ l0 x0 _ _ _ d0 _ (F44.at 12 rfl : Sl covEnc 3 0 w.heap.size _ (.slice sa0 l0.cov.length sc0) l0.cov) (by first | omega | (simp; omega)) (Own.sl (F44.at 0 rfl : Own weaEnc 35 6 w.heap.size _ (.slice ca40 d0.length cap41) d0) (fun _ => rfl)) (Nat.le_refl _)).mono ?_
      rintro e w50 ⟨ra_g47, rc_g47, rl_g47, rh_g47, rfl, ⟨rxg47, ryg47⟩, rwg47, hg48⟩
      have hg48s := hg48.size
      (try simp at hg48s)
      have F51 := F44.add (rsl iceEnc 8 rl_g47 rh_g47 (.slice ra_g47 (runI l0 x0 d0).length rc_g47) (runI l0 x0 d0)) hg48 (rwg47) (fun g e => ⟨Nat.le_trans rxg47 e.1, Nat.lt_of_lt_of_le e.2 ryg47⟩)
      clear F44
      refine ru_back hK (by exact ⟨F51.cl 2 0 rfl rfl, F51.cl 2 1 rfl rfl, F51.cl 2 2 rfl rfl, F51.cl 2 3 rfl rfl, F51.cl 2 4 rfl rfl, F51.cl 2 5 rfl rfl, F51.cl 2 6 rfl rfl, F51.cl 2 7 rfl rfl, F51.cl 3 0 rfl rfl, F51.cl 3 1 rfl rfl, F51.cl 3 2 rfl rfl, F51.cl 3 3 rfl rfl, F51.cl 3 4 rfl rfl, F51.cl 3 5 rfl rfl, F51.cl 3 6 rfl rfl, F51.cl 3 7 rfl rfl⟩) (fun hHeld => ?_)
      clear hK K
      (try simp only [Act.put, List.setIfInBounds_toArray, List.set_cons_zero, List.set_cons_succ])
      refine ru_pure 10 (v := ?_) rfl (by kernel_rfl) (fun _ _ _ h => h) (fun hd_ => by first | assumption | (exact absurd hd_ (by decide))) (.inl ⟨by first | kernel_rfl | rfl, ?_⟩) ?_
      rotate_left
      · (intro wS hwS; clear hwS; go_simp; (try with_reducible rfl))
      (try simp only [Act.put, List.setIfInBounds_toArray, List.set_cons_zero, List.set_cons_succ])
      refine ru_pure 11 (v := ?_) rfl (by kernel_rfl) (fun _ _ _ h => h) (fun hd_ => by first | assumption | (exact absurd hd_ (by decide))) (.inl ⟨by first | kernel_rfl | rfl, ?_⟩) ?_
      rotate_left
      · (intro wS hwS; clear hwS; go_simp; (try with_reducible rfl))
      (try simp only [Act.put, List.setIfInBounds_toArray, List.set_cons_zero, List.set_cons_succ])
      refine ru_pure 12 (v := ?_) rfl (by kernel_rfl) (fun _ _ _ h => h) (fun hd_ => by first | assumption | (exact absurd hd_ (by decide))) (.inl ⟨by first | kernel_rfl | rfl, ?_⟩) ?_
      rotate_left
      · (intro wS hwS; clear hwS; go_simp; (try with_reducible rfl))
      (try simp only [Act.put, List.setIfInBounds_toArray, List.set_cons_zero, List.set_cons_succ])
      refine ru_pure 13 (v := ?_) rfl (by kernel_rfl) (fun _ _ _ h => h) (fun hd_ => by first | assumption | (exact absurd hd_ (by decide))) (.inl ⟨by first | kernel_rfl | rfl, ?_⟩) ?_
      rotate_left
      · (intro wS hwS; clear hwS; go_simp; (try with_reducible rfl))
      (try simp only [Act.put, List.setIfInBounds_toArray, List.set_cons_zero, List.set_cons_succ])
      refine ru_one 14 rfl (by kernel_rfl) (fun K hK => ?_)
      go_simp
      refine ru_back_late hK (by kernel_rfl) ?_
      clear hK K
      (try simp only [Act.put, List.setIfInBounds_toArray, List.set_cons_zero, List.set_cons_succ])
      refine ru_done (by kernel_rfl) ?_
      obtain ⟨w52, hx53, F55, hxs54⟩ := (show Bun w [rsl iceEnc 8 rl_g47 rh_g47 (.slice ra_g47 (runI l0 x0 d0).length rc_g47) (runI l0 x0 d0), rown weaEnc 35 6 w.heap.size (.slice ca40 d0.length cap41) d0, rbox g5_38 29 #[.int .i64 l0.gr, .int .i64 l0.la, .slice sa0 l0.cov.length sc0, .int .i64 l0.melt.lo, .int .i64 l0.melt.hi, .int .i64 l0.soak, .int .i64 l0.white.lo, .int .i64 l0.white.hi, .int .i64 l.gr, .int .i64 l.la, .slice sal l.cov.length scl, .int .i64 l.melt.lo, .int .i64 l.melt.hi, .int .i64 l.soak, .int .i64 l.white.lo, .int .i64 l.white.hi, .int .i64 l.gr, .int .i64 l.la, .slice sal l.cov.length scl, .int .i64 l.melt.lo, .int .i64 l.melt.hi, .int .i64 l.soak, .int .i64 l.white.lo, .int .i64 l.white.hi], rbox g5_42 32 #[.int .i64 x0.bl.lo, .int .i64 x0.bl.hi, .int .i64 x0.wh.lo, .int .i64 x0.wh.hi, .int .i64 x0.we.lo, .int .i64 x0.we.hi, .int .i64 x0.sn.lo, .int .i64 x0.sn.hi, .int .i64 ic.bl.lo, .int .i64 ic.bl.hi, .int .i64 ic.wh.lo, .int .i64 ic.wh.hi, .int .i64 ic.we.lo, .int .i64 ic.we.hi, .int .i64 ic.sn.lo, .int .i64 ic.sn.hi, .int .i64 ic.bl.lo, .int .i64 ic.bl.hi, .int .i64 ic.wh.lo, .int .i64 ic.wh.hi, .int .i64 ic.we.lo, .int .i64 ic.we.hi, .int .i64 ic.sn.lo, .int .i64 ic.sn.hi], rbox g5_47 36 #[.slice da0 d0.length dc0, .slice da_dl dl.length dc_dl, .slice da0 d0.length dc0], rsl covEnc 3 lo_l hi_l (.slice sal l.cov.length scl) l.cov, rseed sb, rsl intEnc 1 0 w.heap.size (.slice na zs.length nc) zs, rsl weaEnc 6 0 w.heap.size (.slice da0 d0.length dc0) d0, rsl covEnc 3 0 w.heap.size (.slice sa0 l0.cov.length sc0) l0.cov, rsl weaEnc 6 ld_dl hd_dl (.slice da_dl dl.length dc_dl) dl] _ from ((((F51.drop 5 rfl).drop 5 rfl).drop 7 rfl).drop 7 rfl)).name
      (try simp at hxs54)
      rw [hx53]
      clear hx53 F51
      go_wp2_with fail
      have F58 := F55.drew
      clear F55
      refine ru_begin (fun W => W.cell? ⟨g5_38, 0, none⟩ = some (.int .i64 l0.gr) ∧ W.cell? ⟨g5_38, 1, none⟩ = some (.int .i64 l0.la) ∧ W.cell? ⟨g5_38, 2, none⟩ = some (.slice sa0 l0.cov.length sc0) ∧ W.cell? ⟨g5_38, 3, none⟩ = some (.int .i64 l0.melt.lo) ∧ W.cell? ⟨g5_38, 4, none⟩ = some (.int .i64 l0.melt.hi) ∧ W.cell? ⟨g5_38, 5, none⟩ = some (.int .i64 l0.soak) ∧ W.cell? ⟨g5_38, 6, none⟩ = some (.int .i64 l0.white.lo) ∧ W.cell? ⟨g5_38, 7, none⟩ = some (.int .i64 l0.white.hi) ∧ W.cell? ⟨g5_42, 0, none⟩ = some (.int .i64 x0.bl.lo) ∧ W.cell? ⟨g5_42, 1, none⟩ = some (.int .i64 x0.bl.hi) ∧ W.cell? ⟨g5_42, 2, none⟩ = some (.int .i64 x0.wh.lo) ∧ W.cell? ⟨g5_42, 3, none⟩ = some (.int .i64 x0.wh.hi) ∧ W.cell? ⟨g5_42, 4, none⟩ = some (.int .i64 x0.we.lo) ∧ W.cell? ⟨g5_42, 5, none⟩ = some (.int .i64 x0.we.hi) ∧ W.cell? ⟨g5_42, 6, none⟩ = some (.int .i64 x0.sn.lo) ∧ W.cell? ⟨g5_42, 7, none⟩ = some (.int .i64 x0.sn.hi) ∧ W.cell? ⟨g5_47, 0, none⟩ = some (.slice da0 d0.length dc0)) 17 (by kernel_rfl) ?_ ?_
      · exact ⟨F58.cl 2 0 rfl rfl, F58.cl 2 1 rfl rfl, F58.cl 2 2 rfl rfl, F58.cl 2 3 rfl rfl, F58.cl 2 4 rfl rfl, F58.cl 2 5 rfl rfl, F58.cl 2 6 rfl rfl, F58.cl 2 7 rfl rfl, F58.cl 3 0 rfl rfl, F58.cl 3 1 rfl rfl, F58.cl 3 2 rfl rfl, F58.cl 3 3 rfl rfl, F58.cl 3 4 rfl rfl, F58.cl 3 5 rfl rfl, F58.cl 3 6 rfl rfl, F58.cl 3 7 rfl rfl, F58.cl 4 0 rfl rfl⟩
      obtain ⟨wd60, hwd_⟩ : ∃ x : World, w52.drew = x := ⟨_, rfl⟩
      rw [hwd_] at F58 ⊢
      have wd60s : w52.heap.size ≤ wd60.heap.size := by rw [← hwd_]; exact Nat.le_refl _
      clear hwd_
      have hS59 := (And.intro (F58.cl 2 0 rfl rfl) (And.intro (F58.cl 2 1 rfl rfl) (And.intro (F58.cl 2 2 rfl rfl) (And.intro (F58.cl 2 3 rfl rfl) (And.intro (F58.cl 2 4 rfl rfl) (And.intro (F58.cl 2 5 rfl rfl) (And.intro (F58.cl 2 6 rfl rfl) (And.intro (F58.cl 2 7 rfl rfl) (And.intro (F58.cl 3 0 rfl rfl) (And.intro (F58.cl 3 1 rfl rfl) (And.intro (F58.cl 3 2 rfl rfl) (And.intro (F58.cl 3 3 rfl rfl) (And.intro (F58.cl 3 4 rfl rfl) (And.intro (F58.cl 3 5 rfl rfl) (And.intro (F58.cl 3 6 rfl rfl) (And.intro (F58.cl 3 7 rfl rfl) (F58.cl 4 0 rfl rfl)))))))))))))))))
      refine ru_take 0 [] (v := ?_) rfl (by kernel_rfl) (fun _ _ _ h => h) (by assumption) (.inl ⟨by first | kernel_rfl | rfl, ?_⟩) ?_
      rotate_left
      · (intro wS hwS; (try dsimp only at hwS); go_simp; (try with_reducible rfl))
      (try simp only [Act.put, List.setIfInBounds_toArray, List.set_cons_zero, List.set_cons_succ])
      refine ru_take 1 [] (v := ?_) rfl (by kernel_rfl) (fun _ _ _ h => h) (by assumption) (.inl ⟨by first | kernel_rfl | rfl, ?_⟩) ?_
      rotate_left
      · (intro wS hwS; (try dsimp only at hwS); go_simp; (try with_reducible rfl))
      (try simp only [Act.put, List.setIfInBounds_toArray, List.set_cons_zero, List.set_cons_succ])
      refine ru_take 2 [] (v := ?_) rfl (by kernel_rfl) (fun _ _ _ h => h) (by assumption) (.inl ⟨by first | kernel_rfl | rfl, ?_⟩) ?_
      rotate_left
      · (intro wS hwS; (try dsimp only at hwS); go_simp; (try with_reducible rfl))
      (try simp only [Act.put, List.setIfInBounds_toArray, List.set_cons_zero, List.set_cons_succ])
      refine ru_take 3 [] (v := ?_) rfl (by kernel_rfl) (fun _ _ _ h => h) (by assumption) (.inl ⟨by first | kernel_rfl | rfl, ?_⟩) ?_
      rotate_left
      · (intro wS hwS; (try dsimp only at hwS); go_simp; (try with_reducible rfl))
      (try simp only [Act.put, List.setIfInBounds_toArray, List.set_cons_zero, List.set_cons_succ])
      refine ru_take 4 [] (v := ?_) rfl (by kernel_rfl) (fun _ _ _ h => h) (by assumption) (.inl ⟨by first | kernel_rfl | rfl, ?_⟩) ?_
      rotate_left
      · (intro wS hwS; (try dsimp only at hwS); go_simp; (try with_reducible rfl))
      (try simp only [Act.put, List.setIfInBounds_toArray, List.set_cons_zero, List.set_cons_succ])
      refine ru_take 5 [] (v := ?_) rfl (by kernel_rfl) (fun _ _ _ h => h) (by assumption) (.inl ⟨by first | kernel_rfl | rfl, ?_⟩) ?_
      rotate_left
      · (intro wS hwS; (try dsimp only at hwS); go_simp; (try with_reducible rfl))
      (try simp only [Act.put, List.setIfInBounds_toArray, List.set_cons_zero, List.set_cons_succ])
      refine ru_take 6 [] (v := ?_) rfl (by kernel_rfl) (fun _ _ _ h => h) (by assumption) (.inl ⟨by first | kernel_rfl | rfl, ?_⟩) ?_
      rotate_left
      · (intro wS hwS; (try dsimp only at hwS); go_simp; (try with_reducible rfl))
      (try simp only [Act.put, List.setIfInBounds_toArray, List.set_cons_zero, List.set_cons_succ])
      refine ru_take 7 [] (v := ?_) rfl (by kernel_rfl) (fun _ _ _ h => h) (by assumption) (.inl ⟨by first | kernel_rfl | rfl, ?_⟩) ?_
      rotate_left
      · (intro wS hwS; (try dsimp only at hwS); go_simp; (try with_reducible rfl))
      (try simp only [Act.put, List.setIfInBounds_toArray, List.set_cons_zero, List.set_cons_succ])
      refine ru_take 8 [] (v := ?_) rfl (by kernel_rfl) (fun _ _ _ h => h) (by assumption) (.inl ⟨by first | kernel_rfl | rfl, ?_⟩) ?_
      rotate_left
      · (intro wS hwS; (try dsimp only at hwS); go_simp; (try with_reducible rfl))
      (try simp only [Act.put, List.setIfInBounds_toArray, List.set_cons_zero, List.set_cons_succ])
      refine ru_take 9 [] (v := ?_) rfl (by kernel_rfl) (fun _ _ _ h => h) (by assumption) (.inl ⟨by first | kernel_rfl | rfl, ?_⟩) ?_
      rotate_left
      · (intro wS hwS; (try dsimp only at hwS); go_simp; (try with_reducible rfl))
      (try simp only [Act.put, List.setIfInBounds_toArray, List.set_cons_zero, List.set_cons_succ])
      refine ru_take 10 [] (v := ?_) rfl (by kernel_rfl) (fun _ _ _ h => h) (by assumption) (.inl ⟨by first | kernel_rfl | rfl, ?_⟩) ?_
      rotate_left
      · (intro wS hwS; (try dsimp only at hwS); go_simp; (try with_reducible rfl))
      (try simp only [Act.put, List.setIfInBounds_toArray, List.set_cons_zero, List.set_cons_succ])
      refine ru_take 11 [] (v := ?_) rfl (by kernel_rfl) (fun _ _ _ h => h) (by assumption) (.inl ⟨by first | kernel_rfl | rfl, ?_⟩) ?_
      rotate_left
      · (intro wS hwS; (try dsimp only at hwS); go_simp; (try with_reducible rfl))
      (try simp only [Act.put, List.setIfInBounds_toArray, List.set_cons_zero, List.set_cons_succ])
      clear hS59
      refine ru_one 12 rfl (by kernel_rfl) (fun K hK => ?_)
      go_simp
      refine (rrun_g _ _ _ l0 x0 _ _ _ d0 _ (F58.at 9 rfl : Sl covEnc 3 0 w.heap.size _ (.slice sa0 l0.cov.length sc0) l0.cov) (by first | omega | (simp; omega)) (F58.at 8 rfl : Sl weaEnc 6 0 w.heap.size _ (.slice da0 d0.length dc0) d0) (by first | omega | (simp; omega))).mono ?_
      rintro e w64 ⟨ra_g61, rc_g61, rl_g61, rh_g61, rfl, ⟨rxg61, ryg61⟩, rwg61, hg62⟩
      have hg62s := hg62.size
      (try simp at hg62s)
      have F65 := F58.add (rsl iceEnc 8 rl_g61 rh_g61 (.slice ra_g61 (runI l0 x0 d0).length rc_g61) (runI l0 x0 d0)) hg62 (rwg61) (fun g e => ⟨Nat.le_trans rxg61 e.1, Nat.lt_of_lt_of_le e.2 ryg61⟩)
      clear F58
      refine ru_back hK (by exact ⟨F65.cl 3 0 rfl rfl, F65.cl 3 1 rfl rfl, F65.cl 3 2 rfl rfl, F65.cl 3 3 rfl rfl, F65.cl 3 4 rfl rfl, F65.cl 3 5 rfl rfl, F65.cl 3 6 rfl rfl, F65.cl 3 7 rfl rfl, F65.cl 4 0 rfl rfl, F65.cl 4 1 rfl rfl, F65.cl 4 2 rfl rfl, F65.cl 4 3 rfl rfl, F65.cl 4 4 rfl rfl, F65.cl 4 5 rfl rfl, F65.cl 4 6 rfl rfl, F65.cl 4 7 rfl rfl, F65.cl 5 0 rfl rfl⟩) (fun hHeld => ?_)
      clear hK K
      (try simp only [Act.put, List.setIfInBounds_toArray, List.set_cons_zero, List.set_cons_succ])
      refine ru_pure 13 (v := ?_) rfl (by kernel_rfl) (fun _ _ _ h => h) (fun hd_ => by first | assumption | (exact absurd hd_ (by decide))) (.inl ⟨by first | kernel_rfl | rfl, ?_⟩) ?_
      rotate_left
      · (intro wS hwS; clear hwS; go_simp; (try with_reducible rfl))
      (try simp only [Act.put, List.setIfInBounds_toArray, List.set_cons_zero, List.set_cons_succ])
      refine ru_pure 14 (v := ?_) rfl (by kernel_rfl) (fun _ _ _ h => h) (fun hd_ => by first | assumption | (exact absurd hd_ (by decide))) (.inl ⟨by first | kernel_rfl | rfl, ?_⟩) ?_
      rotate_left
      · (intro wS hwS; clear hwS; go_simp; (try with_reducible rfl))
      (try simp only [Act.put, List.setIfInBounds_toArray, List.set_cons_zero, List.set_cons_succ])
      refine ru_pure 15 (v := ?_) rfl (by kernel_rfl) (fun _ _ _ h => h) (fun hd_ => by first | assumption | (exact absurd hd_ (by decide))) (.inl ⟨by first | kernel_rfl | rfl, ?_⟩) ?_
      rotate_left
      · (intro wS hwS; clear hwS; go_simp; (try with_reducible rfl))
      (try simp only [Act.put, List.setIfInBounds_toArray, List.set_cons_zero, List.set_cons_succ])
      refine ru_pure 16 (v := ?_) rfl (by kernel_rfl) (fun _ _ _ h => h) (fun hd_ => by first | assumption | (exact absurd hd_ (by decide))) (.inl ⟨by first | kernel_rfl | rfl, ?_⟩) ?_
      rotate_left
      · (intro wS hwS; clear hwS; go_simp; (try with_reducible rfl))
      (try simp only [Act.put, List.setIfInBounds_toArray, List.set_cons_zero, List.set_cons_succ])
      refine ru_one 17 rfl (by kernel_rfl) (fun K hK => ?_)
      go_simp
      refine ru_back_late hK (by kernel_rfl) ?_
      clear hK K
      (try simp only [Act.put, List.setIfInBounds_toArray, List.set_cons_zero, List.set_cons_succ])
      refine ru_done (by kernel_rfl) ?_
      obtain ⟨w66, hx67, F69, hxs68⟩ := (show Bun w [rsl iceEnc 8 rl_g61 rh_g61 (.slice ra_g61 (runI l0 x0 d0).length rc_g61) (runI l0 x0 d0), rsl iceEnc 8 rl_g47 rh_g47 (.slice ra_g47 (runI l0 x0 d0).length rc_g47) (runI l0 x0 d0), rown weaEnc 35 6 w.heap.size (.slice ca40 d0.length cap41) d0, rbox g5_38 29 #[.int .i64 l0.gr, .int .i64 l0.la, .slice sa0 l0.cov.length sc0, .int .i64 l0.melt.lo, .int .i64 l0.melt.hi, .int .i64 l0.soak, .int .i64 l0.white.lo, .int .i64 l0.white.hi, .int .i64 l.gr, .int .i64 l.la, .slice sal l.cov.length scl, .int .i64 l.melt.lo, .int .i64 l.melt.hi, .int .i64 l.soak, .int .i64 l.white.lo, .int .i64 l.white.hi, .int .i64 l.gr, .int .i64 l.la, .slice sal l.cov.length scl, .int .i64 l.melt.lo, .int .i64 l.melt.hi, .int .i64 l.soak, .int .i64 l.white.lo, .int .i64 l.white.hi], rbox g5_42 32 #[.int .i64 x0.bl.lo, .int .i64 x0.bl.hi, .int .i64 x0.wh.lo, .int .i64 x0.wh.hi, .int .i64 x0.we.lo, .int .i64 x0.we.hi, .int .i64 x0.sn.lo, .int .i64 x0.sn.hi, .int .i64 ic.bl.lo, .int .i64 ic.bl.hi, .int .i64 ic.wh.lo, .int .i64 ic.wh.hi, .int .i64 ic.we.lo, .int .i64 ic.we.hi, .int .i64 ic.sn.lo, .int .i64 ic.sn.hi, .int .i64 ic.bl.lo, .int .i64 ic.bl.hi, .int .i64 ic.wh.lo, .int .i64 ic.wh.hi, .int .i64 ic.we.lo, .int .i64 ic.we.hi, .int .i64 ic.sn.lo, .int .i64 ic.sn.hi], rbox g5_47 36 #[.slice da0 d0.length dc0, .slice da_dl dl.length dc_dl, .slice da0 d0.length dc0], rsl covEnc 3 lo_l hi_l (.slice sal l.cov.length scl) l.cov, rseed sb, rsl intEnc 1 0 w.heap.size (.slice na zs.length nc) zs, rsl weaEnc 6 0 w.heap.size (.slice da0 d0.length dc0) d0, rsl covEnc 3 0 w.heap.size (.slice sa0 l0.cov.length sc0) l0.cov, rsl weaEnc 6 ld_dl hd_dl (.slice da_dl dl.length dc_dl) dl] _ from F65).name
      (try simp at hxs68)
      rw [hx67]
      clear hx67 F65
      go_wp2_with fail
      refine (index_c _ _ _ d0 _ (Own.sl (F69.at 2 rfl : Own weaEnc 35 6 w.heap.size _ (.slice ca40 d0.length cap41) d0) (fun _ => rfl)) (Nat.le_refl _)).mono ?_
      rintro e w72 ⟨rfl, hg70⟩
      have hg70s := hg70.size
      (try simp at hg70s)
      have F73 := F69.gn hg70
      clear F69
      clear hg70
      have b74 := F73.bx3 5 rfl
      go_wp2_with fail
      clear b74
      have F75 := F73.new 27 #[.int .i64 ((indexI d0).lo), .int .i64 ((indexI d0).hi)] (n := w72.heap.size) (by simp)
      clear F73
      refine (rindex_c _ _ _ d0 _ (F75.at 10 rfl : Sl weaEnc 6 0 w.heap.size _ (.slice da0 d0.length dc0) d0) (by first | omega | (simp; omega))).mono ?_
      rintro e w78 ⟨rfl, hg76⟩
      have hg76s := hg76.size
      (try simp at hg76s)
      have F79 := F75.gn hg76
      clear F75
      clear hg76
      go_wp2_with fail
      have F80 := F79.new 27 #[.int .i64 ((indexI d0).lo), .int .i64 ((indexI d0).hi)] (n := w78.heap.size) (by simp)
      clear F79
      refine (sameIce_c _ _ _ _ _ _ (runI l0 x0 d0) _ (F80.at 3 rfl : Sl iceEnc 8 rl_g47 rh_g47 _ (.slice ra_g47 (runI l0 x0 d0).length rc_g47) (runI l0 x0 d0)) (by first | omega | (simp; omega)) (F80.at 2 rfl : Sl iceEnc 8 rl_g61 rh_g61 _ (.slice ra_g61 (runI l0 x0 d0).length rc_g61) (runI l0 x0 d0)) (by first | omega | (simp; omega))).mono ?_
      rintro e w83 ⟨rfl, hg81⟩
      have hg81s := hg81.size
      (try simp at hg81s)
      have F84 := F80.gn hg81
      clear F80
      clear hg81
      have b85 := F84.bx2 0 rfl
      have b86 := F84.bx2 1 rfl
      have b87 := F84.bx3 7 rfl
      go_wp2_with fail
      clear b85 b86 b87
      refine (sameDays_c _ _ _ _ _ _ d0 _ (Own.sl (F84.at 4 rfl : Own weaEnc 35 6 w.heap.size _ (.slice ca40 d0.length cap41) d0) (fun _ => rfl)) (Nat.le_refl _) (F84.at 11 rfl : Sl weaEnc 6 0 w.heap.size _ (.slice da0 d0.length dc0) d0) (by first | omega | (simp; omega))).mono ?_
      rintro e w90 ⟨rfl, hg88⟩
      have hg88s := hg88.size
      (try simp at hg88s)
      have F91 := F84.gn hg88
      clear F84
      clear hg88
      go_wp2_with fail
      rw [rounds_succ]
      have b93 := F91.bx3 7 rfl
      go_wp2_with (at_builtin; refine wpList_copyB okWea rfl _ _ rfl w.heap.size w90.heap.size rfl (F91.new 35 #[] (n := w90.heap.size) (by simp)) (by first | omega | (simp; omega)) ld_dl hd_dl (.slice da_dl dl.length dc_dl) dl rfl ((F91.new 35 #[] (n := w90.heap.size) (by simp)).at 14 rfl) (by omega) ?_; intro vc94 w95 hB96 hs97; refine Hid.out ?_)
      refine Lib.hid ?_
      (try simp at hs97)
      clear b93
      have F98 := hB96
      clear F91
      obtain ⟨ca99, cap100, e_⟩ := (Own.sl (F98.at 0 rfl : Own weaEnc 35 6 w.heap.size _ vc94 dl) (fun _ => rfl)).any
      subst e_
      go_wp2_with fail
      have F103 := F98.drew
      clear F98
      refine ru_begin (fun W => W.cell? ⟨g5_38, 8, none⟩ = some (.int .i64 l.gr) ∧ W.cell? ⟨g5_38, 9, none⟩ = some (.int .i64 l.la) ∧ W.cell? ⟨g5_38, 10, none⟩ = some (.slice sal l.cov.length scl) ∧ W.cell? ⟨g5_38, 11, none⟩ = some (.int .i64 l.melt.lo) ∧ W.cell? ⟨g5_38, 12, none⟩ = some (.int .i64 l.melt.hi) ∧ W.cell? ⟨g5_38, 13, none⟩ = some (.int .i64 l.soak) ∧ W.cell? ⟨g5_38, 14, none⟩ = some (.int .i64 l.white.lo) ∧ W.cell? ⟨g5_38, 15, none⟩ = some (.int .i64 l.white.hi) ∧ W.cell? ⟨g5_42, 8, none⟩ = some (.int .i64 ic.bl.lo) ∧ W.cell? ⟨g5_42, 9, none⟩ = some (.int .i64 ic.bl.hi) ∧ W.cell? ⟨g5_42, 10, none⟩ = some (.int .i64 ic.wh.lo) ∧ W.cell? ⟨g5_42, 11, none⟩ = some (.int .i64 ic.wh.hi) ∧ W.cell? ⟨g5_42, 12, none⟩ = some (.int .i64 ic.we.lo) ∧ W.cell? ⟨g5_42, 13, none⟩ = some (.int .i64 ic.we.hi) ∧ W.cell? ⟨g5_42, 14, none⟩ = some (.int .i64 ic.sn.lo) ∧ W.cell? ⟨g5_42, 15, none⟩ = some (.int .i64 ic.sn.hi)) 14 (by kernel_rfl) ?_ ?_
      · exact ⟨F103.cl 6 8 rfl rfl, F103.cl 6 9 rfl rfl, F103.cl 6 10 rfl rfl, F103.cl 6 11 rfl rfl, F103.cl 6 12 rfl rfl, F103.cl 6 13 rfl rfl, F103.cl 6 14 rfl rfl, F103.cl 6 15 rfl rfl, F103.cl 7 8 rfl rfl, F103.cl 7 9 rfl rfl, F103.cl 7 10 rfl rfl, F103.cl 7 11 rfl rfl, F103.cl 7 12 rfl rfl, F103.cl 7 13 rfl rfl, F103.cl 7 14 rfl rfl, F103.cl 7 15 rfl rfl⟩
      obtain ⟨wd105, hwd_⟩ : ∃ x : World, w95.drew = x := ⟨_, rfl⟩
      rw [hwd_] at F103 ⊢
      have wd105s : w95.heap.size ≤ wd105.heap.size := by rw [← hwd_]; exact Nat.le_refl _
      clear hwd_
      have hS104 := (And.intro (F103.cl 6 8 rfl rfl) (And.intro (F103.cl 6 9 rfl rfl) (And.intro (F103.cl 6 10 rfl rfl) (And.intro (F103.cl 6 11 rfl rfl) (And.intro (F103.cl 6 12 rfl rfl) (And.intro (F103.cl 6 13 rfl rfl) (And.intro (F103.cl 6 14 rfl rfl) (And.intro (F103.cl 6 15 rfl rfl) (And.intro (F103.cl 7 8 rfl rfl) (And.intro (F103.cl 7 9 rfl rfl) (And.intro (F103.cl 7 10 rfl rfl) (And.intro (F103.cl 7 11 rfl rfl) (And.intro (F103.cl 7 12 rfl rfl) (And.intro (F103.cl 7 13 rfl rfl) (And.intro (F103.cl 7 14 rfl rfl) (F103.cl 7 15 rfl rfl))))))))))))))))
      refine ru_take 0 [] (v := ?_) rfl (by kernel_rfl) (fun _ _ _ h => h) (by assumption) (.inl ⟨by first | kernel_rfl | rfl, ?_⟩) ?_
      rotate_left
      · (intro wS hwS; (try dsimp only at hwS); go_simp; (try with_reducible rfl))
      (try simp only [Act.put, List.setIfInBounds_toArray, List.set_cons_zero, List.set_cons_succ])
      refine ru_take 1 [] (v := ?_) rfl (by kernel_rfl) (fun _ _ _ h => h) (by assumption) (.inl ⟨by first | kernel_rfl | rfl, ?_⟩) ?_
      rotate_left
      · (intro wS hwS; (try dsimp only at hwS); go_simp; (try with_reducible rfl))
      (try simp only [Act.put, List.setIfInBounds_toArray, List.set_cons_zero, List.set_cons_succ])
      refine ru_take 2 [] (v := ?_) rfl (by kernel_rfl) (fun _ _ _ h => h) (by assumption) (.inl ⟨by first | kernel_rfl | rfl, ?_⟩) ?_
      rotate_left
      · (intro wS hwS; (try dsimp only at hwS); go_simp; (try with_reducible rfl))
      (try simp only [Act.put, List.setIfInBounds_toArray, List.set_cons_zero, List.set_cons_succ])
      refine ru_take 3 [] (v := ?_) rfl (by kernel_rfl) (fun _ _ _ h => h) (by assumption) (.inl ⟨by first | kernel_rfl | rfl, ?_⟩) ?_
      rotate_left
      · (intro wS hwS; (try dsimp only at hwS); go_simp; (try with_reducible rfl))
      (try simp only [Act.put, List.setIfInBounds_toArray, List.set_cons_zero, List.set_cons_succ])
      refine ru_take 4 [] (v := ?_) rfl (by kernel_rfl) (fun _ _ _ h => h) (by assumption) (.inl ⟨by first | kernel_rfl | rfl, ?_⟩) ?_
      rotate_left
      · (intro wS hwS; (try dsimp only at hwS); go_simp; (try with_reducible rfl))
      (try simp only [Act.put, List.setIfInBounds_toArray, List.set_cons_zero, List.set_cons_succ])
      refine ru_take 5 [] (v := ?_) rfl (by kernel_rfl) (fun _ _ _ h => h) (by assumption) (.inl ⟨by first | kernel_rfl | rfl, ?_⟩) ?_
      rotate_left
      · (intro wS hwS; (try dsimp only at hwS); go_simp; (try with_reducible rfl))
      (try simp only [Act.put, List.setIfInBounds_toArray, List.set_cons_zero, List.set_cons_succ])
      refine ru_take 6 [] (v := ?_) rfl (by kernel_rfl) (fun _ _ _ h => h) (by assumption) (.inl ⟨by first | kernel_rfl | rfl, ?_⟩) ?_
      rotate_left
      · (intro wS hwS; (try dsimp only at hwS); go_simp; (try with_reducible rfl))
      (try simp only [Act.put, List.setIfInBounds_toArray, List.set_cons_zero, List.set_cons_succ])
      refine ru_take 7 [] (v := ?_) rfl (by kernel_rfl) (fun _ _ _ h => h) (by assumption) (.inl ⟨by first | kernel_rfl | rfl, ?_⟩) ?_
      rotate_left
      · (intro wS hwS; (try dsimp only at hwS); go_simp; (try with_reducible rfl))
      (try simp only [Act.put, List.setIfInBounds_toArray, List.set_cons_zero, List.set_cons_succ])
      refine ru_take 8 [] (v := ?_) rfl (by kernel_rfl) (fun _ _ _ h => h) (by assumption) (.inl ⟨by first | kernel_rfl | rfl, ?_⟩) ?_
      rotate_left
      · (intro wS hwS; (try dsimp only at hwS); go_simp; (try with_reducible rfl))
      (try simp only [Act.put, List.setIfInBounds_toArray, List.set_cons_zero, List.set_cons_succ])
      clear hS104
      refine ru_one 9 rfl (by kernel_rfl) (fun K hK => ?_)
      go_simp
      refine (run_g _ _ _ l ic _ _ _ dl _ (F103.at 9 rfl : Sl covEnc 3 lo_l hi_l _ (.slice sal l.cov.length scl) l.cov) (by first | omega | (simp; omega)) (Own.sl (F103.at 0 rfl : Own weaEnc 35 6 w.heap.size _ (.slice ca99 dl.length cap100) dl) (fun _ => rfl)) (Nat.le_refl _)).mono ?_
      rintro e w109 ⟨ra_g106, rc_g106, rl_g106, rh_g106, rfl, ⟨rxg106, ryg106⟩, rwg106, hg107⟩
      have hg107s := hg107.size
      (try simp at hg107s)
      have F110 := F103.add (rsl iceEnc 8 rl_g106 rh_g106 (.slice ra_g106 (runI l ic dl).length rc_g106) (runI l ic dl)) hg107 (rwg106) (fun g e => ⟨Nat.le_trans rxg106 e.1, Nat.lt_of_lt_of_le e.2 ryg106⟩)
      clear F103
      refine ru_back hK (by exact ⟨F110.cl 7 8 rfl rfl, F110.cl 7 9 rfl rfl, F110.cl 7 10 rfl rfl, F110.cl 7 11 rfl rfl, F110.cl 7 12 rfl rfl, F110.cl 7 13 rfl rfl, F110.cl 7 14 rfl rfl, F110.cl 7 15 rfl rfl, F110.cl 8 8 rfl rfl, F110.cl 8 9 rfl rfl, F110.cl 8 10 rfl rfl, F110.cl 8 11 rfl rfl, F110.cl 8 12 rfl rfl, F110.cl 8 13 rfl rfl, F110.cl 8 14 rfl rfl, F110.cl 8 15 rfl rfl⟩) (fun hHeld => ?_)
      clear hK K
      (try simp only [Act.put, List.setIfInBounds_toArray, List.set_cons_zero, List.set_cons_succ])
      refine ru_pure 10 (v := ?_) rfl (by kernel_rfl) (fun _ _ _ h => h) (fun hd_ => by first | assumption | (exact absurd hd_ (by decide))) (.inl ⟨by first | kernel_rfl | rfl, ?_⟩) ?_
      rotate_left
      · (intro wS hwS; clear hwS; go_simp; (try with_reducible rfl))
      (try simp only [Act.put, List.setIfInBounds_toArray, List.set_cons_zero, List.set_cons_succ])
      refine ru_pure 11 (v := ?_) rfl (by kernel_rfl) (fun _ _ _ h => h) (fun hd_ => by first | assumption | (exact absurd hd_ (by decide))) (.inl ⟨by first | kernel_rfl | rfl, ?_⟩) ?_
      rotate_left
      · (intro wS hwS; clear hwS; go_simp; (try with_reducible rfl))
      (try simp only [Act.put, List.setIfInBounds_toArray, List.set_cons_zero, List.set_cons_succ])
      refine ru_pure 12 (v := ?_) rfl (by kernel_rfl) (fun _ _ _ h => h) (fun hd_ => by first | assumption | (exact absurd hd_ (by decide))) (.inl ⟨by first | kernel_rfl | rfl, ?_⟩) ?_
      rotate_left
      · (intro wS hwS; clear hwS; go_simp; (try with_reducible rfl))
      (try simp only [Act.put, List.setIfInBounds_toArray, List.set_cons_zero, List.set_cons_succ])
      refine ru_pure 13 (v := ?_) rfl (by kernel_rfl) (fun _ _ _ h => h) (fun hd_ => by first | assumption | (exact absurd hd_ (by decide))) (.inl ⟨by first | kernel_rfl | rfl, ?_⟩) ?_
      rotate_left
      · (intro wS hwS; clear hwS; go_simp; (try with_reducible rfl))
      (try simp only [Act.put, List.setIfInBounds_toArray, List.set_cons_zero, List.set_cons_succ])
      refine ru_one 14 rfl (by kernel_rfl) (fun K hK => ?_)
      go_simp
      refine ru_back_late hK (by kernel_rfl) ?_
      clear hK K
      (try simp only [Act.put, List.setIfInBounds_toArray, List.set_cons_zero, List.set_cons_succ])
      refine ru_done (by kernel_rfl) ?_
      obtain ⟨w111, hx112, F114, hxs113⟩ := (show Bun w [rsl iceEnc 8 rl_g106 rh_g106 (.slice ra_g106 (runI l ic dl).length rc_g106) (runI l ic dl), rown weaEnc 35 6 w.heap.size (.slice ca99 dl.length cap100) dl, rsl iceEnc 8 rl_g61 rh_g61 (.slice ra_g61 (runI l0 x0 d0).length rc_g61) (runI l0 x0 d0), rsl iceEnc 8 rl_g47 rh_g47 (.slice ra_g47 (runI l0 x0 d0).length rc_g47) (runI l0 x0 d0), rown weaEnc 35 6 w.heap.size (.slice ca40 d0.length cap41) d0, rbox g5_38 29 #[.int .i64 l0.gr, .int .i64 l0.la, .slice sa0 l0.cov.length sc0, .int .i64 l0.melt.lo, .int .i64 l0.melt.hi, .int .i64 l0.soak, .int .i64 l0.white.lo, .int .i64 l0.white.hi, .int .i64 l.gr, .int .i64 l.la, .slice sal l.cov.length scl, .int .i64 l.melt.lo, .int .i64 l.melt.hi, .int .i64 l.soak, .int .i64 l.white.lo, .int .i64 l.white.hi, .int .i64 l.gr, .int .i64 l.la, .slice sal l.cov.length scl, .int .i64 l.melt.lo, .int .i64 l.melt.hi, .int .i64 l.soak, .int .i64 l.white.lo, .int .i64 l.white.hi], rbox g5_42 32 #[.int .i64 x0.bl.lo, .int .i64 x0.bl.hi, .int .i64 x0.wh.lo, .int .i64 x0.wh.hi, .int .i64 x0.we.lo, .int .i64 x0.we.hi, .int .i64 x0.sn.lo, .int .i64 x0.sn.hi, .int .i64 ic.bl.lo, .int .i64 ic.bl.hi, .int .i64 ic.wh.lo, .int .i64 ic.wh.hi, .int .i64 ic.we.lo, .int .i64 ic.we.hi, .int .i64 ic.sn.lo, .int .i64 ic.sn.hi, .int .i64 ic.bl.lo, .int .i64 ic.bl.hi, .int .i64 ic.wh.lo, .int .i64 ic.wh.hi, .int .i64 ic.we.lo, .int .i64 ic.we.hi, .int .i64 ic.sn.lo, .int .i64 ic.sn.hi], rbox g5_47 36 #[.slice da0 d0.length dc0, .slice da_dl dl.length dc_dl, .slice da0 d0.length dc0], rsl covEnc 3 lo_l hi_l (.slice sal l.cov.length scl) l.cov, rseed sb, rsl intEnc 1 0 w.heap.size (.slice na zs.length nc) zs, rsl weaEnc 6 0 w.heap.size (.slice da0 d0.length dc0) d0, rsl covEnc 3 0 w.heap.size (.slice sa0 l0.cov.length sc0) l0.cov, rsl weaEnc 6 ld_dl hd_dl (.slice da_dl dl.length dc_dl) dl] _ from ((F110.drop 2 rfl).drop 2 rfl)).name
      (try simp at hxs113)
      rw [hx112]
      clear hx112 F110
      go_wp2_with fail
      have F117 := F114.drew
      clear F114
      refine ru_begin (fun W => W.cell? ⟨g5_38, 8, none⟩ = some (.int .i64 l.gr) ∧ W.cell? ⟨g5_38, 9, none⟩ = some (.int .i64 l.la) ∧ W.cell? ⟨g5_38, 10, none⟩ = some (.slice sal l.cov.length scl) ∧ W.cell? ⟨g5_38, 11, none⟩ = some (.int .i64 l.melt.lo) ∧ W.cell? ⟨g5_38, 12, none⟩ = some (.int .i64 l.melt.hi) ∧ W.cell? ⟨g5_38, 13, none⟩ = some (.int .i64 l.soak) ∧ W.cell? ⟨g5_38, 14, none⟩ = some (.int .i64 l.white.lo) ∧ W.cell? ⟨g5_38, 15, none⟩ = some (.int .i64 l.white.hi) ∧ W.cell? ⟨g5_42, 8, none⟩ = some (.int .i64 ic.bl.lo) ∧ W.cell? ⟨g5_42, 9, none⟩ = some (.int .i64 ic.bl.hi) ∧ W.cell? ⟨g5_42, 10, none⟩ = some (.int .i64 ic.wh.lo) ∧ W.cell? ⟨g5_42, 11, none⟩ = some (.int .i64 ic.wh.hi) ∧ W.cell? ⟨g5_42, 12, none⟩ = some (.int .i64 ic.we.lo) ∧ W.cell? ⟨g5_42, 13, none⟩ = some (.int .i64 ic.we.hi) ∧ W.cell? ⟨g5_42, 14, none⟩ = some (.int .i64 ic.sn.lo) ∧ W.cell? ⟨g5_42, 15, none⟩ = some (.int .i64 ic.sn.hi) ∧ W.cell? ⟨g5_47, 1, none⟩ = some (.slice da_dl dl.length dc_dl)) 17 (by kernel_rfl) ?_ ?_
      · exact ⟨F117.cl 5 8 rfl rfl, F117.cl 5 9 rfl rfl, F117.cl 5 10 rfl rfl, F117.cl 5 11 rfl rfl, F117.cl 5 12 rfl rfl, F117.cl 5 13 rfl rfl, F117.cl 5 14 rfl rfl, F117.cl 5 15 rfl rfl, F117.cl 6 8 rfl rfl, F117.cl 6 9 rfl rfl, F117.cl 6 10 rfl rfl, F117.cl 6 11 rfl rfl, F117.cl 6 12 rfl rfl, F117.cl 6 13 rfl rfl, F117.cl 6 14 rfl rfl, F117.cl 6 15 rfl rfl, F117.cl 7 1 rfl rfl⟩
      obtain ⟨wd119, hwd_⟩ : ∃ x : World, w111.drew = x := ⟨_, rfl⟩
      rw [hwd_] at F117 ⊢
      have wd119s : w111.heap.size ≤ wd119.heap.size := by rw [← hwd_]; exact Nat.le_refl _
      clear hwd_
      have hS118 := (And.intro (F117.cl 5 8 rfl rfl) (And.intro (F117.cl 5 9 rfl rfl) (And.intro (F117.cl 5 10 rfl rfl) (And.intro (F117.cl 5 11 rfl rfl) (And.intro (F117.cl 5 12 rfl rfl) (And.intro (F117.cl 5 13 rfl rfl) (And.intro (F117.cl 5 14 rfl rfl) (And.intro (F117.cl 5 15 rfl rfl) (And.intro (F117.cl 6 8 rfl rfl) (And.intro (F117.cl 6 9 rfl rfl) (And.intro (F117.cl 6 10 rfl rfl) (And.intro (F117.cl 6 11 rfl rfl) (And.intro (F117.cl 6 12 rfl rfl) (And.intro (F117.cl 6 13 rfl rfl) (And.intro (F117.cl 6 14 rfl rfl) (And.intro (F117.cl 6 15 rfl rfl) (F117.cl 7 1 rfl rfl)))))))))))))))))
      refine ru_take 0 [] (v := ?_) rfl (by kernel_rfl) (fun _ _ _ h => h) (by assumption) (.inl ⟨by first | kernel_rfl | rfl, ?_⟩) ?_
      rotate_left
      · (intro wS hwS; (try dsimp only at hwS); go_simp; (try with_reducible rfl))
      (try simp only [Act.put, List.setIfInBounds_toArray, List.set_cons_zero, List.set_cons_succ])
      refine ru_take 1 [] (v := ?_) rfl (by kernel_rfl) (fun _ _ _ h => h) (by assumption) (.inl ⟨by first | kernel_rfl | rfl, ?_⟩) ?_
      rotate_left
      · (intro wS hwS; (try dsimp only at hwS); go_simp; (try with_reducible rfl))
      (try simp only [Act.put, List.setIfInBounds_toArray, List.set_cons_zero, List.set_cons_succ])
      refine ru_take 2 [] (v := ?_) rfl (by kernel_rfl) (fun _ _ _ h => h) (by assumption) (.inl ⟨by first | kernel_rfl | rfl, ?_⟩) ?_
      rotate_left
      · (intro wS hwS; (try dsimp only at hwS); go_simp; (try with_reducible rfl))
      (try simp only [Act.put, List.setIfInBounds_toArray, List.set_cons_zero, List.set_cons_succ])
      refine ru_take 3 [] (v := ?_) rfl (by kernel_rfl) (fun _ _ _ h => h) (by assumption) (.inl ⟨by first | kernel_rfl | rfl, ?_⟩) ?_
      rotate_left
      · (intro wS hwS; (try dsimp only at hwS); go_simp; (try with_reducible rfl))
      (try simp only [Act.put, List.setIfInBounds_toArray, List.set_cons_zero, List.set_cons_succ])
      refine ru_take 4 [] (v := ?_) rfl (by kernel_rfl) (fun _ _ _ h => h) (by assumption) (.inl ⟨by first | kernel_rfl | rfl, ?_⟩) ?_
      rotate_left
      · (intro wS hwS; (try dsimp only at hwS); go_simp; (try with_reducible rfl))
      (try simp only [Act.put, List.setIfInBounds_toArray, List.set_cons_zero, List.set_cons_succ])
      refine ru_take 5 [] (v := ?_) rfl (by kernel_rfl) (fun _ _ _ h => h) (by assumption) (.inl ⟨by first | kernel_rfl | rfl, ?_⟩) ?_
      rotate_left
      · (intro wS hwS; (try dsimp only at hwS); go_simp; (try with_reducible rfl))
      (try simp only [Act.put, List.setIfInBounds_toArray, List.set_cons_zero, List.set_cons_succ])
      refine ru_take 6 [] (v := ?_) rfl (by kernel_rfl) (fun _ _ _ h => h) (by assumption) (.inl ⟨by first | kernel_rfl | rfl, ?_⟩) ?_
      rotate_left
      · (intro wS hwS; (try dsimp only at hwS); go_simp; (try with_reducible rfl))
      (try simp only [Act.put, List.setIfInBounds_toArray, List.set_cons_zero, List.set_cons_succ])
      refine ru_take 7 [] (v := ?_) rfl (by kernel_rfl) (fun _ _ _ h => h) (by assumption) (.inl ⟨by first | kernel_rfl | rfl, ?_⟩) ?_
      rotate_left
      · (intro wS hwS; (try dsimp only at hwS); go_simp; (try with_reducible rfl))
      (try simp only [Act.put, List.setIfInBounds_toArray, List.set_cons_zero, List.set_cons_succ])
      refine ru_take 8 [] (v := ?_) rfl (by kernel_rfl) (fun _ _ _ h => h) (by assumption) (.inl ⟨by first | kernel_rfl | rfl, ?_⟩) ?_
      rotate_left
      · (intro wS hwS; (try dsimp only at hwS); go_simp; (try with_reducible rfl))
      (try simp only [Act.put, List.setIfInBounds_toArray, List.set_cons_zero, List.set_cons_succ])
      refine ru_take 9 [] (v := ?_) rfl (by kernel_rfl) (fun _ _ _ h => h) (by assumption) (.inl ⟨by first | kernel_rfl | rfl, ?_⟩) ?_
      rotate_left
      · (intro wS hwS; (try dsimp only at hwS); go_simp; (try with_reducible rfl))
      (try simp only [Act.put, List.setIfInBounds_toArray, List.set_cons_zero, List.set_cons_succ])
      refine ru_take 10 [] (v := ?_) rfl (by kernel_rfl) (fun _ _ _ h => h) (by assumption) (.inl ⟨by first | kernel_rfl | rfl, ?_⟩) ?_
      rotate_left
      · (intro wS hwS; (try dsimp only at hwS); go_simp; (try with_reducible rfl))
      (try simp only [Act.put, List.setIfInBounds_toArray, List.set_cons_zero, List.set_cons_succ])
      refine ru_take 11 [] (v := ?_) rfl (by kernel_rfl) (fun _ _ _ h => h) (by assumption) (.inl ⟨by first | kernel_rfl | rfl, ?_⟩) ?_
      rotate_left
      · (intro wS hwS; (try dsimp only at hwS); go_simp; (try with_reducible rfl))
      (try simp only [Act.put, List.setIfInBounds_toArray, List.set_cons_zero, List.set_cons_succ])
      clear hS118
      refine ru_one 12 rfl (by kernel_rfl) (fun K hK => ?_)
      go_simp
      refine (rrun_g _ _ _ l ic _ _ _ dl _ (F117.at 8 rfl : Sl covEnc 3 lo_l hi_l _ (.slice sal l.cov.length scl) l.cov) (by first | omega | (simp; omega)) (F117.at 13 rfl : Sl weaEnc 6 ld_dl hd_dl _ (.slice da_dl dl.length dc_dl) dl) (by first | omega | (simp; omega))).mono ?_
      rintro e w123 ⟨ra_g120, rc_g120, rl_g120, rh_g120, rfl, ⟨rxg120, ryg120⟩, rwg120, hg121⟩
      have hg121s := hg121.size
      (try simp at hg121s)
      have F124 := F117.add (rsl iceEnc 8 rl_g120 rh_g120 (.slice ra_g120 (runI l ic dl).length rc_g120) (runI l ic dl)) hg121 (rwg120) (fun g e => ⟨Nat.le_trans rxg120 e.1, Nat.lt_of_lt_of_le e.2 ryg120⟩)
      clear F117
      refine ru_back hK (by exact ⟨F124.cl 6 8 rfl rfl, F124.cl 6 9 rfl rfl, F124.cl 6 10 rfl rfl, F124.cl 6 11 rfl rfl, F124.cl 6 12 rfl rfl, F124.cl 6 13 rfl rfl, F124.cl 6 14 rfl rfl, F124.cl 6 15 rfl rfl, F124.cl 7 8 rfl rfl, F124.cl 7 9 rfl rfl, F124.cl 7 10 rfl rfl, F124.cl 7 11 rfl rfl, F124.cl 7 12 rfl rfl, F124.cl 7 13 rfl rfl, F124.cl 7 14 rfl rfl, F124.cl 7 15 rfl rfl, F124.cl 8 1 rfl rfl⟩) (fun hHeld => ?_)
      clear hK K
      (try simp only [Act.put, List.setIfInBounds_toArray, List.set_cons_zero, List.set_cons_succ])
      refine ru_pure 13 (v := ?_) rfl (by kernel_rfl) (fun _ _ _ h => h) (fun hd_ => by first | assumption | (exact absurd hd_ (by decide))) (.inl ⟨by first | kernel_rfl | rfl, ?_⟩) ?_
      rotate_left
      · (intro wS hwS; clear hwS; go_simp; (try with_reducible rfl))
      (try simp only [Act.put, List.setIfInBounds_toArray, List.set_cons_zero, List.set_cons_succ])
      refine ru_pure 14 (v := ?_) rfl (by kernel_rfl) (fun _ _ _ h => h) (fun hd_ => by first | assumption | (exact absurd hd_ (by decide))) (.inl ⟨by first | kernel_rfl | rfl, ?_⟩) ?_
      rotate_left
      · (intro wS hwS; clear hwS; go_simp; (try with_reducible rfl))
      (try simp only [Act.put, List.setIfInBounds_toArray, List.set_cons_zero, List.set_cons_succ])
      refine ru_pure 15 (v := ?_) rfl (by kernel_rfl) (fun _ _ _ h => h) (fun hd_ => by first | assumption | (exact absurd hd_ (by decide))) (.inl ⟨by first | kernel_rfl | rfl, ?_⟩) ?_
      rotate_left
      · (intro wS hwS; clear hwS; go_simp; (try with_reducible rfl))
      (try simp only [Act.put, List.setIfInBounds_toArray, List.set_cons_zero, List.set_cons_succ])
      refine ru_pure 16 (v := ?_) rfl (by kernel_rfl) (fun _ _ _ h => h) (fun hd_ => by first | assumption | (exact absurd hd_ (by decide))) (.inl ⟨by first | kernel_rfl | rfl, ?_⟩) ?_
      rotate_left
      · (intro wS hwS; clear hwS; go_simp; (try with_reducible rfl))
      (try simp only [Act.put, List.setIfInBounds_toArray, List.set_cons_zero, List.set_cons_succ])
      refine ru_one 17 rfl (by kernel_rfl) (fun K hK => ?_)
      go_simp
      refine ru_back_late hK (by kernel_rfl) ?_
      clear hK K
      (try simp only [Act.put, List.setIfInBounds_toArray, List.set_cons_zero, List.set_cons_succ])
      refine ru_done (by kernel_rfl) ?_
      obtain ⟨w125, hx126, F128, hxs127⟩ := (show Bun w [rsl iceEnc 8 rl_g120 rh_g120 (.slice ra_g120 (runI l ic dl).length rc_g120) (runI l ic dl), rsl iceEnc 8 rl_g106 rh_g106 (.slice ra_g106 (runI l ic dl).length rc_g106) (runI l ic dl), rown weaEnc 35 6 w.heap.size (.slice ca99 dl.length cap100) dl, rsl iceEnc 8 rl_g61 rh_g61 (.slice ra_g61 (runI l0 x0 d0).length rc_g61) (runI l0 x0 d0), rsl iceEnc 8 rl_g47 rh_g47 (.slice ra_g47 (runI l0 x0 d0).length rc_g47) (runI l0 x0 d0), rown weaEnc 35 6 w.heap.size (.slice ca40 d0.length cap41) d0, rbox g5_38 29 #[.int .i64 l0.gr, .int .i64 l0.la, .slice sa0 l0.cov.length sc0, .int .i64 l0.melt.lo, .int .i64 l0.melt.hi, .int .i64 l0.soak, .int .i64 l0.white.lo, .int .i64 l0.white.hi, .int .i64 l.gr, .int .i64 l.la, .slice sal l.cov.length scl, .int .i64 l.melt.lo, .int .i64 l.melt.hi, .int .i64 l.soak, .int .i64 l.white.lo, .int .i64 l.white.hi, .int .i64 l.gr, .int .i64 l.la, .slice sal l.cov.length scl, .int .i64 l.melt.lo, .int .i64 l.melt.hi, .int .i64 l.soak, .int .i64 l.white.lo, .int .i64 l.white.hi], rbox g5_42 32 #[.int .i64 x0.bl.lo, .int .i64 x0.bl.hi, .int .i64 x0.wh.lo, .int .i64 x0.wh.hi, .int .i64 x0.we.lo, .int .i64 x0.we.hi, .int .i64 x0.sn.lo, .int .i64 x0.sn.hi, .int .i64 ic.bl.lo, .int .i64 ic.bl.hi, .int .i64 ic.wh.lo, .int .i64 ic.wh.hi, .int .i64 ic.we.lo, .int .i64 ic.we.hi, .int .i64 ic.sn.lo, .int .i64 ic.sn.hi, .int .i64 ic.bl.lo, .int .i64 ic.bl.hi, .int .i64 ic.wh.lo, .int .i64 ic.wh.hi, .int .i64 ic.we.lo, .int .i64 ic.we.hi, .int .i64 ic.sn.lo, .int .i64 ic.sn.hi], rbox g5_47 36 #[.slice da0 d0.length dc0, .slice da_dl dl.length dc_dl, .slice da0 d0.length dc0], rsl covEnc 3 lo_l hi_l (.slice sal l.cov.length scl) l.cov, rseed sb, rsl intEnc 1 0 w.heap.size (.slice na zs.length nc) zs, rsl weaEnc 6 0 w.heap.size (.slice da0 d0.length dc0) d0, rsl covEnc 3 0 w.heap.size (.slice sa0 l0.cov.length sc0) l0.cov, rsl weaEnc 6 ld_dl hd_dl (.slice da_dl dl.length dc_dl) dl] _ from F124).name
      (try simp at hxs127)
      rw [hx126]
      clear hx126 F124
      go_wp2_with fail
      refine (index_c _ _ _ dl _ (Own.sl (F128.at 2 rfl : Own weaEnc 35 6 w.heap.size _ (.slice ca99 dl.length cap100) dl) (fun _ => rfl)) (Nat.le_refl _)).mono ?_
      rintro e w131 ⟨rfl, hg129⟩
      have hg129s := hg129.size
      (try simp at hg129s)
      have F132 := F128.gn hg129
      clear F128
      clear hg129
      have b133 := F132.bx3 8 rfl
      go_wp2_with fail
      clear b133
      have F134 := F132.new 27 #[.int .i64 ((indexI dl).lo), .int .i64 ((indexI dl).hi)] (n := w131.heap.size) (by simp)
      clear F132
      refine (rindex_c _ _ _ dl _ (F134.at 15 rfl : Sl weaEnc 6 ld_dl hd_dl _ (.slice da_dl dl.length dc_dl) dl) (by first | omega | (simp; omega))).mono ?_
      rintro e w137 ⟨rfl, hg135⟩
      have hg135s := hg135.size
      (try simp at hg135s)
      have F138 := F134.gn hg135
      clear F134
      clear hg135
      go_wp2_with fail
      have F139 := F138.new 27 #[.int .i64 ((indexI dl).lo), .int .i64 ((indexI dl).hi)] (n := w137.heap.size) (by simp)
      clear F138
      refine (sameIce_c _ _ _ _ _ _ (runI l ic dl) _ (F139.at 3 rfl : Sl iceEnc 8 rl_g106 rh_g106 _ (.slice ra_g106 (runI l ic dl).length rc_g106) (runI l ic dl)) (by first | omega | (simp; omega)) (F139.at 2 rfl : Sl iceEnc 8 rl_g120 rh_g120 _ (.slice ra_g120 (runI l ic dl).length rc_g120) (runI l ic dl)) (by first | omega | (simp; omega))).mono ?_
      rintro e w142 ⟨rfl, hg140⟩
      have hg140s := hg140.size
      (try simp at hg140s)
      have F143 := F139.gn hg140
      clear F139
      clear hg140
      have b144 := F143.bx2 0 rfl
      have b145 := F143.bx2 1 rfl
      have b146 := F143.bx3 10 rfl
      go_wp2_with fail
      clear b144 b145 b146
      refine (sameDays_c _ _ _ _ _ _ dl _ (Own.sl (F143.at 4 rfl : Own weaEnc 35 6 w.heap.size _ (.slice ca99 dl.length cap100) dl) (fun _ => rfl)) (Nat.le_refl _) (F143.at 16 rfl : Sl weaEnc 6 ld_dl hd_dl _ (.slice da_dl dl.length dc_dl) dl) (by first | omega | (simp; omega))).mono ?_
      rintro e w149 ⟨rfl, hg147⟩
      have hg147s := hg147.size
      (try simp at hg147s)
      have F150 := F143.gn hg147
      clear F143
      clear hg147
      go_wp2_with fail
      rw [rounds_succ]
      have b152 := F150.bx3 10 rfl
      go_wp2_with (at_builtin; refine wpList_copyB okWea rfl _ _ rfl w.heap.size w149.heap.size rfl (F150.new 35 #[] (n := w149.heap.size) (by simp)) (by first | omega | (simp; omega)) 0 w.heap.size (.slice da0 d0.length dc0) d0 rfl ((F150.new 35 #[] (n := w149.heap.size) (by simp)).at 15 rfl) (by omega) ?_; intro vc153 w154 hB155 hs156; refine Hid.out ?_)
      refine Lib.hid ?_
      (try simp at hs156)
      clear b152
      have F157 := hB155
      clear F150
      obtain ⟨ca158, cap159, e_⟩ := (Own.sl (F157.at 0 rfl : Own weaEnc 35 6 w.heap.size _ vc153 d0) (fun _ => rfl)).any
      subst e_
      go_wp2_with fail
      have F162 := F157.drew
      clear F157
      refine ru_begin (fun W => W.cell? ⟨g5_38, 16, none⟩ = some (.int .i64 l.gr) ∧ W.cell? ⟨g5_38, 17, none⟩ = some (.int .i64 l.la) ∧ W.cell? ⟨g5_38, 18, none⟩ = some (.slice sal l.cov.length scl) ∧ W.cell? ⟨g5_38, 19, none⟩ = some (.int .i64 l.melt.lo) ∧ W.cell? ⟨g5_38, 20, none⟩ = some (.int .i64 l.melt.hi) ∧ W.cell? ⟨g5_38, 21, none⟩ = some (.int .i64 l.soak) ∧ W.cell? ⟨g5_38, 22, none⟩ = some (.int .i64 l.white.lo) ∧ W.cell? ⟨g5_38, 23, none⟩ = some (.int .i64 l.white.hi) ∧ W.cell? ⟨g5_42, 16, none⟩ = some (.int .i64 ic.bl.lo) ∧ W.cell? ⟨g5_42, 17, none⟩ = some (.int .i64 ic.bl.hi) ∧ W.cell? ⟨g5_42, 18, none⟩ = some (.int .i64 ic.wh.lo) ∧ W.cell? ⟨g5_42, 19, none⟩ = some (.int .i64 ic.wh.hi) ∧ W.cell? ⟨g5_42, 20, none⟩ = some (.int .i64 ic.we.lo) ∧ W.cell? ⟨g5_42, 21, none⟩ = some (.int .i64 ic.we.hi) ∧ W.cell? ⟨g5_42, 22, none⟩ = some (.int .i64 ic.sn.lo) ∧ W.cell? ⟨g5_42, 23, none⟩ = some (.int .i64 ic.sn.hi)) 14 (by kernel_rfl) ?_ ?_
      · exact ⟨F162.cl 9 16 rfl rfl, F162.cl 9 17 rfl rfl, F162.cl 9 18 rfl rfl, F162.cl 9 19 rfl rfl, F162.cl 9 20 rfl rfl, F162.cl 9 21 rfl rfl, F162.cl 9 22 rfl rfl, F162.cl 9 23 rfl rfl, F162.cl 10 16 rfl rfl, F162.cl 10 17 rfl rfl, F162.cl 10 18 rfl rfl, F162.cl 10 19 rfl rfl, F162.cl 10 20 rfl rfl, F162.cl 10 21 rfl rfl, F162.cl 10 22 rfl rfl, F162.cl 10 23 rfl rfl⟩
      obtain ⟨wd164, hwd_⟩ : ∃ x : World, w154.drew = x := ⟨_, rfl⟩
      rw [hwd_] at F162 ⊢
      have wd164s : w154.heap.size ≤ wd164.heap.size := by rw [← hwd_]; exact Nat.le_refl _
      clear hwd_
      have hS163 := (And.intro (F162.cl 9 16 rfl rfl) (And.intro (F162.cl 9 17 rfl rfl) (And.intro (F162.cl 9 18 rfl rfl) (And.intro (F162.cl 9 19 rfl rfl) (And.intro (F162.cl 9 20 rfl rfl) (And.intro (F162.cl 9 21 rfl rfl) (And.intro (F162.cl 9 22 rfl rfl) (And.intro (F162.cl 9 23 rfl rfl) (And.intro (F162.cl 10 16 rfl rfl) (And.intro (F162.cl 10 17 rfl rfl) (And.intro (F162.cl 10 18 rfl rfl) (And.intro (F162.cl 10 19 rfl rfl) (And.intro (F162.cl 10 20 rfl rfl) (And.intro (F162.cl 10 21 rfl rfl) (And.intro (F162.cl 10 22 rfl rfl) (F162.cl 10 23 rfl rfl))))))))))))))))
      refine ru_take 0 [] (v := ?_) rfl (by kernel_rfl) (fun _ _ _ h => h) (by assumption) (.inl ⟨by first | kernel_rfl | rfl, ?_⟩) ?_
      rotate_left
      · (intro wS hwS; (try dsimp only at hwS); go_simp; (try with_reducible rfl))
      (try simp only [Act.put, List.setIfInBounds_toArray, List.set_cons_zero, List.set_cons_succ])
      refine ru_take 1 [] (v := ?_) rfl (by kernel_rfl) (fun _ _ _ h => h) (by assumption) (.inl ⟨by first | kernel_rfl | rfl, ?_⟩) ?_
      rotate_left
      · (intro wS hwS; (try dsimp only at hwS); go_simp; (try with_reducible rfl))
      (try simp only [Act.put, List.setIfInBounds_toArray, List.set_cons_zero, List.set_cons_succ])
      refine ru_take 2 [] (v := ?_) rfl (by kernel_rfl) (fun _ _ _ h => h) (by assumption) (.inl ⟨by first | kernel_rfl | rfl, ?_⟩) ?_
      rotate_left
      · (intro wS hwS; (try dsimp only at hwS); go_simp; (try with_reducible rfl))
      (try simp only [Act.put, List.setIfInBounds_toArray, List.set_cons_zero, List.set_cons_succ])
      refine ru_take 3 [] (v := ?_) rfl (by kernel_rfl) (fun _ _ _ h => h) (by assumption) (.inl ⟨by first | kernel_rfl | rfl, ?_⟩) ?_
      rotate_left
      · (intro wS hwS; (try dsimp only at hwS); go_simp; (try with_reducible rfl))
      (try simp only [Act.put, List.setIfInBounds_toArray, List.set_cons_zero, List.set_cons_succ])
      refine ru_take 4 [] (v := ?_) rfl (by kernel_rfl) (fun _ _ _ h => h) (by assumption) (.inl ⟨by first | kernel_rfl | rfl, ?_⟩) ?_
      rotate_left
      · (intro wS hwS; (try dsimp only at hwS); go_simp; (try with_reducible rfl))
      (try simp only [Act.put, List.setIfInBounds_toArray, List.set_cons_zero, List.set_cons_succ])
      refine ru_take 5 [] (v := ?_) rfl (by kernel_rfl) (fun _ _ _ h => h) (by assumption) (.inl ⟨by first | kernel_rfl | rfl, ?_⟩) ?_
      rotate_left
      · (intro wS hwS; (try dsimp only at hwS); go_simp; (try with_reducible rfl))
      (try simp only [Act.put, List.setIfInBounds_toArray, List.set_cons_zero, List.set_cons_succ])
      refine ru_take 6 [] (v := ?_) rfl (by kernel_rfl) (fun _ _ _ h => h) (by assumption) (.inl ⟨by first | kernel_rfl | rfl, ?_⟩) ?_
      rotate_left
      · (intro wS hwS; (try dsimp only at hwS); go_simp; (try with_reducible rfl))
      (try simp only [Act.put, List.setIfInBounds_toArray, List.set_cons_zero, List.set_cons_succ])
      refine ru_take 7 [] (v := ?_) rfl (by kernel_rfl) (fun _ _ _ h => h) (by assumption) (.inl ⟨by first | kernel_rfl | rfl, ?_⟩) ?_
      rotate_left
      · (intro wS hwS; (try dsimp only at hwS); go_simp; (try with_reducible rfl))
      (try simp only [Act.put, List.setIfInBounds_toArray, List.set_cons_zero, List.set_cons_succ])
      refine ru_take 8 [] (v := ?_) rfl (by kernel_rfl) (fun _ _ _ h => h) (by assumption) (.inl ⟨by first | kernel_rfl | rfl, ?_⟩) ?_
      rotate_left
      · (intro wS hwS; (try dsimp only at hwS); go_simp; (try with_reducible rfl))
      (try simp only [Act.put, List.setIfInBounds_toArray, List.set_cons_zero, List.set_cons_succ])
      clear hS163
      refine ru_one 9 rfl (by kernel_rfl) (fun K hK => ?_)
      go_simp
      refine (run_g _ _ _ l ic _ _ _ d0 _ (F162.at 12 rfl : Sl covEnc 3 lo_l hi_l _ (.slice sal l.cov.length scl) l.cov) (by first | omega | (simp; omega)) (Own.sl (F162.at 0 rfl : Own weaEnc 35 6 w.heap.size _ (.slice ca158 d0.length cap159) d0) (fun _ => rfl)) (Nat.le_refl _)).mono ?_
      rintro e w168 ⟨ra_g165, rc_g165, rl_g165, rh_g165, rfl, ⟨rxg165, ryg165⟩, rwg165, hg166⟩
      have hg166s := hg166.size
      (try simp at hg166s)
      have F169 := F162.add (rsl iceEnc 8 rl_g165 rh_g165 (.slice ra_g165 (runI l ic d0).length rc_g165) (runI l ic d0)) hg166 (rwg165) (fun g e => ⟨Nat.le_trans rxg165 e.1, Nat.lt_of_lt_of_le e.2 ryg165⟩)
      clear F162
      refine ru_back hK (by exact ⟨F169.cl 10 16 rfl rfl, F169.cl 10 17 rfl rfl, F169.cl 10 18 rfl rfl, F169.cl 10 19 rfl rfl, F169.cl 10 20 rfl rfl, F169.cl 10 21 rfl rfl, F169.cl 10 22 rfl rfl, F169.cl 10 23 rfl rfl, F169.cl 11 16 rfl rfl, F169.cl 11 17 rfl rfl, F169.cl 11 18 rfl rfl, F169.cl 11 19 rfl rfl, F169.cl 11 20 rfl rfl, F169.cl 11 21 rfl rfl, F169.cl 11 22 rfl rfl, F169.cl 11 23 rfl rfl⟩) (fun hHeld => ?_)
      clear hK K
      (try simp only [Act.put, List.setIfInBounds_toArray, List.set_cons_zero, List.set_cons_succ])
      refine ru_pure 10 (v := ?_) rfl (by kernel_rfl) (fun _ _ _ h => h) (fun hd_ => by first | assumption | (exact absurd hd_ (by decide))) (.inl ⟨by first | kernel_rfl | rfl, ?_⟩) ?_
      rotate_left
      · (intro wS hwS; clear hwS; go_simp; (try with_reducible rfl))
      (try simp only [Act.put, List.setIfInBounds_toArray, List.set_cons_zero, List.set_cons_succ])
      refine ru_pure 11 (v := ?_) rfl (by kernel_rfl) (fun _ _ _ h => h) (fun hd_ => by first | assumption | (exact absurd hd_ (by decide))) (.inl ⟨by first | kernel_rfl | rfl, ?_⟩) ?_
      rotate_left
      · (intro wS hwS; clear hwS; go_simp; (try with_reducible rfl))
      (try simp only [Act.put, List.setIfInBounds_toArray, List.set_cons_zero, List.set_cons_succ])
      refine ru_pure 12 (v := ?_) rfl (by kernel_rfl) (fun _ _ _ h => h) (fun hd_ => by first | assumption | (exact absurd hd_ (by decide))) (.inl ⟨by first | kernel_rfl | rfl, ?_⟩) ?_
      rotate_left
      · (intro wS hwS; clear hwS; go_simp; (try with_reducible rfl))
      (try simp only [Act.put, List.setIfInBounds_toArray, List.set_cons_zero, List.set_cons_succ])
      refine ru_pure 13 (v := ?_) rfl (by kernel_rfl) (fun _ _ _ h => h) (fun hd_ => by first | assumption | (exact absurd hd_ (by decide))) (.inl ⟨by first | kernel_rfl | rfl, ?_⟩) ?_
      rotate_left
      · (intro wS hwS; clear hwS; go_simp; (try with_reducible rfl))
      (try simp only [Act.put, List.setIfInBounds_toArray, List.set_cons_zero, List.set_cons_succ])
      refine ru_one 14 rfl (by kernel_rfl) (fun K hK => ?_)
      go_simp
      refine ru_back_late hK (by kernel_rfl) ?_
      clear hK K
      (try simp only [Act.put, List.setIfInBounds_toArray, List.set_cons_zero, List.set_cons_succ])
      refine ru_done (by kernel_rfl) ?_
      obtain ⟨w170, hx171, F173, hxs172⟩ := (show Bun w [rsl iceEnc 8 rl_g165 rh_g165 (.slice ra_g165 (runI l ic d0).length rc_g165) (runI l ic d0), rown weaEnc 35 6 w.heap.size (.slice ca158 d0.length cap159) d0, rsl iceEnc 8 rl_g120 rh_g120 (.slice ra_g120 (runI l ic dl).length rc_g120) (runI l ic dl), rsl iceEnc 8 rl_g106 rh_g106 (.slice ra_g106 (runI l ic dl).length rc_g106) (runI l ic dl), rown weaEnc 35 6 w.heap.size (.slice ca99 dl.length cap100) dl, rsl iceEnc 8 rl_g61 rh_g61 (.slice ra_g61 (runI l0 x0 d0).length rc_g61) (runI l0 x0 d0), rsl iceEnc 8 rl_g47 rh_g47 (.slice ra_g47 (runI l0 x0 d0).length rc_g47) (runI l0 x0 d0), rown weaEnc 35 6 w.heap.size (.slice ca40 d0.length cap41) d0, rbox g5_38 29 #[.int .i64 l0.gr, .int .i64 l0.la, .slice sa0 l0.cov.length sc0, .int .i64 l0.melt.lo, .int .i64 l0.melt.hi, .int .i64 l0.soak, .int .i64 l0.white.lo, .int .i64 l0.white.hi, .int .i64 l.gr, .int .i64 l.la, .slice sal l.cov.length scl, .int .i64 l.melt.lo, .int .i64 l.melt.hi, .int .i64 l.soak, .int .i64 l.white.lo, .int .i64 l.white.hi, .int .i64 l.gr, .int .i64 l.la, .slice sal l.cov.length scl, .int .i64 l.melt.lo, .int .i64 l.melt.hi, .int .i64 l.soak, .int .i64 l.white.lo, .int .i64 l.white.hi], rbox g5_42 32 #[.int .i64 x0.bl.lo, .int .i64 x0.bl.hi, .int .i64 x0.wh.lo, .int .i64 x0.wh.hi, .int .i64 x0.we.lo, .int .i64 x0.we.hi, .int .i64 x0.sn.lo, .int .i64 x0.sn.hi, .int .i64 ic.bl.lo, .int .i64 ic.bl.hi, .int .i64 ic.wh.lo, .int .i64 ic.wh.hi, .int .i64 ic.we.lo, .int .i64 ic.we.hi, .int .i64 ic.sn.lo, .int .i64 ic.sn.hi, .int .i64 ic.bl.lo, .int .i64 ic.bl.hi, .int .i64 ic.wh.lo, .int .i64 ic.wh.hi, .int .i64 ic.we.lo, .int .i64 ic.we.hi, .int .i64 ic.sn.lo, .int .i64 ic.sn.hi], rbox g5_47 36 #[.slice da0 d0.length dc0, .slice da_dl dl.length dc_dl, .slice da0 d0.length dc0], rsl covEnc 3 lo_l hi_l (.slice sal l.cov.length scl) l.cov, rseed sb, rsl intEnc 1 0 w.heap.size (.slice na zs.length nc) zs, rsl weaEnc 6 0 w.heap.size (.slice da0 d0.length dc0) d0, rsl covEnc 3 0 w.heap.size (.slice sa0 l0.cov.length sc0) l0.cov, rsl weaEnc 6 ld_dl hd_dl (.slice da_dl dl.length dc_dl) dl] _ from ((F169.drop 2 rfl).drop 2 rfl)).name
      (try simp at hxs172)
      rw [hx171]
      clear hx171 F169
      go_wp2_with fail
      have F176 := F173.drew
      clear F173
      refine ru_begin (fun W => W.cell? ⟨g5_38, 16, none⟩ = some (.int .i64 l.gr) ∧ W.cell? ⟨g5_38, 17, none⟩ = some (.int .i64 l.la) ∧ W.cell? ⟨g5_38, 18, none⟩ = some (.slice sal l.cov.length scl) ∧ W.cell? ⟨g5_38, 19, none⟩ = some (.int .i64 l.melt.lo) ∧ W.cell? ⟨g5_38, 20, none⟩ = some (.int .i64 l.melt.hi) ∧ W.cell? ⟨g5_38, 21, none⟩ = some (.int .i64 l.soak) ∧ W.cell? ⟨g5_38, 22, none⟩ = some (.int .i64 l.white.lo) ∧ W.cell? ⟨g5_38, 23, none⟩ = some (.int .i64 l.white.hi) ∧ W.cell? ⟨g5_42, 16, none⟩ = some (.int .i64 ic.bl.lo) ∧ W.cell? ⟨g5_42, 17, none⟩ = some (.int .i64 ic.bl.hi) ∧ W.cell? ⟨g5_42, 18, none⟩ = some (.int .i64 ic.wh.lo) ∧ W.cell? ⟨g5_42, 19, none⟩ = some (.int .i64 ic.wh.hi) ∧ W.cell? ⟨g5_42, 20, none⟩ = some (.int .i64 ic.we.lo) ∧ W.cell? ⟨g5_42, 21, none⟩ = some (.int .i64 ic.we.hi) ∧ W.cell? ⟨g5_42, 22, none⟩ = some (.int .i64 ic.sn.lo) ∧ W.cell? ⟨g5_42, 23, none⟩ = some (.int .i64 ic.sn.hi) ∧ W.cell? ⟨g5_47, 2, none⟩ = some (.slice da0 d0.length dc0)) 17 (by kernel_rfl) ?_ ?_
      · exact ⟨F176.cl 8 16 rfl rfl, F176.cl 8 17 rfl rfl, F176.cl 8 18 rfl rfl, F176.cl 8 19 rfl rfl, F176.cl 8 20 rfl rfl, F176.cl 8 21 rfl rfl, F176.cl 8 22 rfl rfl, F176.cl 8 23 rfl rfl, F176.cl 9 16 rfl rfl, F176.cl 9 17 rfl rfl, F176.cl 9 18 rfl rfl, F176.cl 9 19 rfl rfl, F176.cl 9 20 rfl rfl, F176.cl 9 21 rfl rfl, F176.cl 9 22 rfl rfl, F176.cl 9 23 rfl rfl, F176.cl 10 2 rfl rfl⟩
      obtain ⟨wd178, hwd_⟩ : ∃ x : World, w170.drew = x := ⟨_, rfl⟩
      rw [hwd_] at F176 ⊢
      have wd178s : w170.heap.size ≤ wd178.heap.size := by rw [← hwd_]; exact Nat.le_refl _
      clear hwd_
      have hS177 := (And.intro (F176.cl 8 16 rfl rfl) (And.intro (F176.cl 8 17 rfl rfl) (And.intro (F176.cl 8 18 rfl rfl) (And.intro (F176.cl 8 19 rfl rfl) (And.intro (F176.cl 8 20 rfl rfl) (And.intro (F176.cl 8 21 rfl rfl) (And.intro (F176.cl 8 22 rfl rfl) (And.intro (F176.cl 8 23 rfl rfl) (And.intro (F176.cl 9 16 rfl rfl) (And.intro (F176.cl 9 17 rfl rfl) (And.intro (F176.cl 9 18 rfl rfl) (And.intro (F176.cl 9 19 rfl rfl) (And.intro (F176.cl 9 20 rfl rfl) (And.intro (F176.cl 9 21 rfl rfl) (And.intro (F176.cl 9 22 rfl rfl) (And.intro (F176.cl 9 23 rfl rfl) (F176.cl 10 2 rfl rfl)))))))))))))))))
      refine ru_take 0 [] (v := ?_) rfl (by kernel_rfl) (fun _ _ _ h => h) (by assumption) (.inl ⟨by first | kernel_rfl | rfl, ?_⟩) ?_
      rotate_left
      · (intro wS hwS; (try dsimp only at hwS); go_simp; (try with_reducible rfl))
      (try simp only [Act.put, List.setIfInBounds_toArray, List.set_cons_zero, List.set_cons_succ])
      refine ru_take 1 [] (v := ?_) rfl (by kernel_rfl) (fun _ _ _ h => h) (by assumption) (.inl ⟨by first | kernel_rfl | rfl, ?_⟩) ?_
      rotate_left
      · (intro wS hwS; (try dsimp only at hwS); go_simp; (try with_reducible rfl))
      (try simp only [Act.put, List.setIfInBounds_toArray, List.set_cons_zero, List.set_cons_succ])
      refine ru_take 2 [] (v := ?_) rfl (by kernel_rfl) (fun _ _ _ h => h) (by assumption) (.inl ⟨by first | kernel_rfl | rfl, ?_⟩) ?_
      rotate_left
      · (intro wS hwS; (try dsimp only at hwS); go_simp; (try with_reducible rfl))
      (try simp only [Act.put, List.setIfInBounds_toArray, List.set_cons_zero, List.set_cons_succ])
      refine ru_take 3 [] (v := ?_) rfl (by kernel_rfl) (fun _ _ _ h => h) (by assumption) (.inl ⟨by first | kernel_rfl | rfl, ?_⟩) ?_
      rotate_left
      · (intro wS hwS; (try dsimp only at hwS); go_simp; (try with_reducible rfl))
      (try simp only [Act.put, List.setIfInBounds_toArray, List.set_cons_zero, List.set_cons_succ])
      refine ru_take 4 [] (v := ?_) rfl (by kernel_rfl) (fun _ _ _ h => h) (by assumption) (.inl ⟨by first | kernel_rfl | rfl, ?_⟩) ?_
      rotate_left
      · (intro wS hwS; (try dsimp only at hwS); go_simp; (try with_reducible rfl))
      (try simp only [Act.put, List.setIfInBounds_toArray, List.set_cons_zero, List.set_cons_succ])
      refine ru_take 5 [] (v := ?_) rfl (by kernel_rfl) (fun _ _ _ h => h) (by assumption) (.inl ⟨by first | kernel_rfl | rfl, ?_⟩) ?_
      rotate_left
      · (intro wS hwS; (try dsimp only at hwS); go_simp; (try with_reducible rfl))
      (try simp only [Act.put, List.setIfInBounds_toArray, List.set_cons_zero, List.set_cons_succ])
      refine ru_take 6 [] (v := ?_) rfl (by kernel_rfl) (fun _ _ _ h => h) (by assumption) (.inl ⟨by first | kernel_rfl | rfl, ?_⟩) ?_
      rotate_left
      · (intro wS hwS; (try dsimp only at hwS); go_simp; (try with_reducible rfl))
      (try simp only [Act.put, List.setIfInBounds_toArray, List.set_cons_zero, List.set_cons_succ])
      refine ru_take 7 [] (v := ?_) rfl (by kernel_rfl) (fun _ _ _ h => h) (by assumption) (.inl ⟨by first | kernel_rfl | rfl, ?_⟩) ?_
      rotate_left
      · (intro wS hwS; (try dsimp only at hwS); go_simp; (try with_reducible rfl))
      (try simp only [Act.put, List.setIfInBounds_toArray, List.set_cons_zero, List.set_cons_succ])
      refine ru_take 8 [] (v := ?_) rfl (by kernel_rfl) (fun _ _ _ h => h) (by assumption) (.inl ⟨by first | kernel_rfl | rfl, ?_⟩) ?_
      rotate_left
      · (intro wS hwS; (try dsimp only at hwS); go_simp; (try with_reducible rfl))
      (try simp only [Act.put, List.setIfInBounds_toArray, List.set_cons_zero, List.set_cons_succ])
      refine ru_take 9 [] (v := ?_) rfl (by kernel_rfl) (fun _ _ _ h => h) (by assumption) (.inl ⟨by first | kernel_rfl | rfl, ?_⟩) ?_
      rotate_left
      · (intro wS hwS; (try dsimp only at hwS); go_simp; (try with_reducible rfl))
      (try simp only [Act.put, List.setIfInBounds_toArray, List.set_cons_zero, List.set_cons_succ])
      refine ru_take 10 [] (v := ?_) rfl (by kernel_rfl) (fun _ _ _ h => h) (by assumption) (.inl ⟨by first | kernel_rfl | rfl, ?_⟩) ?_
      rotate_left
      · (intro wS hwS; (try dsimp only at hwS); go_simp; (try with_reducible rfl))
      (try simp only [Act.put, List.setIfInBounds_toArray, List.set_cons_zero, List.set_cons_succ])
      refine ru_take 11 [] (v := ?_) rfl (by kernel_rfl) (fun _ _ _ h => h) (by assumption) (.inl ⟨by first | kernel_rfl | rfl, ?_⟩) ?_
      rotate_left
      · (intro wS hwS; (try dsimp only at hwS); go_simp; (try with_reducible rfl))
      (try simp only [Act.put, List.setIfInBounds_toArray, List.set_cons_zero, List.set_cons_succ])
      clear hS177
      refine ru_one 12 rfl (by kernel_rfl) (fun K hK => ?_)
      go_simp
      refine (rrun_g _ _ _ l ic _ _ _ d0 _ (F176.at 11 rfl : Sl covEnc 3 lo_l hi_l _ (.slice sal l.cov.length scl) l.cov) (by first | omega | (simp; omega)) (F176.at 14 rfl : Sl weaEnc 6 0 w.heap.size _ (.slice da0 d0.length dc0) d0) (by first | omega | (simp; omega))).mono ?_
      rintro e w182 ⟨ra_g179, rc_g179, rl_g179, rh_g179, rfl, ⟨rxg179, ryg179⟩, rwg179, hg180⟩
      have hg180s := hg180.size
      (try simp at hg180s)
      have F183 := F176.add (rsl iceEnc 8 rl_g179 rh_g179 (.slice ra_g179 (runI l ic d0).length rc_g179) (runI l ic d0)) hg180 (rwg179) (fun g e => ⟨Nat.le_trans rxg179 e.1, Nat.lt_of_lt_of_le e.2 ryg179⟩)
      clear F176
      refine ru_back hK (by exact ⟨F183.cl 9 16 rfl rfl, F183.cl 9 17 rfl rfl, F183.cl 9 18 rfl rfl, F183.cl 9 19 rfl rfl, F183.cl 9 20 rfl rfl, F183.cl 9 21 rfl rfl, F183.cl 9 22 rfl rfl, F183.cl 9 23 rfl rfl, F183.cl 10 16 rfl rfl, F183.cl 10 17 rfl rfl, F183.cl 10 18 rfl rfl, F183.cl 10 19 rfl rfl, F183.cl 10 20 rfl rfl, F183.cl 10 21 rfl rfl, F183.cl 10 22 rfl rfl, F183.cl 10 23 rfl rfl, F183.cl 11 2 rfl rfl⟩) (fun hHeld => ?_)
      clear hK K
      (try simp only [Act.put, List.setIfInBounds_toArray, List.set_cons_zero, List.set_cons_succ])
      refine ru_pure 13 (v := ?_) rfl (by kernel_rfl) (fun _ _ _ h => h) (fun hd_ => by first | assumption | (exact absurd hd_ (by decide))) (.inl ⟨by first | kernel_rfl | rfl, ?_⟩) ?_
      rotate_left
      · (intro wS hwS; clear hwS; go_simp; (try with_reducible rfl))
      (try simp only [Act.put, List.setIfInBounds_toArray, List.set_cons_zero, List.set_cons_succ])
      refine ru_pure 14 (v := ?_) rfl (by kernel_rfl) (fun _ _ _ h => h) (fun hd_ => by first | assumption | (exact absurd hd_ (by decide))) (.inl ⟨by first | kernel_rfl | rfl, ?_⟩) ?_
      rotate_left
      · (intro wS hwS; clear hwS; go_simp; (try with_reducible rfl))
      (try simp only [Act.put, List.setIfInBounds_toArray, List.set_cons_zero, List.set_cons_succ])
      refine ru_pure 15 (v := ?_) rfl (by kernel_rfl) (fun _ _ _ h => h) (fun hd_ => by first | assumption | (exact absurd hd_ (by decide))) (.inl ⟨by first | kernel_rfl | rfl, ?_⟩) ?_
      rotate_left
      · (intro wS hwS; clear hwS; go_simp; (try with_reducible rfl))
      (try simp only [Act.put, List.setIfInBounds_toArray, List.set_cons_zero, List.set_cons_succ])
      refine ru_pure 16 (v := ?_) rfl (by kernel_rfl) (fun _ _ _ h => h) (fun hd_ => by first | assumption | (exact absurd hd_ (by decide))) (.inl ⟨by first | kernel_rfl | rfl, ?_⟩) ?_
      rotate_left
      · (intro wS hwS; clear hwS; go_simp; (try with_reducible rfl))
      (try simp only [Act.put, List.setIfInBounds_toArray, List.set_cons_zero, List.set_cons_succ])
      refine ru_one 17 rfl (by kernel_rfl) (fun K hK => ?_)
      go_simp
      refine ru_back_late hK (by kernel_rfl) ?_
      clear hK K
      (try simp only [Act.put, List.setIfInBounds_toArray, List.set_cons_zero, List.set_cons_succ])
      refine ru_done (by kernel_rfl) ?_
      obtain ⟨w184, hx185, F187, hxs186⟩ := (show Bun w [rsl iceEnc 8 rl_g179 rh_g179 (.slice ra_g179 (runI l ic d0).length rc_g179) (runI l ic d0), rsl iceEnc 8 rl_g165 rh_g165 (.slice ra_g165 (runI l ic d0).length rc_g165) (runI l ic d0), rown weaEnc 35 6 w.heap.size (.slice ca158 d0.length cap159) d0, rsl iceEnc 8 rl_g120 rh_g120 (.slice ra_g120 (runI l ic dl).length rc_g120) (runI l ic dl), rsl iceEnc 8 rl_g106 rh_g106 (.slice ra_g106 (runI l ic dl).length rc_g106) (runI l ic dl), rown weaEnc 35 6 w.heap.size (.slice ca99 dl.length cap100) dl, rsl iceEnc 8 rl_g61 rh_g61 (.slice ra_g61 (runI l0 x0 d0).length rc_g61) (runI l0 x0 d0), rsl iceEnc 8 rl_g47 rh_g47 (.slice ra_g47 (runI l0 x0 d0).length rc_g47) (runI l0 x0 d0), rown weaEnc 35 6 w.heap.size (.slice ca40 d0.length cap41) d0, rbox g5_38 29 #[.int .i64 l0.gr, .int .i64 l0.la, .slice sa0 l0.cov.length sc0, .int .i64 l0.melt.lo, .int .i64 l0.melt.hi, .int .i64 l0.soak, .int .i64 l0.white.lo, .int .i64 l0.white.hi, .int .i64 l.gr, .int .i64 l.la, .slice sal l.cov.length scl, .int .i64 l.melt.lo, .int .i64 l.melt.hi, .int .i64 l.soak, .int .i64 l.white.lo, .int .i64 l.white.hi, .int .i64 l.gr, .int .i64 l.la, .slice sal l.cov.length scl, .int .i64 l.melt.lo, .int .i64 l.melt.hi, .int .i64 l.soak, .int .i64 l.white.lo, .int .i64 l.white.hi], rbox g5_42 32 #[.int .i64 x0.bl.lo, .int .i64 x0.bl.hi, .int .i64 x0.wh.lo, .int .i64 x0.wh.hi, .int .i64 x0.we.lo, .int .i64 x0.we.hi, .int .i64 x0.sn.lo, .int .i64 x0.sn.hi, .int .i64 ic.bl.lo, .int .i64 ic.bl.hi, .int .i64 ic.wh.lo, .int .i64 ic.wh.hi, .int .i64 ic.we.lo, .int .i64 ic.we.hi, .int .i64 ic.sn.lo, .int .i64 ic.sn.hi, .int .i64 ic.bl.lo, .int .i64 ic.bl.hi, .int .i64 ic.wh.lo, .int .i64 ic.wh.hi, .int .i64 ic.we.lo, .int .i64 ic.we.hi, .int .i64 ic.sn.lo, .int .i64 ic.sn.hi], rbox g5_47 36 #[.slice da0 d0.length dc0, .slice da_dl dl.length dc_dl, .slice da0 d0.length dc0], rsl covEnc 3 lo_l hi_l (.slice sal l.cov.length scl) l.cov, rseed sb, rsl intEnc 1 0 w.heap.size (.slice na zs.length nc) zs, rsl weaEnc 6 0 w.heap.size (.slice da0 d0.length dc0) d0, rsl covEnc 3 0 w.heap.size (.slice sa0 l0.cov.length sc0) l0.cov, rsl weaEnc 6 ld_dl hd_dl (.slice da_dl dl.length dc_dl) dl] _ from F183).name
      (try simp at hxs186)
      rw [hx185]
      clear hx185 F183
      go_wp2_with fail
      refine (index_c _ _ _ d0 _ (Own.sl (F187.at 2 rfl : Own weaEnc 35 6 w.heap.size _ (.slice ca158 d0.length cap159) d0) (fun _ => rfl)) (Nat.le_refl _)).mono ?_
      rintro e w190 ⟨rfl, hg188⟩
      have hg188s := hg188.size
      (try simp at hg188s)
      have F191 := F187.gn hg188
      clear F187
      clear hg188
      have b192 := F191.bx3 11 rfl
      go_wp2_with fail
      clear b192
      have F193 := F191.new 27 #[.int .i64 ((indexI d0).lo), .int .i64 ((indexI d0).hi)] (n := w190.heap.size) (by simp)
      clear F191
      refine (rindex_c _ _ _ d0 _ (F193.at 16 rfl : Sl weaEnc 6 0 w.heap.size _ (.slice da0 d0.length dc0) d0) (by first | omega | (simp; omega))).mono ?_
      rintro e w196 ⟨rfl, hg194⟩
      have hg194s := hg194.size
      (try simp at hg194s)
      have F197 := F193.gn hg194
      clear F193
      clear hg194
      go_wp2_with fail
      have F198 := F197.new 27 #[.int .i64 ((indexI d0).lo), .int .i64 ((indexI d0).hi)] (n := w196.heap.size) (by simp)
      clear F197
      refine (sameIce_c _ _ _ _ _ _ (runI l ic d0) _ (F198.at 3 rfl : Sl iceEnc 8 rl_g165 rh_g165 _ (.slice ra_g165 (runI l ic d0).length rc_g165) (runI l ic d0)) (by first | omega | (simp; omega)) (F198.at 2 rfl : Sl iceEnc 8 rl_g179 rh_g179 _ (.slice ra_g179 (runI l ic d0).length rc_g179) (runI l ic d0)) (by first | omega | (simp; omega))).mono ?_
      rintro e w201 ⟨rfl, hg199⟩
      have hg199s := hg199.size
      (try simp at hg199s)
      have F202 := F198.gn hg199
      clear F198
      clear hg199
      have b203 := F202.bx2 0 rfl
      have b204 := F202.bx2 1 rfl
      have b205 := F202.bx3 13 rfl
      go_wp2_with fail
      clear b203 b204 b205
      refine (sameDays_c _ _ _ _ _ _ d0 _ (Own.sl (F202.at 4 rfl : Own weaEnc 35 6 w.heap.size _ (.slice ca158 d0.length cap159) d0) (fun _ => rfl)) (Nat.le_refl _) (F202.at 17 rfl : Sl weaEnc 6 0 w.heap.size _ (.slice da0 d0.length dc0) d0) (by first | omega | (simp; omega))).mono ?_
      rintro e w208 ⟨rfl, hg206⟩
      have hg206s := hg206.size
      (try simp at hg206s)
      have F209 := F202.gn hg206
      clear F202
      clear hg206
      go_wp2_with fail
      rw [rounds_succ]
      go_wp2_with fail
      refine (awake_c _).mono ?_
      rintro e w212 ⟨rfl, hg210⟩
      have hg210s := hg210.size
      (try simp at hg210s)
      have F213 := F209.gn hg210
      clear F209
      clear hg210
      go_wp2_with fail
      go_ret
      exact ⟨rfl, F213.gb⟩
    case first17 =>
      have F214 := F29.drew
      clear F29
      refine ru_begin (fun W => W.cell? ⟨w.heap.size, 0, none⟩ = some (.int .i64 l0.gr) ∧ W.cell? ⟨w.heap.size, 1, none⟩ = some (.int .i64 l0.la) ∧ W.cell? ⟨w.heap.size, 2, none⟩ = some (.slice sa0 l0.cov.length sc0) ∧ W.cell? ⟨w.heap.size, 3, none⟩ = some (.int .i64 l0.melt.lo) ∧ W.cell? ⟨w.heap.size, 4, none⟩ = some (.int .i64 l0.melt.hi) ∧ W.cell? ⟨w.heap.size, 5, none⟩ = some (.int .i64 l0.soak) ∧ W.cell? ⟨w.heap.size, 6, none⟩ = some (.int .i64 l0.white.lo) ∧ W.cell? ⟨w.heap.size, 7, none⟩ = some (.int .i64 l0.white.hi) ∧ W.cell? ⟨w22.heap.size, 0, none⟩ = some (.int .i64 l.gr) ∧ W.cell? ⟨w22.heap.size, 1, none⟩ = some (.int .i64 l.la) ∧ W.cell? ⟨w22.heap.size, 2, none⟩ = some (.slice sal l.cov.length scl) ∧ W.cell? ⟨w22.heap.size, 3, none⟩ = some (.int .i64 l.melt.lo) ∧ W.cell? ⟨w22.heap.size, 4, none⟩ = some (.int .i64 l.melt.hi) ∧ W.cell? ⟨w22.heap.size, 5, none⟩ = some (.int .i64 l.soak) ∧ W.cell? ⟨w22.heap.size, 6, none⟩ = some (.int .i64 l.white.lo) ∧ W.cell? ⟨w22.heap.size, 7, none⟩ = some (.int .i64 l.white.hi) ∧ W.cell? ⟨(w.heap.size + 1), 0, none⟩ = some (.int .i64 x0.bl.lo) ∧ W.cell? ⟨(w.heap.size + 1), 1, none⟩ = some (.int .i64 x0.bl.hi) ∧ W.cell? ⟨(w.heap.size + 1), 2, none⟩ = some (.int .i64 x0.wh.lo) ∧ W.cell? ⟨(w.heap.size + 1), 3, none⟩ = some (.int .i64 x0.wh.hi) ∧ W.cell? ⟨(w.heap.size + 1), 4, none⟩ = some (.int .i64 x0.we.lo) ∧ W.cell? ⟨(w.heap.size + 1), 5, none⟩ = some (.int .i64 x0.we.hi) ∧ W.cell? ⟨(w.heap.size + 1), 6, none⟩ = some (.int .i64 x0.sn.lo) ∧ W.cell? ⟨(w.heap.size + 1), 7, none⟩ = some (.int .i64 x0.sn.hi) ∧ W.cell? ⟨(w22.heap.size + 1), 0, none⟩ = some (.int .i64 ic.bl.lo) ∧ W.cell? ⟨(w22.heap.size + 1), 1, none⟩ = some (.int .i64 ic.bl.hi) ∧ W.cell? ⟨(w22.heap.size + 1), 2, none⟩ = some (.int .i64 ic.wh.lo) ∧ W.cell? ⟨(w22.heap.size + 1), 3, none⟩ = some (.int .i64 ic.wh.hi) ∧ W.cell? ⟨(w22.heap.size + 1), 4, none⟩ = some (.int .i64 ic.we.lo) ∧ W.cell? ⟨(w22.heap.size + 1), 5, none⟩ = some (.int .i64 ic.we.hi) ∧ W.cell? ⟨(w22.heap.size + 1), 6, none⟩ = some (.int .i64 ic.sn.lo) ∧ W.cell? ⟨(w22.heap.size + 1), 7, none⟩ = some (.int .i64 ic.sn.hi)) 15 (by kernel_rfl) ?_ ?_
      · exact ⟨F214.cl 5 0 rfl rfl, F214.cl 5 1 rfl rfl, F214.cl 5 2 rfl rfl, F214.cl 5 3 rfl rfl, F214.cl 5 4 rfl rfl, F214.cl 5 5 rfl rfl, F214.cl 5 6 rfl rfl, F214.cl 5 7 rfl rfl, F214.cl 1 0 rfl rfl, F214.cl 1 1 rfl rfl, F214.cl 1 2 rfl rfl, F214.cl 1 3 rfl rfl, F214.cl 1 4 rfl rfl, F214.cl 1 5 rfl rfl, F214.cl 1 6 rfl rfl, F214.cl 1 7 rfl rfl, F214.cl 4 0 rfl rfl, F214.cl 4 1 rfl rfl, F214.cl 4 2 rfl rfl, F214.cl 4 3 rfl rfl, F214.cl 4 4 rfl rfl, F214.cl 4 5 rfl rfl, F214.cl 4 6 rfl rfl, F214.cl 4 7 rfl rfl, F214.cl 0 0 rfl rfl, F214.cl 0 1 rfl rfl, F214.cl 0 2 rfl rfl, F214.cl 0 3 rfl rfl, F214.cl 0 4 rfl rfl, F214.cl 0 5 rfl rfl, F214.cl 0 6 rfl rfl, F214.cl 0 7 rfl rfl⟩
      obtain ⟨wd216, hwd_⟩ : ∃ x : World, w26.drew = x := ⟨_, rfl⟩
      rw [hwd_] at F214 ⊢
      have wd216s : w26.heap.size ≤ wd216.heap.size := by rw [← hwd_]; exact Nat.le_refl _
      clear hwd_
      have hS215 := (And.intro (F214.cl 5 0 rfl rfl) (And.intro (F214.cl 5 1 rfl rfl) (And.intro (F214.cl 5 2 rfl rfl) (And.intro (F214.cl 5 3 rfl rfl) (And.intro (F214.cl 5 4 rfl rfl) (And.intro (F214.cl 5 5 rfl rfl) (And.intro (F214.cl 5 6 rfl rfl) (And.intro (F214.cl 5 7 rfl rfl) (And.intro (F214.cl 1 0 rfl rfl) (And.intro (F214.cl 1 1 rfl rfl) (And.intro (F214.cl 1 2 rfl rfl) (And.intro (F214.cl 1 3 rfl rfl) (And.intro (F214.cl 1 4 rfl rfl) (And.intro (F214.cl 1 5 rfl rfl) (And.intro (F214.cl 1 6 rfl rfl) (And.intro (F214.cl 1 7 rfl rfl) (And.intro (F214.cl 4 0 rfl rfl) (And.intro (F214.cl 4 1 rfl rfl) (And.intro (F214.cl 4 2 rfl rfl) (And.intro (F214.cl 4 3 rfl rfl) (And.intro (F214.cl 4 4 rfl rfl) (And.intro (F214.cl 4 5 rfl rfl) (And.intro (F214.cl 4 6 rfl rfl) (And.intro (F214.cl 4 7 rfl rfl) (And.intro (F214.cl 0 0 rfl rfl) (And.intro (F214.cl 0 1 rfl rfl) (And.intro (F214.cl 0 2 rfl rfl) (And.intro (F214.cl 0 3 rfl rfl) (And.intro (F214.cl 0 4 rfl rfl) (And.intro (F214.cl 0 5 rfl rfl) (And.intro (F214.cl 0 6 rfl rfl) (F214.cl 0 7 rfl rfl))))))))))))))))))))))))))))))))
      refine ru_take 0 [] (v := ?_) rfl (by kernel_rfl) (fun _ _ _ h => h) (by assumption) (.inl ⟨by first | kernel_rfl | rfl, ?_⟩) ?_
      rotate_left
      · (intro wS hwS; (try dsimp only at hwS); go_simp; (try with_reducible rfl))
      (try simp only [Act.put, List.setIfInBounds_toArray, List.set_cons_zero, List.set_cons_succ])
      refine ru_take 1 [] (v := ?_) rfl (by kernel_rfl) (fun _ _ _ h => h) (by assumption) (.inl ⟨by first | kernel_rfl | rfl, ?_⟩) ?_
      rotate_left
      · (intro wS hwS; (try dsimp only at hwS); go_simp; (try with_reducible rfl))
      (try simp only [Act.put, List.setIfInBounds_toArray, List.set_cons_zero, List.set_cons_succ])
      refine ru_take 2 [] (v := ?_) rfl (by kernel_rfl) (fun _ _ _ h => h) (by assumption) (.inl ⟨by first | kernel_rfl | rfl, ?_⟩) ?_
      rotate_left
      · (intro wS hwS; (try dsimp only at hwS); go_simp; (try with_reducible rfl))
      (try simp only [Act.put, List.setIfInBounds_toArray, List.set_cons_zero, List.set_cons_succ])
      refine ru_take 4 [] (v := ?_) rfl (by kernel_rfl) (fun _ _ _ h => h) (by assumption) (.inl ⟨by first | kernel_rfl | rfl, ?_⟩) ?_
      rotate_left
      · (intro wS hwS; (try dsimp only at hwS); go_simp; (try with_reducible rfl))
      (try simp only [Act.put, List.setIfInBounds_toArray, List.set_cons_zero, List.set_cons_succ])
      refine ru_take 5 [] (v := ?_) rfl (by kernel_rfl) (fun _ _ _ h => h) (by assumption) (.inl ⟨by first | kernel_rfl | rfl, ?_⟩) ?_
      rotate_left
      · (intro wS hwS; (try dsimp only at hwS); go_simp; (try with_reducible rfl))
      (try simp only [Act.put, List.setIfInBounds_toArray, List.set_cons_zero, List.set_cons_succ])
      refine ru_take 6 [] (v := ?_) rfl (by kernel_rfl) (fun _ _ _ h => h) (by assumption) (.inl ⟨by first | kernel_rfl | rfl, ?_⟩) ?_
      rotate_left
      · (intro wS hwS; (try dsimp only at hwS); go_simp; (try with_reducible rfl))
      (try simp only [Act.put, List.setIfInBounds_toArray, List.set_cons_zero, List.set_cons_succ])
      refine ru_take 8 [] (v := ?_) rfl (by kernel_rfl) (fun _ _ _ h => h) (by assumption) (.inl ⟨by first | kernel_rfl | rfl, ?_⟩) ?_
      rotate_left
      · (intro wS hwS; (try dsimp only at hwS); go_simp; (try with_reducible rfl))
      (try simp only [Act.put, List.setIfInBounds_toArray, List.set_cons_zero, List.set_cons_succ])
      refine ru_take 9 [] (v := ?_) rfl (by kernel_rfl) (fun _ _ _ h => h) (by assumption) (.inl ⟨by first | kernel_rfl | rfl, ?_⟩) ?_
      rotate_left
      · (intro wS hwS; (try dsimp only at hwS); go_simp; (try with_reducible rfl))
      (try simp only [Act.put, List.setIfInBounds_toArray, List.set_cons_zero, List.set_cons_succ])
      refine ru_take 11 [] (v := ?_) rfl (by kernel_rfl) (fun _ _ _ h => h) (by assumption) (.inl ⟨by first | kernel_rfl | rfl, ?_⟩) ?_
      rotate_left
      · (intro wS hwS; (try dsimp only at hwS); go_simp; (try with_reducible rfl))
      (try simp only [Act.put, List.setIfInBounds_toArray, List.set_cons_zero, List.set_cons_succ])
      clear hS215
      refine ru_three 3 7 10 rfl rfl rfl (by kernel_rfl) ?_ ?_ ?_
      · intro K hK
        go_simp
        have F217 := F214.new 29 #[.int .i64 l0.gr, .int .i64 l0.la, .slice sa0 l0.cov.length sc0, .int .i64 l0.melt.lo, .int .i64 l0.melt.hi, .int .i64 l0.soak, .int .i64 l0.white.lo, .int .i64 l0.white.hi, .int .i64 l.gr, .int .i64 l.la, .slice sal l.cov.length scl, .int .i64 l.melt.lo, .int .i64 l.melt.hi, .int .i64 l.soak, .int .i64 l.white.lo, .int .i64 l.white.hi, .int .i64 l.gr, .int .i64 l.la, .slice sal l.cov.length scl, .int .i64 l.melt.lo, .int .i64 l.melt.hi, .int .i64 l.soak, .int .i64 l.white.lo, .int .i64 l.white.hi] (n := wd216.heap.size) (by simp)
        clear F214
        refine ru_back hK (by exact ⟨F217.cl 6 0 rfl rfl, F217.cl 6 1 rfl rfl, F217.cl 6 2 rfl rfl, F217.cl 6 3 rfl rfl, F217.cl 6 4 rfl rfl, F217.cl 6 5 rfl rfl, F217.cl 6 6 rfl rfl, F217.cl 6 7 rfl rfl, F217.cl 2 0 rfl rfl, F217.cl 2 1 rfl rfl, F217.cl 2 2 rfl rfl, F217.cl 2 3 rfl rfl, F217.cl 2 4 rfl rfl, F217.cl 2 5 rfl rfl, F217.cl 2 6 rfl rfl, F217.cl 2 7 rfl rfl, F217.cl 5 0 rfl rfl, F217.cl 5 1 rfl rfl, F217.cl 5 2 rfl rfl, F217.cl 5 3 rfl rfl, F217.cl 5 4 rfl rfl, F217.cl 5 5 rfl rfl, F217.cl 5 6 rfl rfl, F217.cl 5 7 rfl rfl, F217.cl 1 0 rfl rfl, F217.cl 1 1 rfl rfl, F217.cl 1 2 rfl rfl, F217.cl 1 3 rfl rfl, F217.cl 1 4 rfl rfl, F217.cl 1 5 rfl rfl, F217.cl 1 6 rfl rfl, F217.cl 1 7 rfl rfl⟩) (fun hHeld => ?_)
        clear hK K
        (try simp only [Act.put, List.setIfInBounds_toArray, List.set_cons_zero, List.set_cons_succ])
        refine ru_two 7 10 rfl rfl (by kernel_rfl) ?_ ?_
        · intro K hK
          go_simp
          have F218 := F217.new 32 #[.int .i64 x0.bl.lo, .int .i64 x0.bl.hi, .int .i64 x0.wh.lo, .int .i64 x0.wh.hi, .int .i64 x0.we.lo, .int .i64 x0.we.hi, .int .i64 x0.sn.lo, .int .i64 x0.sn.hi, .int .i64 ic.bl.lo, .int .i64 ic.bl.hi, .int .i64 ic.wh.lo, .int .i64 ic.wh.hi, .int .i64 ic.we.lo, .int .i64 ic.we.hi, .int .i64 ic.sn.lo, .int .i64 ic.sn.hi, .int .i64 ic.bl.lo, .int .i64 ic.bl.hi, .int .i64 ic.wh.lo, .int .i64 ic.wh.hi, .int .i64 ic.we.lo, .int .i64 ic.we.hi, .int .i64 ic.sn.lo, .int .i64 ic.sn.hi] (n := (wd216.heap.size + 1)) (by simp)
          clear F217
          refine ru_back hK (by exact ⟨F218.cl 7 0 rfl rfl, F218.cl 7 1 rfl rfl, F218.cl 7 2 rfl rfl, F218.cl 7 3 rfl rfl, F218.cl 7 4 rfl rfl, F218.cl 7 5 rfl rfl, F218.cl 7 6 rfl rfl, F218.cl 7 7 rfl rfl, F218.cl 3 0 rfl rfl, F218.cl 3 1 rfl rfl, F218.cl 3 2 rfl rfl, F218.cl 3 3 rfl rfl, F218.cl 3 4 rfl rfl, F218.cl 3 5 rfl rfl, F218.cl 3 6 rfl rfl, F218.cl 3 7 rfl rfl, F218.cl 6 0 rfl rfl, F218.cl 6 1 rfl rfl, F218.cl 6 2 rfl rfl, F218.cl 6 3 rfl rfl, F218.cl 6 4 rfl rfl, F218.cl 6 5 rfl rfl, F218.cl 6 6 rfl rfl, F218.cl 6 7 rfl rfl, F218.cl 2 0 rfl rfl, F218.cl 2 1 rfl rfl, F218.cl 2 2 rfl rfl, F218.cl 2 3 rfl rfl, F218.cl 2 4 rfl rfl, F218.cl 2 5 rfl rfl, F218.cl 2 6 rfl rfl, F218.cl 2 7 rfl rfl⟩) (fun hHeld => ?_)
          clear hK K
          (try simp only [Act.put, List.setIfInBounds_toArray, List.set_cons_zero, List.set_cons_succ])
          refine ru_one 10 rfl (by kernel_rfl) (fun K hK => ?_)
          go_simp
          refine (daysOf_s sb 12 false _ ((F218.front 5 rfl rfl).at 0 rfl : SeedAt _ sb) (by omega)).mono ?_
          rintro e w221 ⟨dl, da_dl, dc_dl, ld_dl, hd_dl, rfl, ⟨hdxdl, hdydl, hdcdl⟩, hdzdl, hdndl, hdvdl, hs220, hg219⟩
          have HDdl := Lib.hid hdvdl
          clear hdvdl
          have hg219s := hg219.size
          (try simp at hg219s)
          have F222 := (F218.front 5 rfl rfl).seedAdd (rsl weaEnc 6 ld_dl hd_dl (.slice da_dl dl.length dc_dl) dl) hg219 hs220 (hdzdl) (fun g e => ⟨Nat.le_trans hdxdl e.1, Nat.lt_of_lt_of_le e.2 hdydl⟩)
          clear F218
          refine ru_back hK (by exact ⟨F222.cl 8 0 rfl rfl, F222.cl 8 1 rfl rfl, F222.cl 8 2 rfl rfl, F222.cl 8 3 rfl rfl, F222.cl 8 4 rfl rfl, F222.cl 8 5 rfl rfl, F222.cl 8 6 rfl rfl, F222.cl 8 7 rfl rfl, F222.cl 5 0 rfl rfl, F222.cl 5 1 rfl rfl, F222.cl 5 2 rfl rfl, F222.cl 5 3 rfl rfl, F222.cl 5 4 rfl rfl, F222.cl 5 5 rfl rfl, F222.cl 5 6 rfl rfl, F222.cl 5 7 rfl rfl, F222.cl 7 0 rfl rfl, F222.cl 7 1 rfl rfl, F222.cl 7 2 rfl rfl, F222.cl 7 3 rfl rfl, F222.cl 7 4 rfl rfl, F222.cl 7 5 rfl rfl, F222.cl 7 6 rfl rfl, F222.cl 7 7 rfl rfl, F222.cl 4 0 rfl rfl, F222.cl 4 1 rfl rfl, F222.cl 4 2 rfl rfl, F222.cl 4 3 rfl rfl, F222.cl 4 4 rfl rfl, F222.cl 4 5 rfl rfl, F222.cl 4 6 rfl rfl, F222.cl 4 7 rfl rfl⟩) (fun hHeld => ?_)
          clear hK K
          (try simp only [Act.put, List.setIfInBounds_toArray, List.set_cons_zero, List.set_cons_succ])
          refine ru_pure 13 (v := ?_) rfl (by kernel_rfl) (fun _ _ _ h => h) (fun hd_ => by first | assumption | (exact absurd hd_ (by decide))) (.inl ⟨by first | kernel_rfl | rfl, ?_⟩) ?_
          rotate_left
          · (intro wS hwS; clear hwS; go_simp; (try with_reducible rfl))
          (try simp only [Act.put, List.setIfInBounds_toArray, List.set_cons_zero, List.set_cons_succ])
          refine ru_pure 14 (v := ?_) rfl (by kernel_rfl) (fun _ _ _ h => h) (fun hd_ => by first | assumption | (exact absurd hd_ (by decide))) (.inl ⟨by first | kernel_rfl | rfl, ?_⟩) ?_
          rotate_left
          · (intro wS hwS; clear hwS; go_simp; (try with_reducible rfl))
          (try simp only [Act.put, List.setIfInBounds_toArray, List.set_cons_zero, List.set_cons_succ])
          refine ru_one 12 rfl (by kernel_rfl) (fun K hK => ?_)
          go_simp
          have F223 := F222.new 36 #[.slice da0 d0.length dc0, .slice da_dl dl.length dc_dl, .slice da0 d0.length dc0] (n := w221.heap.size) (by simp)
          clear F222
          refine ru_back hK (by exact ⟨F223.cl 9 0 rfl rfl, F223.cl 9 1 rfl rfl, F223.cl 9 2 rfl rfl, F223.cl 9 3 rfl rfl, F223.cl 9 4 rfl rfl, F223.cl 9 5 rfl rfl, F223.cl 9 6 rfl rfl, F223.cl 9 7 rfl rfl, F223.cl 6 0 rfl rfl, F223.cl 6 1 rfl rfl, F223.cl 6 2 rfl rfl, F223.cl 6 3 rfl rfl, F223.cl 6 4 rfl rfl, F223.cl 6 5 rfl rfl, F223.cl 6 6 rfl rfl, F223.cl 6 7 rfl rfl, F223.cl 8 0 rfl rfl, F223.cl 8 1 rfl rfl, F223.cl 8 2 rfl rfl, F223.cl 8 3 rfl rfl, F223.cl 8 4 rfl rfl, F223.cl 8 5 rfl rfl, F223.cl 8 6 rfl rfl, F223.cl 8 7 rfl rfl, F223.cl 5 0 rfl rfl, F223.cl 5 1 rfl rfl, F223.cl 5 2 rfl rfl, F223.cl 5 3 rfl rfl, F223.cl 5 4 rfl rfl, F223.cl 5 5 rfl rfl, F223.cl 5 6 rfl rfl, F223.cl 5 7 rfl rfl⟩) (fun hHeld => ?_)
          clear hK K
          (try simp only [Act.put, List.setIfInBounds_toArray, List.set_cons_zero, List.set_cons_succ])
          refine ru_one 15 rfl (by kernel_rfl) (fun K hK => ?_)
          go_simp
          refine ru_back_late hK (by kernel_rfl) ?_
          clear hK K
          (try simp only [Act.put, List.setIfInBounds_toArray, List.set_cons_zero, List.set_cons_succ])
          refine ru_done (by kernel_rfl) ?_
          have F224 : Bun w [rbox wd216.heap.size 29 #[.int .i64 l0.gr, .int .i64 l0.la, .slice sa0 l0.cov.length sc0, .int .i64 l0.melt.lo, .int .i64 l0.melt.hi, .int .i64 l0.soak, .int .i64 l0.white.lo, .int .i64 l0.white.hi, .int .i64 l.gr, .int .i64 l.la, .slice sal l.cov.length scl, .int .i64 l.melt.lo, .int .i64 l.melt.hi, .int .i64 l.soak, .int .i64 l.white.lo, .int .i64 l.white.hi, .int .i64 l.gr, .int .i64 l.la, .slice sal l.cov.length scl, .int .i64 l.melt.lo, .int .i64 l.melt.hi, .int .i64 l.soak, .int .i64 l.white.lo, .int .i64 l.white.hi], rbox (wd216.heap.size + 1) 32 #[.int .i64 x0.bl.lo, .int .i64 x0.bl.hi, .int .i64 x0.wh.lo, .int .i64 x0.wh.hi, .int .i64 x0.we.lo, .int .i64 x0.we.hi, .int .i64 x0.sn.lo, .int .i64 x0.sn.hi, .int .i64 ic.bl.lo, .int .i64 ic.bl.hi, .int .i64 ic.wh.lo, .int .i64 ic.wh.hi, .int .i64 ic.we.lo, .int .i64 ic.we.hi, .int .i64 ic.sn.lo, .int .i64 ic.sn.hi, .int .i64 ic.bl.lo, .int .i64 ic.bl.hi, .int .i64 ic.wh.lo, .int .i64 ic.wh.hi, .int .i64 ic.we.lo, .int .i64 ic.we.hi, .int .i64 ic.sn.lo, .int .i64 ic.sn.hi], rbox w221.heap.size 36 #[.slice da0 d0.length dc0, .slice da_dl dl.length dc_dl, .slice da0 d0.length dc0], rbox (w22.heap.size + 1) 32 (iceC ic), rbox w22.heap.size 29 (froC l (.slice sal l.cov.length scl)), rsl covEnc 3 lo_l hi_l (.slice sal l.cov.length scl) l.cov, rseed sb, rbox (w.heap.size + 1) 32 (iceC x0), rbox w.heap.size 29 (froC l0 (.slice sa0 l0.cov.length sc0)), rsl intEnc 1 0 w.heap.size (.slice na zs.length nc) zs, rsl weaEnc 6 0 w.heap.size (.slice da0 d0.length dc0) d0, rsl covEnc 3 0 w.heap.size (.slice sa0 l0.cov.length sc0) l0.cov, rsl weaEnc 6 ld_dl hd_dl (.slice da_dl dl.length dc_dl) dl] _ := F223.pick [4, 3, 0, 5, 6, 7, 2, 8, 9, 10, 11, 12, 1] (by decide) rfl
          clear F223
          exact ⟨(by first | kernel_rfl | rfl), rfl, wd216.heap.size, wd216.heap.size + 1, w221.heap.size, dl, da_dl, dc_dl, ld_dl, hd_dl, (by first | kernel_rfl | rfl), (by first | kernel_rfl | rfl), (by first | kernel_rfl | rfl), (by first | omega | (simp; done) | (simp; omega)), (by first | assumption | omega), HDdl.out, (by first | assumption | omega), (by first | omega | (simp; omega)), F224⟩
        · intro K hK
          go_simp
          refine (daysOf_s sb 12 false _ ((F217.front 4 rfl rfl).at 0 rfl : SeedAt _ sb) (by omega)).mono ?_
          rintro e w227 ⟨dl, da_dl, dc_dl, ld_dl, hd_dl, rfl, ⟨hdxdl, hdydl, hdcdl⟩, hdzdl, hdndl, hdvdl, hs226, hg225⟩
          have HDdl := Lib.hid hdvdl
          clear hdvdl
          have hg225s := hg225.size
          (try simp at hg225s)
          have F228 := (F217.front 4 rfl rfl).seedAdd (rsl weaEnc 6 ld_dl hd_dl (.slice da_dl dl.length dc_dl) dl) hg225 hs226 (hdzdl) (fun g e => ⟨Nat.le_trans hdxdl e.1, Nat.lt_of_lt_of_le e.2 hdydl⟩)
          clear F217
          refine ru_back hK (by exact ⟨F228.cl 7 0 rfl rfl, F228.cl 7 1 rfl rfl, F228.cl 7 2 rfl rfl, F228.cl 7 3 rfl rfl, F228.cl 7 4 rfl rfl, F228.cl 7 5 rfl rfl, F228.cl 7 6 rfl rfl, F228.cl 7 7 rfl rfl, F228.cl 4 0 rfl rfl, F228.cl 4 1 rfl rfl, F228.cl 4 2 rfl rfl, F228.cl 4 3 rfl rfl, F228.cl 4 4 rfl rfl, F228.cl 4 5 rfl rfl, F228.cl 4 6 rfl rfl, F228.cl 4 7 rfl rfl, F228.cl 6 0 rfl rfl, F228.cl 6 1 rfl rfl, F228.cl 6 2 rfl rfl, F228.cl 6 3 rfl rfl, F228.cl 6 4 rfl rfl, F228.cl 6 5 rfl rfl, F228.cl 6 6 rfl rfl, F228.cl 6 7 rfl rfl, F228.cl 3 0 rfl rfl, F228.cl 3 1 rfl rfl, F228.cl 3 2 rfl rfl, F228.cl 3 3 rfl rfl, F228.cl 3 4 rfl rfl, F228.cl 3 5 rfl rfl, F228.cl 3 6 rfl rfl, F228.cl 3 7 rfl rfl⟩) (fun hHeld => ?_)
          clear hK K
          (try simp only [Act.put, List.setIfInBounds_toArray, List.set_cons_zero, List.set_cons_succ])
          refine ru_pure 13 (v := ?_) rfl (by kernel_rfl) (fun _ _ _ h => h) (fun hd_ => by first | assumption | (exact absurd hd_ (by decide))) (.inl ⟨by first | kernel_rfl | rfl, ?_⟩) ?_
          rotate_left
          · (intro wS hwS; clear hwS; go_simp; (try with_reducible rfl))
          (try simp only [Act.put, List.setIfInBounds_toArray, List.set_cons_zero, List.set_cons_succ])
          refine ru_two 7 12 rfl rfl (by kernel_rfl) ?_ ?_
          · intro K hK
            go_simp
            have F229 := F228.new 32 #[.int .i64 x0.bl.lo, .int .i64 x0.bl.hi, .int .i64 x0.wh.lo, .int .i64 x0.wh.hi, .int .i64 x0.we.lo, .int .i64 x0.we.hi, .int .i64 x0.sn.lo, .int .i64 x0.sn.hi, .int .i64 ic.bl.lo, .int .i64 ic.bl.hi, .int .i64 ic.wh.lo, .int .i64 ic.wh.hi, .int .i64 ic.we.lo, .int .i64 ic.we.hi, .int .i64 ic.sn.lo, .int .i64 ic.sn.hi, .int .i64 ic.bl.lo, .int .i64 ic.bl.hi, .int .i64 ic.wh.lo, .int .i64 ic.wh.hi, .int .i64 ic.we.lo, .int .i64 ic.we.hi, .int .i64 ic.sn.lo, .int .i64 ic.sn.hi] (n := w227.heap.size) (by simp)
            clear F228
            refine ru_back hK (by exact ⟨F229.cl 8 0 rfl rfl, F229.cl 8 1 rfl rfl, F229.cl 8 2 rfl rfl, F229.cl 8 3 rfl rfl, F229.cl 8 4 rfl rfl, F229.cl 8 5 rfl rfl, F229.cl 8 6 rfl rfl, F229.cl 8 7 rfl rfl, F229.cl 5 0 rfl rfl, F229.cl 5 1 rfl rfl, F229.cl 5 2 rfl rfl, F229.cl 5 3 rfl rfl, F229.cl 5 4 rfl rfl, F229.cl 5 5 rfl rfl, F229.cl 5 6 rfl rfl, F229.cl 5 7 rfl rfl, F229.cl 7 0 rfl rfl, F229.cl 7 1 rfl rfl, F229.cl 7 2 rfl rfl, F229.cl 7 3 rfl rfl, F229.cl 7 4 rfl rfl, F229.cl 7 5 rfl rfl, F229.cl 7 6 rfl rfl, F229.cl 7 7 rfl rfl, F229.cl 4 0 rfl rfl, F229.cl 4 1 rfl rfl, F229.cl 4 2 rfl rfl, F229.cl 4 3 rfl rfl, F229.cl 4 4 rfl rfl, F229.cl 4 5 rfl rfl, F229.cl 4 6 rfl rfl, F229.cl 4 7 rfl rfl⟩) (fun hHeld => ?_)
            clear hK K
            (try simp only [Act.put, List.setIfInBounds_toArray, List.set_cons_zero, List.set_cons_succ])
            refine ru_pure 14 (v := ?_) rfl (by kernel_rfl) (fun _ _ _ h => h) (fun hd_ => by first | assumption | (exact absurd hd_ (by decide))) (.inl ⟨by first | kernel_rfl | rfl, ?_⟩) ?_
            rotate_left
            · (intro wS hwS; clear hwS; go_simp; (try with_reducible rfl))
            (try simp only [Act.put, List.setIfInBounds_toArray, List.set_cons_zero, List.set_cons_succ])
            refine ru_one 12 rfl (by kernel_rfl) (fun K hK => ?_)
            go_simp
            have F230 := F229.new 36 #[.slice da0 d0.length dc0, .slice da_dl dl.length dc_dl, .slice da0 d0.length dc0] (n := (w227.heap.size + 1)) (by simp)
            clear F229
            refine ru_back hK (by exact ⟨F230.cl 9 0 rfl rfl, F230.cl 9 1 rfl rfl, F230.cl 9 2 rfl rfl, F230.cl 9 3 rfl rfl, F230.cl 9 4 rfl rfl, F230.cl 9 5 rfl rfl, F230.cl 9 6 rfl rfl, F230.cl 9 7 rfl rfl, F230.cl 6 0 rfl rfl, F230.cl 6 1 rfl rfl, F230.cl 6 2 rfl rfl, F230.cl 6 3 rfl rfl, F230.cl 6 4 rfl rfl, F230.cl 6 5 rfl rfl, F230.cl 6 6 rfl rfl, F230.cl 6 7 rfl rfl, F230.cl 8 0 rfl rfl, F230.cl 8 1 rfl rfl, F230.cl 8 2 rfl rfl, F230.cl 8 3 rfl rfl, F230.cl 8 4 rfl rfl, F230.cl 8 5 rfl rfl, F230.cl 8 6 rfl rfl, F230.cl 8 7 rfl rfl, F230.cl 5 0 rfl rfl, F230.cl 5 1 rfl rfl, F230.cl 5 2 rfl rfl, F230.cl 5 3 rfl rfl, F230.cl 5 4 rfl rfl, F230.cl 5 5 rfl rfl, F230.cl 5 6 rfl rfl, F230.cl 5 7 rfl rfl⟩) (fun hHeld => ?_)
            clear hK K
            (try simp only [Act.put, List.setIfInBounds_toArray, List.set_cons_zero, List.set_cons_succ])
            refine ru_one 15 rfl (by kernel_rfl) (fun K hK => ?_)
            go_simp
            refine ru_back_late hK (by kernel_rfl) ?_
            clear hK K
            (try simp only [Act.put, List.setIfInBounds_toArray, List.set_cons_zero, List.set_cons_succ])
            refine ru_done (by kernel_rfl) ?_
            have F231 : Bun w [rbox wd216.heap.size 29 #[.int .i64 l0.gr, .int .i64 l0.la, .slice sa0 l0.cov.length sc0, .int .i64 l0.melt.lo, .int .i64 l0.melt.hi, .int .i64 l0.soak, .int .i64 l0.white.lo, .int .i64 l0.white.hi, .int .i64 l.gr, .int .i64 l.la, .slice sal l.cov.length scl, .int .i64 l.melt.lo, .int .i64 l.melt.hi, .int .i64 l.soak, .int .i64 l.white.lo, .int .i64 l.white.hi, .int .i64 l.gr, .int .i64 l.la, .slice sal l.cov.length scl, .int .i64 l.melt.lo, .int .i64 l.melt.hi, .int .i64 l.soak, .int .i64 l.white.lo, .int .i64 l.white.hi], rbox w227.heap.size 32 #[.int .i64 x0.bl.lo, .int .i64 x0.bl.hi, .int .i64 x0.wh.lo, .int .i64 x0.wh.hi, .int .i64 x0.we.lo, .int .i64 x0.we.hi, .int .i64 x0.sn.lo, .int .i64 x0.sn.hi, .int .i64 ic.bl.lo, .int .i64 ic.bl.hi, .int .i64 ic.wh.lo, .int .i64 ic.wh.hi, .int .i64 ic.we.lo, .int .i64 ic.we.hi, .int .i64 ic.sn.lo, .int .i64 ic.sn.hi, .int .i64 ic.bl.lo, .int .i64 ic.bl.hi, .int .i64 ic.wh.lo, .int .i64 ic.wh.hi, .int .i64 ic.we.lo, .int .i64 ic.we.hi, .int .i64 ic.sn.lo, .int .i64 ic.sn.hi], rbox (w227.heap.size + 1) 36 #[.slice da0 d0.length dc0, .slice da_dl dl.length dc_dl, .slice da0 d0.length dc0], rbox (w22.heap.size + 1) 32 (iceC ic), rbox w22.heap.size 29 (froC l (.slice sal l.cov.length scl)), rsl covEnc 3 lo_l hi_l (.slice sal l.cov.length scl) l.cov, rseed sb, rbox (w.heap.size + 1) 32 (iceC x0), rbox w.heap.size 29 (froC l0 (.slice sa0 l0.cov.length sc0)), rsl intEnc 1 0 w.heap.size (.slice na zs.length nc) zs, rsl weaEnc 6 0 w.heap.size (.slice da0 d0.length dc0) d0, rsl covEnc 3 0 w.heap.size (.slice sa0 l0.cov.length sc0) l0.cov, rsl weaEnc 6 ld_dl hd_dl (.slice da_dl dl.length dc_dl) dl] _ := F230.pick [4, 1, 0, 5, 6, 7, 3, 8, 9, 10, 11, 12, 2] (by decide) rfl
            clear F230
            exact ⟨(by first | kernel_rfl | rfl), rfl, wd216.heap.size, w227.heap.size, w227.heap.size + 1, dl, da_dl, dc_dl, ld_dl, hd_dl, (by first | kernel_rfl | rfl), (by first | kernel_rfl | rfl), (by first | kernel_rfl | rfl), (by first | omega | (simp; done) | (simp; omega)), (by first | assumption | omega), HDdl.out, (by first | assumption | omega), (by first | omega | (simp; omega)), F231⟩
          · intro K hK
            go_simp
            have F232 := F228.new 36 #[.slice da0 d0.length dc0, .slice da_dl dl.length dc_dl, .slice da0 d0.length dc0] (n := w227.heap.size) (by simp)
            clear F228
            refine ru_back hK (by exact ⟨F232.cl 8 0 rfl rfl, F232.cl 8 1 rfl rfl, F232.cl 8 2 rfl rfl, F232.cl 8 3 rfl rfl, F232.cl 8 4 rfl rfl, F232.cl 8 5 rfl rfl, F232.cl 8 6 rfl rfl, F232.cl 8 7 rfl rfl, F232.cl 5 0 rfl rfl, F232.cl 5 1 rfl rfl, F232.cl 5 2 rfl rfl, F232.cl 5 3 rfl rfl, F232.cl 5 4 rfl rfl, F232.cl 5 5 rfl rfl, F232.cl 5 6 rfl rfl, F232.cl 5 7 rfl rfl, F232.cl 7 0 rfl rfl, F232.cl 7 1 rfl rfl, F232.cl 7 2 rfl rfl, F232.cl 7 3 rfl rfl, F232.cl 7 4 rfl rfl, F232.cl 7 5 rfl rfl, F232.cl 7 6 rfl rfl, F232.cl 7 7 rfl rfl, F232.cl 4 0 rfl rfl, F232.cl 4 1 rfl rfl, F232.cl 4 2 rfl rfl, F232.cl 4 3 rfl rfl, F232.cl 4 4 rfl rfl, F232.cl 4 5 rfl rfl, F232.cl 4 6 rfl rfl, F232.cl 4 7 rfl rfl⟩) (fun hHeld => ?_)
            clear hK K
            (try simp only [Act.put, List.setIfInBounds_toArray, List.set_cons_zero, List.set_cons_succ])
            refine ru_one 7 rfl (by kernel_rfl) (fun K hK => ?_)
            go_simp
            have F233 := F232.new 32 #[.int .i64 x0.bl.lo, .int .i64 x0.bl.hi, .int .i64 x0.wh.lo, .int .i64 x0.wh.hi, .int .i64 x0.we.lo, .int .i64 x0.we.hi, .int .i64 x0.sn.lo, .int .i64 x0.sn.hi, .int .i64 ic.bl.lo, .int .i64 ic.bl.hi, .int .i64 ic.wh.lo, .int .i64 ic.wh.hi, .int .i64 ic.we.lo, .int .i64 ic.we.hi, .int .i64 ic.sn.lo, .int .i64 ic.sn.hi, .int .i64 ic.bl.lo, .int .i64 ic.bl.hi, .int .i64 ic.wh.lo, .int .i64 ic.wh.hi, .int .i64 ic.we.lo, .int .i64 ic.we.hi, .int .i64 ic.sn.lo, .int .i64 ic.sn.hi] (n := (w227.heap.size + 1)) (by simp)
            clear F232
            refine ru_back hK (by exact ⟨F233.cl 9 0 rfl rfl, F233.cl 9 1 rfl rfl, F233.cl 9 2 rfl rfl, F233.cl 9 3 rfl rfl, F233.cl 9 4 rfl rfl, F233.cl 9 5 rfl rfl, F233.cl 9 6 rfl rfl, F233.cl 9 7 rfl rfl, F233.cl 6 0 rfl rfl, F233.cl 6 1 rfl rfl, F233.cl 6 2 rfl rfl, F233.cl 6 3 rfl rfl, F233.cl 6 4 rfl rfl, F233.cl 6 5 rfl rfl, F233.cl 6 6 rfl rfl, F233.cl 6 7 rfl rfl, F233.cl 8 0 rfl rfl, F233.cl 8 1 rfl rfl, F233.cl 8 2 rfl rfl, F233.cl 8 3 rfl rfl, F233.cl 8 4 rfl rfl, F233.cl 8 5 rfl rfl, F233.cl 8 6 rfl rfl, F233.cl 8 7 rfl rfl, F233.cl 5 0 rfl rfl, F233.cl 5 1 rfl rfl, F233.cl 5 2 rfl rfl, F233.cl 5 3 rfl rfl, F233.cl 5 4 rfl rfl, F233.cl 5 5 rfl rfl, F233.cl 5 6 rfl rfl, F233.cl 5 7 rfl rfl⟩) (fun hHeld => ?_)
            clear hK K
            (try simp only [Act.put, List.setIfInBounds_toArray, List.set_cons_zero, List.set_cons_succ])
            refine ru_pure 14 (v := ?_) rfl (by kernel_rfl) (fun _ _ _ h => h) (fun hd_ => by first | assumption | (exact absurd hd_ (by decide))) (.inl ⟨by first | kernel_rfl | rfl, ?_⟩) ?_
            rotate_left
            · (intro wS hwS; clear hwS; go_simp; (try with_reducible rfl))
            (try simp only [Act.put, List.setIfInBounds_toArray, List.set_cons_zero, List.set_cons_succ])
            refine ru_one 15 rfl (by kernel_rfl) (fun K hK => ?_)
            go_simp
            refine ru_back_late hK (by kernel_rfl) ?_
            clear hK K
            (try simp only [Act.put, List.setIfInBounds_toArray, List.set_cons_zero, List.set_cons_succ])
            refine ru_done (by kernel_rfl) ?_
            have F234 : Bun w [rbox wd216.heap.size 29 #[.int .i64 l0.gr, .int .i64 l0.la, .slice sa0 l0.cov.length sc0, .int .i64 l0.melt.lo, .int .i64 l0.melt.hi, .int .i64 l0.soak, .int .i64 l0.white.lo, .int .i64 l0.white.hi, .int .i64 l.gr, .int .i64 l.la, .slice sal l.cov.length scl, .int .i64 l.melt.lo, .int .i64 l.melt.hi, .int .i64 l.soak, .int .i64 l.white.lo, .int .i64 l.white.hi, .int .i64 l.gr, .int .i64 l.la, .slice sal l.cov.length scl, .int .i64 l.melt.lo, .int .i64 l.melt.hi, .int .i64 l.soak, .int .i64 l.white.lo, .int .i64 l.white.hi], rbox (w227.heap.size + 1) 32 #[.int .i64 x0.bl.lo, .int .i64 x0.bl.hi, .int .i64 x0.wh.lo, .int .i64 x0.wh.hi, .int .i64 x0.we.lo, .int .i64 x0.we.hi, .int .i64 x0.sn.lo, .int .i64 x0.sn.hi, .int .i64 ic.bl.lo, .int .i64 ic.bl.hi, .int .i64 ic.wh.lo, .int .i64 ic.wh.hi, .int .i64 ic.we.lo, .int .i64 ic.we.hi, .int .i64 ic.sn.lo, .int .i64 ic.sn.hi, .int .i64 ic.bl.lo, .int .i64 ic.bl.hi, .int .i64 ic.wh.lo, .int .i64 ic.wh.hi, .int .i64 ic.we.lo, .int .i64 ic.we.hi, .int .i64 ic.sn.lo, .int .i64 ic.sn.hi], rbox w227.heap.size 36 #[.slice da0 d0.length dc0, .slice da_dl dl.length dc_dl, .slice da0 d0.length dc0], rbox (w22.heap.size + 1) 32 (iceC ic), rbox w22.heap.size 29 (froC l (.slice sal l.cov.length scl)), rsl covEnc 3 lo_l hi_l (.slice sal l.cov.length scl) l.cov, rseed sb, rbox (w.heap.size + 1) 32 (iceC x0), rbox w.heap.size 29 (froC l0 (.slice sa0 l0.cov.length sc0)), rsl intEnc 1 0 w.heap.size (.slice na zs.length nc) zs, rsl weaEnc 6 0 w.heap.size (.slice da0 d0.length dc0) d0, rsl covEnc 3 0 w.heap.size (.slice sa0 l0.cov.length sc0) l0.cov, rsl weaEnc 6 ld_dl hd_dl (.slice da_dl dl.length dc_dl) dl] _ := F233.pick [4, 0, 1, 5, 6, 7, 3, 8, 9, 10, 11, 12, 2] (by decide) rfl
            clear F233
            exact ⟨(by first | kernel_rfl | rfl), rfl, wd216.heap.size, w227.heap.size + 1, w227.heap.size, dl, da_dl, dc_dl, ld_dl, hd_dl, (by first | kernel_rfl | rfl), (by first | kernel_rfl | rfl), (by first | kernel_rfl | rfl), (by first | omega | (simp; done) | (simp; omega)), (by first | assumption | omega), HDdl.out, (by first | assumption | omega), (by first | omega | (simp; omega)), F234⟩
      · intro K hK
        go_simp
        have F235 := F214.new 32 #[.int .i64 x0.bl.lo, .int .i64 x0.bl.hi, .int .i64 x0.wh.lo, .int .i64 x0.wh.hi, .int .i64 x0.we.lo, .int .i64 x0.we.hi, .int .i64 x0.sn.lo, .int .i64 x0.sn.hi, .int .i64 ic.bl.lo, .int .i64 ic.bl.hi, .int .i64 ic.wh.lo, .int .i64 ic.wh.hi, .int .i64 ic.we.lo, .int .i64 ic.we.hi, .int .i64 ic.sn.lo, .int .i64 ic.sn.hi, .int .i64 ic.bl.lo, .int .i64 ic.bl.hi, .int .i64 ic.wh.lo, .int .i64 ic.wh.hi, .int .i64 ic.we.lo, .int .i64 ic.we.hi, .int .i64 ic.sn.lo, .int .i64 ic.sn.hi] (n := wd216.heap.size) (by simp)
        clear F214
        refine ru_back hK (by exact ⟨F235.cl 6 0 rfl rfl, F235.cl 6 1 rfl rfl, F235.cl 6 2 rfl rfl, F235.cl 6 3 rfl rfl, F235.cl 6 4 rfl rfl, F235.cl 6 5 rfl rfl, F235.cl 6 6 rfl rfl, F235.cl 6 7 rfl rfl, F235.cl 2 0 rfl rfl, F235.cl 2 1 rfl rfl, F235.cl 2 2 rfl rfl, F235.cl 2 3 rfl rfl, F235.cl 2 4 rfl rfl, F235.cl 2 5 rfl rfl, F235.cl 2 6 rfl rfl, F235.cl 2 7 rfl rfl, F235.cl 5 0 rfl rfl, F235.cl 5 1 rfl rfl, F235.cl 5 2 rfl rfl, F235.cl 5 3 rfl rfl, F235.cl 5 4 rfl rfl, F235.cl 5 5 rfl rfl, F235.cl 5 6 rfl rfl, F235.cl 5 7 rfl rfl, F235.cl 1 0 rfl rfl, F235.cl 1 1 rfl rfl, F235.cl 1 2 rfl rfl, F235.cl 1 3 rfl rfl, F235.cl 1 4 rfl rfl, F235.cl 1 5 rfl rfl, F235.cl 1 6 rfl rfl, F235.cl 1 7 rfl rfl⟩) (fun hHeld => ?_)
        clear hK K
        (try simp only [Act.put, List.setIfInBounds_toArray, List.set_cons_zero, List.set_cons_succ])
        refine ru_two 3 10 rfl rfl (by kernel_rfl) ?_ ?_
        · intro K hK
          go_simp
          have F236 := F235.new 29 #[.int .i64 l0.gr, .int .i64 l0.la, .slice sa0 l0.cov.length sc0, .int .i64 l0.melt.lo, .int .i64 l0.melt.hi, .int .i64 l0.soak, .int .i64 l0.white.lo, .int .i64 l0.white.hi, .int .i64 l.gr, .int .i64 l.la, .slice sal l.cov.length scl, .int .i64 l.melt.lo, .int .i64 l.melt.hi, .int .i64 l.soak, .int .i64 l.white.lo, .int .i64 l.white.hi, .int .i64 l.gr, .int .i64 l.la, .slice sal l.cov.length scl, .int .i64 l.melt.lo, .int .i64 l.melt.hi, .int .i64 l.soak, .int .i64 l.white.lo, .int .i64 l.white.hi] (n := (wd216.heap.size + 1)) (by simp)
          clear F235
          refine ru_back hK (by exact ⟨F236.cl 7 0 rfl rfl, F236.cl 7 1 rfl rfl, F236.cl 7 2 rfl rfl, F236.cl 7 3 rfl rfl, F236.cl 7 4 rfl rfl, F236.cl 7 5 rfl rfl, F236.cl 7 6 rfl rfl, F236.cl 7 7 rfl rfl, F236.cl 3 0 rfl rfl, F236.cl 3 1 rfl rfl, F236.cl 3 2 rfl rfl, F236.cl 3 3 rfl rfl, F236.cl 3 4 rfl rfl, F236.cl 3 5 rfl rfl, F236.cl 3 6 rfl rfl, F236.cl 3 7 rfl rfl, F236.cl 6 0 rfl rfl, F236.cl 6 1 rfl rfl, F236.cl 6 2 rfl rfl, F236.cl 6 3 rfl rfl, F236.cl 6 4 rfl rfl, F236.cl 6 5 rfl rfl, F236.cl 6 6 rfl rfl, F236.cl 6 7 rfl rfl, F236.cl 2 0 rfl rfl, F236.cl 2 1 rfl rfl, F236.cl 2 2 rfl rfl, F236.cl 2 3 rfl rfl, F236.cl 2 4 rfl rfl, F236.cl 2 5 rfl rfl, F236.cl 2 6 rfl rfl, F236.cl 2 7 rfl rfl⟩) (fun hHeld => ?_)
          clear hK K
          (try simp only [Act.put, List.setIfInBounds_toArray, List.set_cons_zero, List.set_cons_succ])
          refine ru_one 10 rfl (by kernel_rfl) (fun K hK => ?_)
          go_simp
          refine (daysOf_s sb 12 false _ ((F236.front 5 rfl rfl).at 0 rfl : SeedAt _ sb) (by omega)).mono ?_
          rintro e w239 ⟨dl, da_dl, dc_dl, ld_dl, hd_dl, rfl, ⟨hdxdl, hdydl, hdcdl⟩, hdzdl, hdndl, hdvdl, hs238, hg237⟩
          have HDdl := Lib.hid hdvdl
          clear hdvdl
          have hg237s := hg237.size
          (try simp at hg237s)
          have F240 := (F236.front 5 rfl rfl).seedAdd (rsl weaEnc 6 ld_dl hd_dl (.slice da_dl dl.length dc_dl) dl) hg237 hs238 (hdzdl) (fun g e => ⟨Nat.le_trans hdxdl e.1, Nat.lt_of_lt_of_le e.2 hdydl⟩)
          clear F236
          refine ru_back hK (by exact ⟨F240.cl 8 0 rfl rfl, F240.cl 8 1 rfl rfl, F240.cl 8 2 rfl rfl, F240.cl 8 3 rfl rfl, F240.cl 8 4 rfl rfl, F240.cl 8 5 rfl rfl, F240.cl 8 6 rfl rfl, F240.cl 8 7 rfl rfl, F240.cl 5 0 rfl rfl, F240.cl 5 1 rfl rfl, F240.cl 5 2 rfl rfl, F240.cl 5 3 rfl rfl, F240.cl 5 4 rfl rfl, F240.cl 5 5 rfl rfl, F240.cl 5 6 rfl rfl, F240.cl 5 7 rfl rfl, F240.cl 7 0 rfl rfl, F240.cl 7 1 rfl rfl, F240.cl 7 2 rfl rfl, F240.cl 7 3 rfl rfl, F240.cl 7 4 rfl rfl, F240.cl 7 5 rfl rfl, F240.cl 7 6 rfl rfl, F240.cl 7 7 rfl rfl, F240.cl 4 0 rfl rfl, F240.cl 4 1 rfl rfl, F240.cl 4 2 rfl rfl, F240.cl 4 3 rfl rfl, F240.cl 4 4 rfl rfl, F240.cl 4 5 rfl rfl, F240.cl 4 6 rfl rfl, F240.cl 4 7 rfl rfl⟩) (fun hHeld => ?_)
          clear hK K
          (try simp only [Act.put, List.setIfInBounds_toArray, List.set_cons_zero, List.set_cons_succ])
          refine ru_pure 13 (v := ?_) rfl (by kernel_rfl) (fun _ _ _ h => h) (fun hd_ => by first | assumption | (exact absurd hd_ (by decide))) (.inl ⟨by first | kernel_rfl | rfl, ?_⟩) ?_
          rotate_left
          · (intro wS hwS; clear hwS; go_simp; (try with_reducible rfl))
          (try simp only [Act.put, List.setIfInBounds_toArray, List.set_cons_zero, List.set_cons_succ])
          refine ru_pure 14 (v := ?_) rfl (by kernel_rfl) (fun _ _ _ h => h) (fun hd_ => by first | assumption | (exact absurd hd_ (by decide))) (.inl ⟨by first | kernel_rfl | rfl, ?_⟩) ?_
          rotate_left
          · (intro wS hwS; clear hwS; go_simp; (try with_reducible rfl))
          (try simp only [Act.put, List.setIfInBounds_toArray, List.set_cons_zero, List.set_cons_succ])
          refine ru_one 12 rfl (by kernel_rfl) (fun K hK => ?_)
          go_simp
          have F241 := F240.new 36 #[.slice da0 d0.length dc0, .slice da_dl dl.length dc_dl, .slice da0 d0.length dc0] (n := w239.heap.size) (by simp)
          clear F240
          refine ru_back hK (by exact ⟨F241.cl 9 0 rfl rfl, F241.cl 9 1 rfl rfl, F241.cl 9 2 rfl rfl, F241.cl 9 3 rfl rfl, F241.cl 9 4 rfl rfl, F241.cl 9 5 rfl rfl, F241.cl 9 6 rfl rfl, F241.cl 9 7 rfl rfl, F241.cl 6 0 rfl rfl, F241.cl 6 1 rfl rfl, F241.cl 6 2 rfl rfl, F241.cl 6 3 rfl rfl, F241.cl 6 4 rfl rfl, F241.cl 6 5 rfl rfl, F241.cl 6 6 rfl rfl, F241.cl 6 7 rfl rfl, F241.cl 8 0 rfl rfl, F241.cl 8 1 rfl rfl, F241.cl 8 2 rfl rfl, F241.cl 8 3 rfl rfl, F241.cl 8 4 rfl rfl, F241.cl 8 5 rfl rfl, F241.cl 8 6 rfl rfl, F241.cl 8 7 rfl rfl, F241.cl 5 0 rfl rfl, F241.cl 5 1 rfl rfl, F241.cl 5 2 rfl rfl, F241.cl 5 3 rfl rfl, F241.cl 5 4 rfl rfl, F241.cl 5 5 rfl rfl, F241.cl 5 6 rfl rfl, F241.cl 5 7 rfl rfl⟩) (fun hHeld => ?_)
          clear hK K
          (try simp only [Act.put, List.setIfInBounds_toArray, List.set_cons_zero, List.set_cons_succ])
          refine ru_one 15 rfl (by kernel_rfl) (fun K hK => ?_)
          go_simp
          refine ru_back_late hK (by kernel_rfl) ?_
          clear hK K
          (try simp only [Act.put, List.setIfInBounds_toArray, List.set_cons_zero, List.set_cons_succ])
          refine ru_done (by kernel_rfl) ?_
          have F242 : Bun w [rbox (wd216.heap.size + 1) 29 #[.int .i64 l0.gr, .int .i64 l0.la, .slice sa0 l0.cov.length sc0, .int .i64 l0.melt.lo, .int .i64 l0.melt.hi, .int .i64 l0.soak, .int .i64 l0.white.lo, .int .i64 l0.white.hi, .int .i64 l.gr, .int .i64 l.la, .slice sal l.cov.length scl, .int .i64 l.melt.lo, .int .i64 l.melt.hi, .int .i64 l.soak, .int .i64 l.white.lo, .int .i64 l.white.hi, .int .i64 l.gr, .int .i64 l.la, .slice sal l.cov.length scl, .int .i64 l.melt.lo, .int .i64 l.melt.hi, .int .i64 l.soak, .int .i64 l.white.lo, .int .i64 l.white.hi], rbox wd216.heap.size 32 #[.int .i64 x0.bl.lo, .int .i64 x0.bl.hi, .int .i64 x0.wh.lo, .int .i64 x0.wh.hi, .int .i64 x0.we.lo, .int .i64 x0.we.hi, .int .i64 x0.sn.lo, .int .i64 x0.sn.hi, .int .i64 ic.bl.lo, .int .i64 ic.bl.hi, .int .i64 ic.wh.lo, .int .i64 ic.wh.hi, .int .i64 ic.we.lo, .int .i64 ic.we.hi, .int .i64 ic.sn.lo, .int .i64 ic.sn.hi, .int .i64 ic.bl.lo, .int .i64 ic.bl.hi, .int .i64 ic.wh.lo, .int .i64 ic.wh.hi, .int .i64 ic.we.lo, .int .i64 ic.we.hi, .int .i64 ic.sn.lo, .int .i64 ic.sn.hi], rbox w239.heap.size 36 #[.slice da0 d0.length dc0, .slice da_dl dl.length dc_dl, .slice da0 d0.length dc0], rbox (w22.heap.size + 1) 32 (iceC ic), rbox w22.heap.size 29 (froC l (.slice sal l.cov.length scl)), rsl covEnc 3 lo_l hi_l (.slice sal l.cov.length scl) l.cov, rseed sb, rbox (w.heap.size + 1) 32 (iceC x0), rbox w.heap.size 29 (froC l0 (.slice sa0 l0.cov.length sc0)), rsl intEnc 1 0 w.heap.size (.slice na zs.length nc) zs, rsl weaEnc 6 0 w.heap.size (.slice da0 d0.length dc0) d0, rsl covEnc 3 0 w.heap.size (.slice sa0 l0.cov.length sc0) l0.cov, rsl weaEnc 6 ld_dl hd_dl (.slice da_dl dl.length dc_dl) dl] _ := F241.pick [3, 4, 0, 5, 6, 7, 2, 8, 9, 10, 11, 12, 1] (by decide) rfl
          clear F241
          exact ⟨(by first | kernel_rfl | rfl), rfl, wd216.heap.size + 1, wd216.heap.size, w239.heap.size, dl, da_dl, dc_dl, ld_dl, hd_dl, (by first | kernel_rfl | rfl), (by first | kernel_rfl | rfl), (by first | kernel_rfl | rfl), (by first | omega | (simp; done) | (simp; omega)), (by first | assumption | omega), HDdl.out, (by first | assumption | omega), (by first | omega | (simp; omega)), F242⟩
        · intro K hK
          go_simp
          refine (daysOf_s sb 12 false _ ((F235.front 4 rfl rfl).at 0 rfl : SeedAt _ sb) (by omega)).mono ?_
          rintro e w245 ⟨dl, da_dl, dc_dl, ld_dl, hd_dl, rfl, ⟨hdxdl, hdydl, hdcdl⟩, hdzdl, hdndl, hdvdl, hs244, hg243⟩
          have HDdl := Lib.hid hdvdl
          clear hdvdl
          have hg243s := hg243.size
          (try simp at hg243s)
          have F246 := (F235.front 4 rfl rfl).seedAdd (rsl weaEnc 6 ld_dl hd_dl (.slice da_dl dl.length dc_dl) dl) hg243 hs244 (hdzdl) (fun g e => ⟨Nat.le_trans hdxdl e.1, Nat.lt_of_lt_of_le e.2 hdydl⟩)
          clear F235
          refine ru_back hK (by exact ⟨F246.cl 7 0 rfl rfl, F246.cl 7 1 rfl rfl, F246.cl 7 2 rfl rfl, F246.cl 7 3 rfl rfl, F246.cl 7 4 rfl rfl, F246.cl 7 5 rfl rfl, F246.cl 7 6 rfl rfl, F246.cl 7 7 rfl rfl, F246.cl 4 0 rfl rfl, F246.cl 4 1 rfl rfl, F246.cl 4 2 rfl rfl, F246.cl 4 3 rfl rfl, F246.cl 4 4 rfl rfl, F246.cl 4 5 rfl rfl, F246.cl 4 6 rfl rfl, F246.cl 4 7 rfl rfl, F246.cl 6 0 rfl rfl, F246.cl 6 1 rfl rfl, F246.cl 6 2 rfl rfl, F246.cl 6 3 rfl rfl, F246.cl 6 4 rfl rfl, F246.cl 6 5 rfl rfl, F246.cl 6 6 rfl rfl, F246.cl 6 7 rfl rfl, F246.cl 3 0 rfl rfl, F246.cl 3 1 rfl rfl, F246.cl 3 2 rfl rfl, F246.cl 3 3 rfl rfl, F246.cl 3 4 rfl rfl, F246.cl 3 5 rfl rfl, F246.cl 3 6 rfl rfl, F246.cl 3 7 rfl rfl⟩) (fun hHeld => ?_)
          clear hK K
          (try simp only [Act.put, List.setIfInBounds_toArray, List.set_cons_zero, List.set_cons_succ])
          refine ru_two 3 12 rfl rfl (by kernel_rfl) ?_ ?_
          · intro K hK
            go_simp
            have F247 := F246.new 29 #[.int .i64 l0.gr, .int .i64 l0.la, .slice sa0 l0.cov.length sc0, .int .i64 l0.melt.lo, .int .i64 l0.melt.hi, .int .i64 l0.soak, .int .i64 l0.white.lo, .int .i64 l0.white.hi, .int .i64 l.gr, .int .i64 l.la, .slice sal l.cov.length scl, .int .i64 l.melt.lo, .int .i64 l.melt.hi, .int .i64 l.soak, .int .i64 l.white.lo, .int .i64 l.white.hi, .int .i64 l.gr, .int .i64 l.la, .slice sal l.cov.length scl, .int .i64 l.melt.lo, .int .i64 l.melt.hi, .int .i64 l.soak, .int .i64 l.white.lo, .int .i64 l.white.hi] (n := w245.heap.size) (by simp)
            clear F246
            refine ru_back hK (by exact ⟨F247.cl 8 0 rfl rfl, F247.cl 8 1 rfl rfl, F247.cl 8 2 rfl rfl, F247.cl 8 3 rfl rfl, F247.cl 8 4 rfl rfl, F247.cl 8 5 rfl rfl, F247.cl 8 6 rfl rfl, F247.cl 8 7 rfl rfl, F247.cl 5 0 rfl rfl, F247.cl 5 1 rfl rfl, F247.cl 5 2 rfl rfl, F247.cl 5 3 rfl rfl, F247.cl 5 4 rfl rfl, F247.cl 5 5 rfl rfl, F247.cl 5 6 rfl rfl, F247.cl 5 7 rfl rfl, F247.cl 7 0 rfl rfl, F247.cl 7 1 rfl rfl, F247.cl 7 2 rfl rfl, F247.cl 7 3 rfl rfl, F247.cl 7 4 rfl rfl, F247.cl 7 5 rfl rfl, F247.cl 7 6 rfl rfl, F247.cl 7 7 rfl rfl, F247.cl 4 0 rfl rfl, F247.cl 4 1 rfl rfl, F247.cl 4 2 rfl rfl, F247.cl 4 3 rfl rfl, F247.cl 4 4 rfl rfl, F247.cl 4 5 rfl rfl, F247.cl 4 6 rfl rfl, F247.cl 4 7 rfl rfl⟩) (fun hHeld => ?_)
            clear hK K
            (try simp only [Act.put, List.setIfInBounds_toArray, List.set_cons_zero, List.set_cons_succ])
            refine ru_pure 13 (v := ?_) rfl (by kernel_rfl) (fun _ _ _ h => h) (fun hd_ => by first | assumption | (exact absurd hd_ (by decide))) (.inl ⟨by first | kernel_rfl | rfl, ?_⟩) ?_
            rotate_left
            · (intro wS hwS; clear hwS; go_simp; (try with_reducible rfl))
            (try simp only [Act.put, List.setIfInBounds_toArray, List.set_cons_zero, List.set_cons_succ])
            refine ru_pure 14 (v := ?_) rfl (by kernel_rfl) (fun _ _ _ h => h) (fun hd_ => by first | assumption | (exact absurd hd_ (by decide))) (.inl ⟨by first | kernel_rfl | rfl, ?_⟩) ?_
            rotate_left
            · (intro wS hwS; clear hwS; go_simp; (try with_reducible rfl))
            (try simp only [Act.put, List.setIfInBounds_toArray, List.set_cons_zero, List.set_cons_succ])
            refine ru_one 12 rfl (by kernel_rfl) (fun K hK => ?_)
            go_simp
            have F248 := F247.new 36 #[.slice da0 d0.length dc0, .slice da_dl dl.length dc_dl, .slice da0 d0.length dc0] (n := (w245.heap.size + 1)) (by simp)
            clear F247
            refine ru_back hK (by exact ⟨F248.cl 9 0 rfl rfl, F248.cl 9 1 rfl rfl, F248.cl 9 2 rfl rfl, F248.cl 9 3 rfl rfl, F248.cl 9 4 rfl rfl, F248.cl 9 5 rfl rfl, F248.cl 9 6 rfl rfl, F248.cl 9 7 rfl rfl, F248.cl 6 0 rfl rfl, F248.cl 6 1 rfl rfl, F248.cl 6 2 rfl rfl, F248.cl 6 3 rfl rfl, F248.cl 6 4 rfl rfl, F248.cl 6 5 rfl rfl, F248.cl 6 6 rfl rfl, F248.cl 6 7 rfl rfl, F248.cl 8 0 rfl rfl, F248.cl 8 1 rfl rfl, F248.cl 8 2 rfl rfl, F248.cl 8 3 rfl rfl, F248.cl 8 4 rfl rfl, F248.cl 8 5 rfl rfl, F248.cl 8 6 rfl rfl, F248.cl 8 7 rfl rfl, F248.cl 5 0 rfl rfl, F248.cl 5 1 rfl rfl, F248.cl 5 2 rfl rfl, F248.cl 5 3 rfl rfl, F248.cl 5 4 rfl rfl, F248.cl 5 5 rfl rfl, F248.cl 5 6 rfl rfl, F248.cl 5 7 rfl rfl⟩) (fun hHeld => ?_)
            clear hK K
            (try simp only [Act.put, List.setIfInBounds_toArray, List.set_cons_zero, List.set_cons_succ])
            refine ru_one 15 rfl (by kernel_rfl) (fun K hK => ?_)
            go_simp
            refine ru_back_late hK (by kernel_rfl) ?_
            clear hK K
            (try simp only [Act.put, List.setIfInBounds_toArray, List.set_cons_zero, List.set_cons_succ])
            refine ru_done (by kernel_rfl) ?_
            have F249 : Bun w [rbox w245.heap.size 29 #[.int .i64 l0.gr, .int .i64 l0.la, .slice sa0 l0.cov.length sc0, .int .i64 l0.melt.lo, .int .i64 l0.melt.hi, .int .i64 l0.soak, .int .i64 l0.white.lo, .int .i64 l0.white.hi, .int .i64 l.gr, .int .i64 l.la, .slice sal l.cov.length scl, .int .i64 l.melt.lo, .int .i64 l.melt.hi, .int .i64 l.soak, .int .i64 l.white.lo, .int .i64 l.white.hi, .int .i64 l.gr, .int .i64 l.la, .slice sal l.cov.length scl, .int .i64 l.melt.lo, .int .i64 l.melt.hi, .int .i64 l.soak, .int .i64 l.white.lo, .int .i64 l.white.hi], rbox wd216.heap.size 32 #[.int .i64 x0.bl.lo, .int .i64 x0.bl.hi, .int .i64 x0.wh.lo, .int .i64 x0.wh.hi, .int .i64 x0.we.lo, .int .i64 x0.we.hi, .int .i64 x0.sn.lo, .int .i64 x0.sn.hi, .int .i64 ic.bl.lo, .int .i64 ic.bl.hi, .int .i64 ic.wh.lo, .int .i64 ic.wh.hi, .int .i64 ic.we.lo, .int .i64 ic.we.hi, .int .i64 ic.sn.lo, .int .i64 ic.sn.hi, .int .i64 ic.bl.lo, .int .i64 ic.bl.hi, .int .i64 ic.wh.lo, .int .i64 ic.wh.hi, .int .i64 ic.we.lo, .int .i64 ic.we.hi, .int .i64 ic.sn.lo, .int .i64 ic.sn.hi], rbox (w245.heap.size + 1) 36 #[.slice da0 d0.length dc0, .slice da_dl dl.length dc_dl, .slice da0 d0.length dc0], rbox (w22.heap.size + 1) 32 (iceC ic), rbox w22.heap.size 29 (froC l (.slice sal l.cov.length scl)), rsl covEnc 3 lo_l hi_l (.slice sal l.cov.length scl) l.cov, rseed sb, rbox (w.heap.size + 1) 32 (iceC x0), rbox w.heap.size 29 (froC l0 (.slice sa0 l0.cov.length sc0)), rsl intEnc 1 0 w.heap.size (.slice na zs.length nc) zs, rsl weaEnc 6 0 w.heap.size (.slice da0 d0.length dc0) d0, rsl covEnc 3 0 w.heap.size (.slice sa0 l0.cov.length sc0) l0.cov, rsl weaEnc 6 ld_dl hd_dl (.slice da_dl dl.length dc_dl) dl] _ := F248.pick [1, 4, 0, 5, 6, 7, 3, 8, 9, 10, 11, 12, 2] (by decide) rfl
            clear F248
            exact ⟨(by first | kernel_rfl | rfl), rfl, w245.heap.size, wd216.heap.size, w245.heap.size + 1, dl, da_dl, dc_dl, ld_dl, hd_dl, (by first | kernel_rfl | rfl), (by first | kernel_rfl | rfl), (by first | kernel_rfl | rfl), (by first | omega | (simp; done) | (simp; omega)), (by first | assumption | omega), HDdl.out, (by first | assumption | omega), (by first | omega | (simp; omega)), F249⟩
          · intro K hK
            go_simp
            have F250 := F246.new 36 #[.slice da0 d0.length dc0, .slice da_dl dl.length dc_dl, .slice da0 d0.length dc0] (n := w245.heap.size) (by simp)
            clear F246
            refine ru_back hK (by exact ⟨F250.cl 8 0 rfl rfl, F250.cl 8 1 rfl rfl, F250.cl 8 2 rfl rfl, F250.cl 8 3 rfl rfl, F250.cl 8 4 rfl rfl, F250.cl 8 5 rfl rfl, F250.cl 8 6 rfl rfl, F250.cl 8 7 rfl rfl, F250.cl 5 0 rfl rfl, F250.cl 5 1 rfl rfl, F250.cl 5 2 rfl rfl, F250.cl 5 3 rfl rfl, F250.cl 5 4 rfl rfl, F250.cl 5 5 rfl rfl, F250.cl 5 6 rfl rfl, F250.cl 5 7 rfl rfl, F250.cl 7 0 rfl rfl, F250.cl 7 1 rfl rfl, F250.cl 7 2 rfl rfl, F250.cl 7 3 rfl rfl, F250.cl 7 4 rfl rfl, F250.cl 7 5 rfl rfl, F250.cl 7 6 rfl rfl, F250.cl 7 7 rfl rfl, F250.cl 4 0 rfl rfl, F250.cl 4 1 rfl rfl, F250.cl 4 2 rfl rfl, F250.cl 4 3 rfl rfl, F250.cl 4 4 rfl rfl, F250.cl 4 5 rfl rfl, F250.cl 4 6 rfl rfl, F250.cl 4 7 rfl rfl⟩) (fun hHeld => ?_)
            clear hK K
            (try simp only [Act.put, List.setIfInBounds_toArray, List.set_cons_zero, List.set_cons_succ])
            refine ru_one 3 rfl (by kernel_rfl) (fun K hK => ?_)
            go_simp
            have F251 := F250.new 29 #[.int .i64 l0.gr, .int .i64 l0.la, .slice sa0 l0.cov.length sc0, .int .i64 l0.melt.lo, .int .i64 l0.melt.hi, .int .i64 l0.soak, .int .i64 l0.white.lo, .int .i64 l0.white.hi, .int .i64 l.gr, .int .i64 l.la, .slice sal l.cov.length scl, .int .i64 l.melt.lo, .int .i64 l.melt.hi, .int .i64 l.soak, .int .i64 l.white.lo, .int .i64 l.white.hi, .int .i64 l.gr, .int .i64 l.la, .slice sal l.cov.length scl, .int .i64 l.melt.lo, .int .i64 l.melt.hi, .int .i64 l.soak, .int .i64 l.white.lo, .int .i64 l.white.hi] (n := (w245.heap.size + 1)) (by simp)
            clear F250
            refine ru_back hK (by exact ⟨F251.cl 9 0 rfl rfl, F251.cl 9 1 rfl rfl, F251.cl 9 2 rfl rfl, F251.cl 9 3 rfl rfl, F251.cl 9 4 rfl rfl, F251.cl 9 5 rfl rfl, F251.cl 9 6 rfl rfl, F251.cl 9 7 rfl rfl, F251.cl 6 0 rfl rfl, F251.cl 6 1 rfl rfl, F251.cl 6 2 rfl rfl, F251.cl 6 3 rfl rfl, F251.cl 6 4 rfl rfl, F251.cl 6 5 rfl rfl, F251.cl 6 6 rfl rfl, F251.cl 6 7 rfl rfl, F251.cl 8 0 rfl rfl, F251.cl 8 1 rfl rfl, F251.cl 8 2 rfl rfl, F251.cl 8 3 rfl rfl, F251.cl 8 4 rfl rfl, F251.cl 8 5 rfl rfl, F251.cl 8 6 rfl rfl, F251.cl 8 7 rfl rfl, F251.cl 5 0 rfl rfl, F251.cl 5 1 rfl rfl, F251.cl 5 2 rfl rfl, F251.cl 5 3 rfl rfl, F251.cl 5 4 rfl rfl, F251.cl 5 5 rfl rfl, F251.cl 5 6 rfl rfl, F251.cl 5 7 rfl rfl⟩) (fun hHeld => ?_)
            clear hK K
            (try simp only [Act.put, List.setIfInBounds_toArray, List.set_cons_zero, List.set_cons_succ])
            refine ru_pure 13 (v := ?_) rfl (by kernel_rfl) (fun _ _ _ h => h) (fun hd_ => by first | assumption | (exact absurd hd_ (by decide))) (.inl ⟨by first | kernel_rfl | rfl, ?_⟩) ?_
            rotate_left
            · (intro wS hwS; clear hwS; go_simp; (try with_reducible rfl))
            (try simp only [Act.put, List.setIfInBounds_toArray, List.set_cons_zero, List.set_cons_succ])
            refine ru_pure 14 (v := ?_) rfl (by kernel_rfl) (fun _ _ _ h => h) (fun hd_ => by first | assumption | (exact absurd hd_ (by decide))) (.inl ⟨by first | kernel_rfl | rfl, ?_⟩) ?_
            rotate_left
            · (intro wS hwS; clear hwS; go_simp; (try with_reducible rfl))
            (try simp only [Act.put, List.setIfInBounds_toArray, List.set_cons_zero, List.set_cons_succ])
            refine ru_one 15 rfl (by kernel_rfl) (fun K hK => ?_)
            go_simp
            refine ru_back_late hK (by kernel_rfl) ?_
            clear hK K
            (try simp only [Act.put, List.setIfInBounds_toArray, List.set_cons_zero, List.set_cons_succ])
            refine ru_done (by kernel_rfl) ?_
            have F252 : Bun w [rbox (w245.heap.size + 1) 29 #[.int .i64 l0.gr, .int .i64 l0.la, .slice sa0 l0.cov.length sc0, .int .i64 l0.melt.lo, .int .i64 l0.melt.hi, .int .i64 l0.soak, .int .i64 l0.white.lo, .int .i64 l0.white.hi, .int .i64 l.gr, .int .i64 l.la, .slice sal l.cov.length scl, .int .i64 l.melt.lo, .int .i64 l.melt.hi, .int .i64 l.soak, .int .i64 l.white.lo, .int .i64 l.white.hi, .int .i64 l.gr, .int .i64 l.la, .slice sal l.cov.length scl, .int .i64 l.melt.lo, .int .i64 l.melt.hi, .int .i64 l.soak, .int .i64 l.white.lo, .int .i64 l.white.hi], rbox wd216.heap.size 32 #[.int .i64 x0.bl.lo, .int .i64 x0.bl.hi, .int .i64 x0.wh.lo, .int .i64 x0.wh.hi, .int .i64 x0.we.lo, .int .i64 x0.we.hi, .int .i64 x0.sn.lo, .int .i64 x0.sn.hi, .int .i64 ic.bl.lo, .int .i64 ic.bl.hi, .int .i64 ic.wh.lo, .int .i64 ic.wh.hi, .int .i64 ic.we.lo, .int .i64 ic.we.hi, .int .i64 ic.sn.lo, .int .i64 ic.sn.hi, .int .i64 ic.bl.lo, .int .i64 ic.bl.hi, .int .i64 ic.wh.lo, .int .i64 ic.wh.hi, .int .i64 ic.we.lo, .int .i64 ic.we.hi, .int .i64 ic.sn.lo, .int .i64 ic.sn.hi], rbox w245.heap.size 36 #[.slice da0 d0.length dc0, .slice da_dl dl.length dc_dl, .slice da0 d0.length dc0], rbox (w22.heap.size + 1) 32 (iceC ic), rbox w22.heap.size 29 (froC l (.slice sal l.cov.length scl)), rsl covEnc 3 lo_l hi_l (.slice sal l.cov.length scl) l.cov, rseed sb, rbox (w.heap.size + 1) 32 (iceC x0), rbox w.heap.size 29 (froC l0 (.slice sa0 l0.cov.length sc0)), rsl intEnc 1 0 w.heap.size (.slice na zs.length nc) zs, rsl weaEnc 6 0 w.heap.size (.slice da0 d0.length dc0) d0, rsl covEnc 3 0 w.heap.size (.slice sa0 l0.cov.length sc0) l0.cov, rsl weaEnc 6 ld_dl hd_dl (.slice da_dl dl.length dc_dl) dl] _ := F251.pick [0, 4, 1, 5, 6, 7, 3, 8, 9, 10, 11, 12, 2] (by decide) rfl
            clear F251
            exact ⟨(by first | kernel_rfl | rfl), rfl, w245.heap.size + 1, wd216.heap.size, w245.heap.size, dl, da_dl, dc_dl, ld_dl, hd_dl, (by first | kernel_rfl | rfl), (by first | kernel_rfl | rfl), (by first | kernel_rfl | rfl), (by first | omega | (simp; done) | (simp; omega)), (by first | assumption | omega), HDdl.out, (by first | assumption | omega), (by first | omega | (simp; omega)), F252⟩
      · intro K hK
        go_simp
        refine (daysOf_s sb 12 false _ ((F214.front 3 rfl rfl).at 0 rfl : SeedAt _ sb) (by omega)).mono ?_
        rintro e w255 ⟨dl, da_dl, dc_dl, ld_dl, hd_dl, rfl, ⟨hdxdl, hdydl, hdcdl⟩, hdzdl, hdndl, hdvdl, hs254, hg253⟩
        have HDdl := Lib.hid hdvdl
        clear hdvdl
        have hg253s := hg253.size
        (try simp at hg253s)
        have F256 := (F214.front 3 rfl rfl).seedAdd (rsl weaEnc 6 ld_dl hd_dl (.slice da_dl dl.length dc_dl) dl) hg253 hs254 (hdzdl) (fun g e => ⟨Nat.le_trans hdxdl e.1, Nat.lt_of_lt_of_le e.2 hdydl⟩)
        clear F214
        refine ru_back hK (by exact ⟨F256.cl 6 0 rfl rfl, F256.cl 6 1 rfl rfl, F256.cl 6 2 rfl rfl, F256.cl 6 3 rfl rfl, F256.cl 6 4 rfl rfl, F256.cl 6 5 rfl rfl, F256.cl 6 6 rfl rfl, F256.cl 6 7 rfl rfl, F256.cl 3 0 rfl rfl, F256.cl 3 1 rfl rfl, F256.cl 3 2 rfl rfl, F256.cl 3 3 rfl rfl, F256.cl 3 4 rfl rfl, F256.cl 3 5 rfl rfl, F256.cl 3 6 rfl rfl, F256.cl 3 7 rfl rfl, F256.cl 5 0 rfl rfl, F256.cl 5 1 rfl rfl, F256.cl 5 2 rfl rfl, F256.cl 5 3 rfl rfl, F256.cl 5 4 rfl rfl, F256.cl 5 5 rfl rfl, F256.cl 5 6 rfl rfl, F256.cl 5 7 rfl rfl, F256.cl 2 0 rfl rfl, F256.cl 2 1 rfl rfl, F256.cl 2 2 rfl rfl, F256.cl 2 3 rfl rfl, F256.cl 2 4 rfl rfl, F256.cl 2 5 rfl rfl, F256.cl 2 6 rfl rfl, F256.cl 2 7 rfl rfl⟩) (fun hHeld => ?_)
        clear hK K
        (try simp only [Act.put, List.setIfInBounds_toArray, List.set_cons_zero, List.set_cons_succ])
        refine ru_three 3 7 12 rfl rfl rfl (by kernel_rfl) ?_ ?_ ?_
        · intro K hK
          go_simp
          have F257 := F256.new 29 #[.int .i64 l0.gr, .int .i64 l0.la, .slice sa0 l0.cov.length sc0, .int .i64 l0.melt.lo, .int .i64 l0.melt.hi, .int .i64 l0.soak, .int .i64 l0.white.lo, .int .i64 l0.white.hi, .int .i64 l.gr, .int .i64 l.la, .slice sal l.cov.length scl, .int .i64 l.melt.lo, .int .i64 l.melt.hi, .int .i64 l.soak, .int .i64 l.white.lo, .int .i64 l.white.hi, .int .i64 l.gr, .int .i64 l.la, .slice sal l.cov.length scl, .int .i64 l.melt.lo, .int .i64 l.melt.hi, .int .i64 l.soak, .int .i64 l.white.lo, .int .i64 l.white.hi] (n := w255.heap.size) (by simp)
          clear F256
          refine ru_back hK (by exact ⟨F257.cl 7 0 rfl rfl, F257.cl 7 1 rfl rfl, F257.cl 7 2 rfl rfl, F257.cl 7 3 rfl rfl, F257.cl 7 4 rfl rfl, F257.cl 7 5 rfl rfl, F257.cl 7 6 rfl rfl, F257.cl 7 7 rfl rfl, F257.cl 4 0 rfl rfl, F257.cl 4 1 rfl rfl, F257.cl 4 2 rfl rfl, F257.cl 4 3 rfl rfl, F257.cl 4 4 rfl rfl, F257.cl 4 5 rfl rfl, F257.cl 4 6 rfl rfl, F257.cl 4 7 rfl rfl, F257.cl 6 0 rfl rfl, F257.cl 6 1 rfl rfl, F257.cl 6 2 rfl rfl, F257.cl 6 3 rfl rfl, F257.cl 6 4 rfl rfl, F257.cl 6 5 rfl rfl, F257.cl 6 6 rfl rfl, F257.cl 6 7 rfl rfl, F257.cl 3 0 rfl rfl, F257.cl 3 1 rfl rfl, F257.cl 3 2 rfl rfl, F257.cl 3 3 rfl rfl, F257.cl 3 4 rfl rfl, F257.cl 3 5 rfl rfl, F257.cl 3 6 rfl rfl, F257.cl 3 7 rfl rfl⟩) (fun hHeld => ?_)
          clear hK K
          (try simp only [Act.put, List.setIfInBounds_toArray, List.set_cons_zero, List.set_cons_succ])
          refine ru_pure 13 (v := ?_) rfl (by kernel_rfl) (fun _ _ _ h => h) (fun hd_ => by first | assumption | (exact absurd hd_ (by decide))) (.inl ⟨by first | kernel_rfl | rfl, ?_⟩) ?_
          rotate_left
          · (intro wS hwS; clear hwS; go_simp; (try with_reducible rfl))
          (try simp only [Act.put, List.setIfInBounds_toArray, List.set_cons_zero, List.set_cons_succ])
          refine ru_two 7 12 rfl rfl (by kernel_rfl) ?_ ?_
          · intro K hK
            go_simp
            have F258 := F257.new 32 #[.int .i64 x0.bl.lo, .int .i64 x0.bl.hi, .int .i64 x0.wh.lo, .int .i64 x0.wh.hi, .int .i64 x0.we.lo, .int .i64 x0.we.hi, .int .i64 x0.sn.lo, .int .i64 x0.sn.hi, .int .i64 ic.bl.lo, .int .i64 ic.bl.hi, .int .i64 ic.wh.lo, .int .i64 ic.wh.hi, .int .i64 ic.we.lo, .int .i64 ic.we.hi, .int .i64 ic.sn.lo, .int .i64 ic.sn.hi, .int .i64 ic.bl.lo, .int .i64 ic.bl.hi, .int .i64 ic.wh.lo, .int .i64 ic.wh.hi, .int .i64 ic.we.lo, .int .i64 ic.we.hi, .int .i64 ic.sn.lo, .int .i64 ic.sn.hi] (n := (w255.heap.size + 1)) (by simp)
            clear F257
            refine ru_back hK (by exact ⟨F258.cl 8 0 rfl rfl, F258.cl 8 1 rfl rfl, F258.cl 8 2 rfl rfl, F258.cl 8 3 rfl rfl, F258.cl 8 4 rfl rfl, F258.cl 8 5 rfl rfl, F258.cl 8 6 rfl rfl, F258.cl 8 7 rfl rfl, F258.cl 5 0 rfl rfl, F258.cl 5 1 rfl rfl, F258.cl 5 2 rfl rfl, F258.cl 5 3 rfl rfl, F258.cl 5 4 rfl rfl, F258.cl 5 5 rfl rfl, F258.cl 5 6 rfl rfl, F258.cl 5 7 rfl rfl, F258.cl 7 0 rfl rfl, F258.cl 7 1 rfl rfl, F258.cl 7 2 rfl rfl, F258.cl 7 3 rfl rfl, F258.cl 7 4 rfl rfl, F258.cl 7 5 rfl rfl, F258.cl 7 6 rfl rfl, F258.cl 7 7 rfl rfl, F258.cl 4 0 rfl rfl, F258.cl 4 1 rfl rfl, F258.cl 4 2 rfl rfl, F258.cl 4 3 rfl rfl, F258.cl 4 4 rfl rfl, F258.cl 4 5 rfl rfl, F258.cl 4 6 rfl rfl, F258.cl 4 7 rfl rfl⟩) (fun hHeld => ?_)
            clear hK K
            (try simp only [Act.put, List.setIfInBounds_toArray, List.set_cons_zero, List.set_cons_succ])
            refine ru_pure 14 (v := ?_) rfl (by kernel_rfl) (fun _ _ _ h => h) (fun hd_ => by first | assumption | (exact absurd hd_ (by decide))) (.inl ⟨by first | kernel_rfl | rfl, ?_⟩) ?_
            rotate_left
            · (intro wS hwS; clear hwS; go_simp; (try with_reducible rfl))
            (try simp only [Act.put, List.setIfInBounds_toArray, List.set_cons_zero, List.set_cons_succ])
            refine ru_one 12 rfl (by kernel_rfl) (fun K hK => ?_)
            go_simp
            have F259 := F258.new 36 #[.slice da0 d0.length dc0, .slice da_dl dl.length dc_dl, .slice da0 d0.length dc0] (n := (w255.heap.size + 2)) (by simp)
            clear F258
            refine ru_back hK (by exact ⟨F259.cl 9 0 rfl rfl, F259.cl 9 1 rfl rfl, F259.cl 9 2 rfl rfl, F259.cl 9 3 rfl rfl, F259.cl 9 4 rfl rfl, F259.cl 9 5 rfl rfl, F259.cl 9 6 rfl rfl, F259.cl 9 7 rfl rfl, F259.cl 6 0 rfl rfl, F259.cl 6 1 rfl rfl, F259.cl 6 2 rfl rfl, F259.cl 6 3 rfl rfl, F259.cl 6 4 rfl rfl, F259.cl 6 5 rfl rfl, F259.cl 6 6 rfl rfl, F259.cl 6 7 rfl rfl, F259.cl 8 0 rfl rfl, F259.cl 8 1 rfl rfl, F259.cl 8 2 rfl rfl, F259.cl 8 3 rfl rfl, F259.cl 8 4 rfl rfl, F259.cl 8 5 rfl rfl, F259.cl 8 6 rfl rfl, F259.cl 8 7 rfl rfl, F259.cl 5 0 rfl rfl, F259.cl 5 1 rfl rfl, F259.cl 5 2 rfl rfl, F259.cl 5 3 rfl rfl, F259.cl 5 4 rfl rfl, F259.cl 5 5 rfl rfl, F259.cl 5 6 rfl rfl, F259.cl 5 7 rfl rfl⟩) (fun hHeld => ?_)
            clear hK K
            (try simp only [Act.put, List.setIfInBounds_toArray, List.set_cons_zero, List.set_cons_succ])
            refine ru_one 15 rfl (by kernel_rfl) (fun K hK => ?_)
            go_simp
            refine ru_back_late hK (by kernel_rfl) ?_
            clear hK K
            (try simp only [Act.put, List.setIfInBounds_toArray, List.set_cons_zero, List.set_cons_succ])
            refine ru_done (by kernel_rfl) ?_
            have F260 : Bun w [rbox w255.heap.size 29 #[.int .i64 l0.gr, .int .i64 l0.la, .slice sa0 l0.cov.length sc0, .int .i64 l0.melt.lo, .int .i64 l0.melt.hi, .int .i64 l0.soak, .int .i64 l0.white.lo, .int .i64 l0.white.hi, .int .i64 l.gr, .int .i64 l.la, .slice sal l.cov.length scl, .int .i64 l.melt.lo, .int .i64 l.melt.hi, .int .i64 l.soak, .int .i64 l.white.lo, .int .i64 l.white.hi, .int .i64 l.gr, .int .i64 l.la, .slice sal l.cov.length scl, .int .i64 l.melt.lo, .int .i64 l.melt.hi, .int .i64 l.soak, .int .i64 l.white.lo, .int .i64 l.white.hi], rbox (w255.heap.size + 1) 32 #[.int .i64 x0.bl.lo, .int .i64 x0.bl.hi, .int .i64 x0.wh.lo, .int .i64 x0.wh.hi, .int .i64 x0.we.lo, .int .i64 x0.we.hi, .int .i64 x0.sn.lo, .int .i64 x0.sn.hi, .int .i64 ic.bl.lo, .int .i64 ic.bl.hi, .int .i64 ic.wh.lo, .int .i64 ic.wh.hi, .int .i64 ic.we.lo, .int .i64 ic.we.hi, .int .i64 ic.sn.lo, .int .i64 ic.sn.hi, .int .i64 ic.bl.lo, .int .i64 ic.bl.hi, .int .i64 ic.wh.lo, .int .i64 ic.wh.hi, .int .i64 ic.we.lo, .int .i64 ic.we.hi, .int .i64 ic.sn.lo, .int .i64 ic.sn.hi], rbox (w255.heap.size + 2) 36 #[.slice da0 d0.length dc0, .slice da_dl dl.length dc_dl, .slice da0 d0.length dc0], rbox (w22.heap.size + 1) 32 (iceC ic), rbox w22.heap.size 29 (froC l (.slice sal l.cov.length scl)), rsl covEnc 3 lo_l hi_l (.slice sal l.cov.length scl) l.cov, rseed sb, rbox (w.heap.size + 1) 32 (iceC x0), rbox w.heap.size 29 (froC l0 (.slice sa0 l0.cov.length sc0)), rsl intEnc 1 0 w.heap.size (.slice na zs.length nc) zs, rsl weaEnc 6 0 w.heap.size (.slice da0 d0.length dc0) d0, rsl covEnc 3 0 w.heap.size (.slice sa0 l0.cov.length sc0) l0.cov, rsl weaEnc 6 ld_dl hd_dl (.slice da_dl dl.length dc_dl) dl] _ := F259.pick [2, 1, 0, 5, 6, 7, 4, 8, 9, 10, 11, 12, 3] (by decide) rfl
            clear F259
            exact ⟨(by first | kernel_rfl | rfl), rfl, w255.heap.size, w255.heap.size + 1, w255.heap.size + 2, dl, da_dl, dc_dl, ld_dl, hd_dl, (by first | kernel_rfl | rfl), (by first | kernel_rfl | rfl), (by first | kernel_rfl | rfl), (by first | omega | (simp; done) | (simp; omega)), (by first | assumption | omega), HDdl.out, (by first | assumption | omega), (by first | omega | (simp; omega)), F260⟩
          · intro K hK
            go_simp
            have F261 := F257.new 36 #[.slice da0 d0.length dc0, .slice da_dl dl.length dc_dl, .slice da0 d0.length dc0] (n := (w255.heap.size + 1)) (by simp)
            clear F257
            refine ru_back hK (by exact ⟨F261.cl 8 0 rfl rfl, F261.cl 8 1 rfl rfl, F261.cl 8 2 rfl rfl, F261.cl 8 3 rfl rfl, F261.cl 8 4 rfl rfl, F261.cl 8 5 rfl rfl, F261.cl 8 6 rfl rfl, F261.cl 8 7 rfl rfl, F261.cl 5 0 rfl rfl, F261.cl 5 1 rfl rfl, F261.cl 5 2 rfl rfl, F261.cl 5 3 rfl rfl, F261.cl 5 4 rfl rfl, F261.cl 5 5 rfl rfl, F261.cl 5 6 rfl rfl, F261.cl 5 7 rfl rfl, F261.cl 7 0 rfl rfl, F261.cl 7 1 rfl rfl, F261.cl 7 2 rfl rfl, F261.cl 7 3 rfl rfl, F261.cl 7 4 rfl rfl, F261.cl 7 5 rfl rfl, F261.cl 7 6 rfl rfl, F261.cl 7 7 rfl rfl, F261.cl 4 0 rfl rfl, F261.cl 4 1 rfl rfl, F261.cl 4 2 rfl rfl, F261.cl 4 3 rfl rfl, F261.cl 4 4 rfl rfl, F261.cl 4 5 rfl rfl, F261.cl 4 6 rfl rfl, F261.cl 4 7 rfl rfl⟩) (fun hHeld => ?_)
            clear hK K
            (try simp only [Act.put, List.setIfInBounds_toArray, List.set_cons_zero, List.set_cons_succ])
            refine ru_one 7 rfl (by kernel_rfl) (fun K hK => ?_)
            go_simp
            have F262 := F261.new 32 #[.int .i64 x0.bl.lo, .int .i64 x0.bl.hi, .int .i64 x0.wh.lo, .int .i64 x0.wh.hi, .int .i64 x0.we.lo, .int .i64 x0.we.hi, .int .i64 x0.sn.lo, .int .i64 x0.sn.hi, .int .i64 ic.bl.lo, .int .i64 ic.bl.hi, .int .i64 ic.wh.lo, .int .i64 ic.wh.hi, .int .i64 ic.we.lo, .int .i64 ic.we.hi, .int .i64 ic.sn.lo, .int .i64 ic.sn.hi, .int .i64 ic.bl.lo, .int .i64 ic.bl.hi, .int .i64 ic.wh.lo, .int .i64 ic.wh.hi, .int .i64 ic.we.lo, .int .i64 ic.we.hi, .int .i64 ic.sn.lo, .int .i64 ic.sn.hi] (n := (w255.heap.size + 2)) (by simp)
            clear F261
            refine ru_back hK (by exact ⟨F262.cl 9 0 rfl rfl, F262.cl 9 1 rfl rfl, F262.cl 9 2 rfl rfl, F262.cl 9 3 rfl rfl, F262.cl 9 4 rfl rfl, F262.cl 9 5 rfl rfl, F262.cl 9 6 rfl rfl, F262.cl 9 7 rfl rfl, F262.cl 6 0 rfl rfl, F262.cl 6 1 rfl rfl, F262.cl 6 2 rfl rfl, F262.cl 6 3 rfl rfl, F262.cl 6 4 rfl rfl, F262.cl 6 5 rfl rfl, F262.cl 6 6 rfl rfl, F262.cl 6 7 rfl rfl, F262.cl 8 0 rfl rfl, F262.cl 8 1 rfl rfl, F262.cl 8 2 rfl rfl, F262.cl 8 3 rfl rfl, F262.cl 8 4 rfl rfl, F262.cl 8 5 rfl rfl, F262.cl 8 6 rfl rfl, F262.cl 8 7 rfl rfl, F262.cl 5 0 rfl rfl, F262.cl 5 1 rfl rfl, F262.cl 5 2 rfl rfl, F262.cl 5 3 rfl rfl, F262.cl 5 4 rfl rfl, F262.cl 5 5 rfl rfl, F262.cl 5 6 rfl rfl, F262.cl 5 7 rfl rfl⟩) (fun hHeld => ?_)
            clear hK K
            (try simp only [Act.put, List.setIfInBounds_toArray, List.set_cons_zero, List.set_cons_succ])
            refine ru_pure 14 (v := ?_) rfl (by kernel_rfl) (fun _ _ _ h => h) (fun hd_ => by first | assumption | (exact absurd hd_ (by decide))) (.inl ⟨by first | kernel_rfl | rfl, ?_⟩) ?_
            rotate_left
            · (intro wS hwS; clear hwS; go_simp; (try with_reducible rfl))
            (try simp only [Act.put, List.setIfInBounds_toArray, List.set_cons_zero, List.set_cons_succ])
            refine ru_one 15 rfl (by kernel_rfl) (fun K hK => ?_)
            go_simp
            refine ru_back_late hK (by kernel_rfl) ?_
            clear hK K
            (try simp only [Act.put, List.setIfInBounds_toArray, List.set_cons_zero, List.set_cons_succ])
            refine ru_done (by kernel_rfl) ?_
            have F263 : Bun w [rbox w255.heap.size 29 #[.int .i64 l0.gr, .int .i64 l0.la, .slice sa0 l0.cov.length sc0, .int .i64 l0.melt.lo, .int .i64 l0.melt.hi, .int .i64 l0.soak, .int .i64 l0.white.lo, .int .i64 l0.white.hi, .int .i64 l.gr, .int .i64 l.la, .slice sal l.cov.length scl, .int .i64 l.melt.lo, .int .i64 l.melt.hi, .int .i64 l.soak, .int .i64 l.white.lo, .int .i64 l.white.hi, .int .i64 l.gr, .int .i64 l.la, .slice sal l.cov.length scl, .int .i64 l.melt.lo, .int .i64 l.melt.hi, .int .i64 l.soak, .int .i64 l.white.lo, .int .i64 l.white.hi], rbox (w255.heap.size + 2) 32 #[.int .i64 x0.bl.lo, .int .i64 x0.bl.hi, .int .i64 x0.wh.lo, .int .i64 x0.wh.hi, .int .i64 x0.we.lo, .int .i64 x0.we.hi, .int .i64 x0.sn.lo, .int .i64 x0.sn.hi, .int .i64 ic.bl.lo, .int .i64 ic.bl.hi, .int .i64 ic.wh.lo, .int .i64 ic.wh.hi, .int .i64 ic.we.lo, .int .i64 ic.we.hi, .int .i64 ic.sn.lo, .int .i64 ic.sn.hi, .int .i64 ic.bl.lo, .int .i64 ic.bl.hi, .int .i64 ic.wh.lo, .int .i64 ic.wh.hi, .int .i64 ic.we.lo, .int .i64 ic.we.hi, .int .i64 ic.sn.lo, .int .i64 ic.sn.hi], rbox (w255.heap.size + 1) 36 #[.slice da0 d0.length dc0, .slice da_dl dl.length dc_dl, .slice da0 d0.length dc0], rbox (w22.heap.size + 1) 32 (iceC ic), rbox w22.heap.size 29 (froC l (.slice sal l.cov.length scl)), rsl covEnc 3 lo_l hi_l (.slice sal l.cov.length scl) l.cov, rseed sb, rbox (w.heap.size + 1) 32 (iceC x0), rbox w.heap.size 29 (froC l0 (.slice sa0 l0.cov.length sc0)), rsl intEnc 1 0 w.heap.size (.slice na zs.length nc) zs, rsl weaEnc 6 0 w.heap.size (.slice da0 d0.length dc0) d0, rsl covEnc 3 0 w.heap.size (.slice sa0 l0.cov.length sc0) l0.cov, rsl weaEnc 6 ld_dl hd_dl (.slice da_dl dl.length dc_dl) dl] _ := F262.pick [2, 0, 1, 5, 6, 7, 4, 8, 9, 10, 11, 12, 3] (by decide) rfl
            clear F262
            exact ⟨(by first | kernel_rfl | rfl), rfl, w255.heap.size, w255.heap.size + 2, w255.heap.size + 1, dl, da_dl, dc_dl, ld_dl, hd_dl, (by first | kernel_rfl | rfl), (by first | kernel_rfl | rfl), (by first | kernel_rfl | rfl), (by first | omega | (simp; done) | (simp; omega)), (by first | assumption | omega), HDdl.out, (by first | assumption | omega), (by first | omega | (simp; omega)), F263⟩
        · intro K hK
          go_simp
          have F264 := F256.new 32 #[.int .i64 x0.bl.lo, .int .i64 x0.bl.hi, .int .i64 x0.wh.lo, .int .i64 x0.wh.hi, .int .i64 x0.we.lo, .int .i64 x0.we.hi, .int .i64 x0.sn.lo, .int .i64 x0.sn.hi, .int .i64 ic.bl.lo, .int .i64 ic.bl.hi, .int .i64 ic.wh.lo, .int .i64 ic.wh.hi, .int .i64 ic.we.lo, .int .i64 ic.we.hi, .int .i64 ic.sn.lo, .int .i64 ic.sn.hi, .int .i64 ic.bl.lo, .int .i64 ic.bl.hi, .int .i64 ic.wh.lo, .int .i64 ic.wh.hi, .int .i64 ic.we.lo, .int .i64 ic.we.hi, .int .i64 ic.sn.lo, .int .i64 ic.sn.hi] (n := w255.heap.size) (by simp)
          clear F256
          refine ru_back hK (by exact ⟨F264.cl 7 0 rfl rfl, F264.cl 7 1 rfl rfl, F264.cl 7 2 rfl rfl, F264.cl 7 3 rfl rfl, F264.cl 7 4 rfl rfl, F264.cl 7 5 rfl rfl, F264.cl 7 6 rfl rfl, F264.cl 7 7 rfl rfl, F264.cl 4 0 rfl rfl, F264.cl 4 1 rfl rfl, F264.cl 4 2 rfl rfl, F264.cl 4 3 rfl rfl, F264.cl 4 4 rfl rfl, F264.cl 4 5 rfl rfl, F264.cl 4 6 rfl rfl, F264.cl 4 7 rfl rfl, F264.cl 6 0 rfl rfl, F264.cl 6 1 rfl rfl, F264.cl 6 2 rfl rfl, F264.cl 6 3 rfl rfl, F264.cl 6 4 rfl rfl, F264.cl 6 5 rfl rfl, F264.cl 6 6 rfl rfl, F264.cl 6 7 rfl rfl, F264.cl 3 0 rfl rfl, F264.cl 3 1 rfl rfl, F264.cl 3 2 rfl rfl, F264.cl 3 3 rfl rfl, F264.cl 3 4 rfl rfl, F264.cl 3 5 rfl rfl, F264.cl 3 6 rfl rfl, F264.cl 3 7 rfl rfl⟩) (fun hHeld => ?_)
          clear hK K
          (try simp only [Act.put, List.setIfInBounds_toArray, List.set_cons_zero, List.set_cons_succ])
          refine ru_two 3 12 rfl rfl (by kernel_rfl) ?_ ?_
          · intro K hK
            go_simp
            have F265 := F264.new 29 #[.int .i64 l0.gr, .int .i64 l0.la, .slice sa0 l0.cov.length sc0, .int .i64 l0.melt.lo, .int .i64 l0.melt.hi, .int .i64 l0.soak, .int .i64 l0.white.lo, .int .i64 l0.white.hi, .int .i64 l.gr, .int .i64 l.la, .slice sal l.cov.length scl, .int .i64 l.melt.lo, .int .i64 l.melt.hi, .int .i64 l.soak, .int .i64 l.white.lo, .int .i64 l.white.hi, .int .i64 l.gr, .int .i64 l.la, .slice sal l.cov.length scl, .int .i64 l.melt.lo, .int .i64 l.melt.hi, .int .i64 l.soak, .int .i64 l.white.lo, .int .i64 l.white.hi] (n := (w255.heap.size + 1)) (by simp)
            clear F264
            refine ru_back hK (by exact ⟨F265.cl 8 0 rfl rfl, F265.cl 8 1 rfl rfl, F265.cl 8 2 rfl rfl, F265.cl 8 3 rfl rfl, F265.cl 8 4 rfl rfl, F265.cl 8 5 rfl rfl, F265.cl 8 6 rfl rfl, F265.cl 8 7 rfl rfl, F265.cl 5 0 rfl rfl, F265.cl 5 1 rfl rfl, F265.cl 5 2 rfl rfl, F265.cl 5 3 rfl rfl, F265.cl 5 4 rfl rfl, F265.cl 5 5 rfl rfl, F265.cl 5 6 rfl rfl, F265.cl 5 7 rfl rfl, F265.cl 7 0 rfl rfl, F265.cl 7 1 rfl rfl, F265.cl 7 2 rfl rfl, F265.cl 7 3 rfl rfl, F265.cl 7 4 rfl rfl, F265.cl 7 5 rfl rfl, F265.cl 7 6 rfl rfl, F265.cl 7 7 rfl rfl, F265.cl 4 0 rfl rfl, F265.cl 4 1 rfl rfl, F265.cl 4 2 rfl rfl, F265.cl 4 3 rfl rfl, F265.cl 4 4 rfl rfl, F265.cl 4 5 rfl rfl, F265.cl 4 6 rfl rfl, F265.cl 4 7 rfl rfl⟩) (fun hHeld => ?_)
            clear hK K
            (try simp only [Act.put, List.setIfInBounds_toArray, List.set_cons_zero, List.set_cons_succ])
            refine ru_pure 13 (v := ?_) rfl (by kernel_rfl) (fun _ _ _ h => h) (fun hd_ => by first | assumption | (exact absurd hd_ (by decide))) (.inl ⟨by first | kernel_rfl | rfl, ?_⟩) ?_
            rotate_left
            · (intro wS hwS; clear hwS; go_simp; (try with_reducible rfl))
            (try simp only [Act.put, List.setIfInBounds_toArray, List.set_cons_zero, List.set_cons_succ])
            refine ru_pure 14 (v := ?_) rfl (by kernel_rfl) (fun _ _ _ h => h) (fun hd_ => by first | assumption | (exact absurd hd_ (by decide))) (.inl ⟨by first | kernel_rfl | rfl, ?_⟩) ?_
            rotate_left
            · (intro wS hwS; clear hwS; go_simp; (try with_reducible rfl))
            (try simp only [Act.put, List.setIfInBounds_toArray, List.set_cons_zero, List.set_cons_succ])
            refine ru_one 12 rfl (by kernel_rfl) (fun K hK => ?_)
            go_simp
            have F266 := F265.new 36 #[.slice da0 d0.length dc0, .slice da_dl dl.length dc_dl, .slice da0 d0.length dc0] (n := (w255.heap.size + 2)) (by simp)
            clear F265
            refine ru_back hK (by exact ⟨F266.cl 9 0 rfl rfl, F266.cl 9 1 rfl rfl, F266.cl 9 2 rfl rfl, F266.cl 9 3 rfl rfl, F266.cl 9 4 rfl rfl, F266.cl 9 5 rfl rfl, F266.cl 9 6 rfl rfl, F266.cl 9 7 rfl rfl, F266.cl 6 0 rfl rfl, F266.cl 6 1 rfl rfl, F266.cl 6 2 rfl rfl, F266.cl 6 3 rfl rfl, F266.cl 6 4 rfl rfl, F266.cl 6 5 rfl rfl, F266.cl 6 6 rfl rfl, F266.cl 6 7 rfl rfl, F266.cl 8 0 rfl rfl, F266.cl 8 1 rfl rfl, F266.cl 8 2 rfl rfl, F266.cl 8 3 rfl rfl, F266.cl 8 4 rfl rfl, F266.cl 8 5 rfl rfl, F266.cl 8 6 rfl rfl, F266.cl 8 7 rfl rfl, F266.cl 5 0 rfl rfl, F266.cl 5 1 rfl rfl, F266.cl 5 2 rfl rfl, F266.cl 5 3 rfl rfl, F266.cl 5 4 rfl rfl, F266.cl 5 5 rfl rfl, F266.cl 5 6 rfl rfl, F266.cl 5 7 rfl rfl⟩) (fun hHeld => ?_)
            clear hK K
            (try simp only [Act.put, List.setIfInBounds_toArray, List.set_cons_zero, List.set_cons_succ])
            refine ru_one 15 rfl (by kernel_rfl) (fun K hK => ?_)
            go_simp
            refine ru_back_late hK (by kernel_rfl) ?_
            clear hK K
            (try simp only [Act.put, List.setIfInBounds_toArray, List.set_cons_zero, List.set_cons_succ])
            refine ru_done (by kernel_rfl) ?_
            have F267 : Bun w [rbox (w255.heap.size + 1) 29 #[.int .i64 l0.gr, .int .i64 l0.la, .slice sa0 l0.cov.length sc0, .int .i64 l0.melt.lo, .int .i64 l0.melt.hi, .int .i64 l0.soak, .int .i64 l0.white.lo, .int .i64 l0.white.hi, .int .i64 l.gr, .int .i64 l.la, .slice sal l.cov.length scl, .int .i64 l.melt.lo, .int .i64 l.melt.hi, .int .i64 l.soak, .int .i64 l.white.lo, .int .i64 l.white.hi, .int .i64 l.gr, .int .i64 l.la, .slice sal l.cov.length scl, .int .i64 l.melt.lo, .int .i64 l.melt.hi, .int .i64 l.soak, .int .i64 l.white.lo, .int .i64 l.white.hi], rbox w255.heap.size 32 #[.int .i64 x0.bl.lo, .int .i64 x0.bl.hi, .int .i64 x0.wh.lo, .int .i64 x0.wh.hi, .int .i64 x0.we.lo, .int .i64 x0.we.hi, .int .i64 x0.sn.lo, .int .i64 x0.sn.hi, .int .i64 ic.bl.lo, .int .i64 ic.bl.hi, .int .i64 ic.wh.lo, .int .i64 ic.wh.hi, .int .i64 ic.we.lo, .int .i64 ic.we.hi, .int .i64 ic.sn.lo, .int .i64 ic.sn.hi, .int .i64 ic.bl.lo, .int .i64 ic.bl.hi, .int .i64 ic.wh.lo, .int .i64 ic.wh.hi, .int .i64 ic.we.lo, .int .i64 ic.we.hi, .int .i64 ic.sn.lo, .int .i64 ic.sn.hi], rbox (w255.heap.size + 2) 36 #[.slice da0 d0.length dc0, .slice da_dl dl.length dc_dl, .slice da0 d0.length dc0], rbox (w22.heap.size + 1) 32 (iceC ic), rbox w22.heap.size 29 (froC l (.slice sal l.cov.length scl)), rsl covEnc 3 lo_l hi_l (.slice sal l.cov.length scl) l.cov, rseed sb, rbox (w.heap.size + 1) 32 (iceC x0), rbox w.heap.size 29 (froC l0 (.slice sa0 l0.cov.length sc0)), rsl intEnc 1 0 w.heap.size (.slice na zs.length nc) zs, rsl weaEnc 6 0 w.heap.size (.slice da0 d0.length dc0) d0, rsl covEnc 3 0 w.heap.size (.slice sa0 l0.cov.length sc0) l0.cov, rsl weaEnc 6 ld_dl hd_dl (.slice da_dl dl.length dc_dl) dl] _ := F266.pick [1, 2, 0, 5, 6, 7, 4, 8, 9, 10, 11, 12, 3] (by decide) rfl
            clear F266
            exact ⟨(by first | kernel_rfl | rfl), rfl, w255.heap.size + 1, w255.heap.size, w255.heap.size + 2, dl, da_dl, dc_dl, ld_dl, hd_dl, (by first | kernel_rfl | rfl), (by first | kernel_rfl | rfl), (by first | kernel_rfl | rfl), (by first | omega | (simp; done) | (simp; omega)), (by first | assumption | omega), HDdl.out, (by first | assumption | omega), (by first | omega | (simp; omega)), F267⟩
          · intro K hK
            go_simp
            have F268 := F264.new 36 #[.slice da0 d0.length dc0, .slice da_dl dl.length dc_dl, .slice da0 d0.length dc0] (n := (w255.heap.size + 1)) (by simp)
            clear F264
            refine ru_back hK (by exact ⟨F268.cl 8 0 rfl rfl, F268.cl 8 1 rfl rfl, F268.cl 8 2 rfl rfl, F268.cl 8 3 rfl rfl, F268.cl 8 4 rfl rfl, F268.cl 8 5 rfl rfl, F268.cl 8 6 rfl rfl, F268.cl 8 7 rfl rfl, F268.cl 5 0 rfl rfl, F268.cl 5 1 rfl rfl, F268.cl 5 2 rfl rfl, F268.cl 5 3 rfl rfl, F268.cl 5 4 rfl rfl, F268.cl 5 5 rfl rfl, F268.cl 5 6 rfl rfl, F268.cl 5 7 rfl rfl, F268.cl 7 0 rfl rfl, F268.cl 7 1 rfl rfl, F268.cl 7 2 rfl rfl, F268.cl 7 3 rfl rfl, F268.cl 7 4 rfl rfl, F268.cl 7 5 rfl rfl, F268.cl 7 6 rfl rfl, F268.cl 7 7 rfl rfl, F268.cl 4 0 rfl rfl, F268.cl 4 1 rfl rfl, F268.cl 4 2 rfl rfl, F268.cl 4 3 rfl rfl, F268.cl 4 4 rfl rfl, F268.cl 4 5 rfl rfl, F268.cl 4 6 rfl rfl, F268.cl 4 7 rfl rfl⟩) (fun hHeld => ?_)
            clear hK K
            (try simp only [Act.put, List.setIfInBounds_toArray, List.set_cons_zero, List.set_cons_succ])
            refine ru_one 3 rfl (by kernel_rfl) (fun K hK => ?_)
            go_simp
            have F269 := F268.new 29 #[.int .i64 l0.gr, .int .i64 l0.la, .slice sa0 l0.cov.length sc0, .int .i64 l0.melt.lo, .int .i64 l0.melt.hi, .int .i64 l0.soak, .int .i64 l0.white.lo, .int .i64 l0.white.hi, .int .i64 l.gr, .int .i64 l.la, .slice sal l.cov.length scl, .int .i64 l.melt.lo, .int .i64 l.melt.hi, .int .i64 l.soak, .int .i64 l.white.lo, .int .i64 l.white.hi, .int .i64 l.gr, .int .i64 l.la, .slice sal l.cov.length scl, .int .i64 l.melt.lo, .int .i64 l.melt.hi, .int .i64 l.soak, .int .i64 l.white.lo, .int .i64 l.white.hi] (n := (w255.heap.size + 2)) (by simp)
            clear F268
            refine ru_back hK (by exact ⟨F269.cl 9 0 rfl rfl, F269.cl 9 1 rfl rfl, F269.cl 9 2 rfl rfl, F269.cl 9 3 rfl rfl, F269.cl 9 4 rfl rfl, F269.cl 9 5 rfl rfl, F269.cl 9 6 rfl rfl, F269.cl 9 7 rfl rfl, F269.cl 6 0 rfl rfl, F269.cl 6 1 rfl rfl, F269.cl 6 2 rfl rfl, F269.cl 6 3 rfl rfl, F269.cl 6 4 rfl rfl, F269.cl 6 5 rfl rfl, F269.cl 6 6 rfl rfl, F269.cl 6 7 rfl rfl, F269.cl 8 0 rfl rfl, F269.cl 8 1 rfl rfl, F269.cl 8 2 rfl rfl, F269.cl 8 3 rfl rfl, F269.cl 8 4 rfl rfl, F269.cl 8 5 rfl rfl, F269.cl 8 6 rfl rfl, F269.cl 8 7 rfl rfl, F269.cl 5 0 rfl rfl, F269.cl 5 1 rfl rfl, F269.cl 5 2 rfl rfl, F269.cl 5 3 rfl rfl, F269.cl 5 4 rfl rfl, F269.cl 5 5 rfl rfl, F269.cl 5 6 rfl rfl, F269.cl 5 7 rfl rfl⟩) (fun hHeld => ?_)
            clear hK K
            (try simp only [Act.put, List.setIfInBounds_toArray, List.set_cons_zero, List.set_cons_succ])
            refine ru_pure 13 (v := ?_) rfl (by kernel_rfl) (fun _ _ _ h => h) (fun hd_ => by first | assumption | (exact absurd hd_ (by decide))) (.inl ⟨by first | kernel_rfl | rfl, ?_⟩) ?_
            rotate_left
            · (intro wS hwS; clear hwS; go_simp; (try with_reducible rfl))
            (try simp only [Act.put, List.setIfInBounds_toArray, List.set_cons_zero, List.set_cons_succ])
            refine ru_pure 14 (v := ?_) rfl (by kernel_rfl) (fun _ _ _ h => h) (fun hd_ => by first | assumption | (exact absurd hd_ (by decide))) (.inl ⟨by first | kernel_rfl | rfl, ?_⟩) ?_
            rotate_left
            · (intro wS hwS; clear hwS; go_simp; (try with_reducible rfl))
            (try simp only [Act.put, List.setIfInBounds_toArray, List.set_cons_zero, List.set_cons_succ])
            refine ru_one 15 rfl (by kernel_rfl) (fun K hK => ?_)
            go_simp
            refine ru_back_late hK (by kernel_rfl) ?_
            clear hK K
            (try simp only [Act.put, List.setIfInBounds_toArray, List.set_cons_zero, List.set_cons_succ])
            refine ru_done (by kernel_rfl) ?_
            have F270 : Bun w [rbox (w255.heap.size + 2) 29 #[.int .i64 l0.gr, .int .i64 l0.la, .slice sa0 l0.cov.length sc0, .int .i64 l0.melt.lo, .int .i64 l0.melt.hi, .int .i64 l0.soak, .int .i64 l0.white.lo, .int .i64 l0.white.hi, .int .i64 l.gr, .int .i64 l.la, .slice sal l.cov.length scl, .int .i64 l.melt.lo, .int .i64 l.melt.hi, .int .i64 l.soak, .int .i64 l.white.lo, .int .i64 l.white.hi, .int .i64 l.gr, .int .i64 l.la, .slice sal l.cov.length scl, .int .i64 l.melt.lo, .int .i64 l.melt.hi, .int .i64 l.soak, .int .i64 l.white.lo, .int .i64 l.white.hi], rbox w255.heap.size 32 #[.int .i64 x0.bl.lo, .int .i64 x0.bl.hi, .int .i64 x0.wh.lo, .int .i64 x0.wh.hi, .int .i64 x0.we.lo, .int .i64 x0.we.hi, .int .i64 x0.sn.lo, .int .i64 x0.sn.hi, .int .i64 ic.bl.lo, .int .i64 ic.bl.hi, .int .i64 ic.wh.lo, .int .i64 ic.wh.hi, .int .i64 ic.we.lo, .int .i64 ic.we.hi, .int .i64 ic.sn.lo, .int .i64 ic.sn.hi, .int .i64 ic.bl.lo, .int .i64 ic.bl.hi, .int .i64 ic.wh.lo, .int .i64 ic.wh.hi, .int .i64 ic.we.lo, .int .i64 ic.we.hi, .int .i64 ic.sn.lo, .int .i64 ic.sn.hi], rbox (w255.heap.size + 1) 36 #[.slice da0 d0.length dc0, .slice da_dl dl.length dc_dl, .slice da0 d0.length dc0], rbox (w22.heap.size + 1) 32 (iceC ic), rbox w22.heap.size 29 (froC l (.slice sal l.cov.length scl)), rsl covEnc 3 lo_l hi_l (.slice sal l.cov.length scl) l.cov, rseed sb, rbox (w.heap.size + 1) 32 (iceC x0), rbox w.heap.size 29 (froC l0 (.slice sa0 l0.cov.length sc0)), rsl intEnc 1 0 w.heap.size (.slice na zs.length nc) zs, rsl weaEnc 6 0 w.heap.size (.slice da0 d0.length dc0) d0, rsl covEnc 3 0 w.heap.size (.slice sa0 l0.cov.length sc0) l0.cov, rsl weaEnc 6 ld_dl hd_dl (.slice da_dl dl.length dc_dl) dl] _ := F269.pick [0, 2, 1, 5, 6, 7, 4, 8, 9, 10, 11, 12, 3] (by decide) rfl
            clear F269
            exact ⟨(by first | kernel_rfl | rfl), rfl, w255.heap.size + 2, w255.heap.size, w255.heap.size + 1, dl, da_dl, dc_dl, ld_dl, hd_dl, (by first | kernel_rfl | rfl), (by first | kernel_rfl | rfl), (by first | kernel_rfl | rfl), (by first | omega | (simp; done) | (simp; omega)), (by first | assumption | omega), HDdl.out, (by first | assumption | omega), (by first | omega | (simp; omega)), F270⟩
        · intro K hK
          go_simp
          have F271 := F256.new 36 #[.slice da0 d0.length dc0, .slice da_dl dl.length dc_dl, .slice da0 d0.length dc0] (n := w255.heap.size) (by simp)
          clear F256
          refine ru_back hK (by exact ⟨F271.cl 7 0 rfl rfl, F271.cl 7 1 rfl rfl, F271.cl 7 2 rfl rfl, F271.cl 7 3 rfl rfl, F271.cl 7 4 rfl rfl, F271.cl 7 5 rfl rfl, F271.cl 7 6 rfl rfl, F271.cl 7 7 rfl rfl, F271.cl 4 0 rfl rfl, F271.cl 4 1 rfl rfl, F271.cl 4 2 rfl rfl, F271.cl 4 3 rfl rfl, F271.cl 4 4 rfl rfl, F271.cl 4 5 rfl rfl, F271.cl 4 6 rfl rfl, F271.cl 4 7 rfl rfl, F271.cl 6 0 rfl rfl, F271.cl 6 1 rfl rfl, F271.cl 6 2 rfl rfl, F271.cl 6 3 rfl rfl, F271.cl 6 4 rfl rfl, F271.cl 6 5 rfl rfl, F271.cl 6 6 rfl rfl, F271.cl 6 7 rfl rfl, F271.cl 3 0 rfl rfl, F271.cl 3 1 rfl rfl, F271.cl 3 2 rfl rfl, F271.cl 3 3 rfl rfl, F271.cl 3 4 rfl rfl, F271.cl 3 5 rfl rfl, F271.cl 3 6 rfl rfl, F271.cl 3 7 rfl rfl⟩) (fun hHeld => ?_)
          clear hK K
          (try simp only [Act.put, List.setIfInBounds_toArray, List.set_cons_zero, List.set_cons_succ])
          refine ru_two 3 7 rfl rfl (by kernel_rfl) ?_ ?_
          · intro K hK
            go_simp
            have F272 := F271.new 29 #[.int .i64 l0.gr, .int .i64 l0.la, .slice sa0 l0.cov.length sc0, .int .i64 l0.melt.lo, .int .i64 l0.melt.hi, .int .i64 l0.soak, .int .i64 l0.white.lo, .int .i64 l0.white.hi, .int .i64 l.gr, .int .i64 l.la, .slice sal l.cov.length scl, .int .i64 l.melt.lo, .int .i64 l.melt.hi, .int .i64 l.soak, .int .i64 l.white.lo, .int .i64 l.white.hi, .int .i64 l.gr, .int .i64 l.la, .slice sal l.cov.length scl, .int .i64 l.melt.lo, .int .i64 l.melt.hi, .int .i64 l.soak, .int .i64 l.white.lo, .int .i64 l.white.hi] (n := (w255.heap.size + 1)) (by simp)
            clear F271
            refine ru_back hK (by exact ⟨F272.cl 8 0 rfl rfl, F272.cl 8 1 rfl rfl, F272.cl 8 2 rfl rfl, F272.cl 8 3 rfl rfl, F272.cl 8 4 rfl rfl, F272.cl 8 5 rfl rfl, F272.cl 8 6 rfl rfl, F272.cl 8 7 rfl rfl, F272.cl 5 0 rfl rfl, F272.cl 5 1 rfl rfl, F272.cl 5 2 rfl rfl, F272.cl 5 3 rfl rfl, F272.cl 5 4 rfl rfl, F272.cl 5 5 rfl rfl, F272.cl 5 6 rfl rfl, F272.cl 5 7 rfl rfl, F272.cl 7 0 rfl rfl, F272.cl 7 1 rfl rfl, F272.cl 7 2 rfl rfl, F272.cl 7 3 rfl rfl, F272.cl 7 4 rfl rfl, F272.cl 7 5 rfl rfl, F272.cl 7 6 rfl rfl, F272.cl 7 7 rfl rfl, F272.cl 4 0 rfl rfl, F272.cl 4 1 rfl rfl, F272.cl 4 2 rfl rfl, F272.cl 4 3 rfl rfl, F272.cl 4 4 rfl rfl, F272.cl 4 5 rfl rfl, F272.cl 4 6 rfl rfl, F272.cl 4 7 rfl rfl⟩) (fun hHeld => ?_)
            clear hK K
            (try simp only [Act.put, List.setIfInBounds_toArray, List.set_cons_zero, List.set_cons_succ])
            refine ru_pure 13 (v := ?_) rfl (by kernel_rfl) (fun _ _ _ h => h) (fun hd_ => by first | assumption | (exact absurd hd_ (by decide))) (.inl ⟨by first | kernel_rfl | rfl, ?_⟩) ?_
            rotate_left
            · (intro wS hwS; clear hwS; go_simp; (try with_reducible rfl))
            (try simp only [Act.put, List.setIfInBounds_toArray, List.set_cons_zero, List.set_cons_succ])
            refine ru_one 7 rfl (by kernel_rfl) (fun K hK => ?_)
            go_simp
            have F273 := F272.new 32 #[.int .i64 x0.bl.lo, .int .i64 x0.bl.hi, .int .i64 x0.wh.lo, .int .i64 x0.wh.hi, .int .i64 x0.we.lo, .int .i64 x0.we.hi, .int .i64 x0.sn.lo, .int .i64 x0.sn.hi, .int .i64 ic.bl.lo, .int .i64 ic.bl.hi, .int .i64 ic.wh.lo, .int .i64 ic.wh.hi, .int .i64 ic.we.lo, .int .i64 ic.we.hi, .int .i64 ic.sn.lo, .int .i64 ic.sn.hi, .int .i64 ic.bl.lo, .int .i64 ic.bl.hi, .int .i64 ic.wh.lo, .int .i64 ic.wh.hi, .int .i64 ic.we.lo, .int .i64 ic.we.hi, .int .i64 ic.sn.lo, .int .i64 ic.sn.hi] (n := (w255.heap.size + 2)) (by simp)
            clear F272
            refine ru_back hK (by exact ⟨F273.cl 9 0 rfl rfl, F273.cl 9 1 rfl rfl, F273.cl 9 2 rfl rfl, F273.cl 9 3 rfl rfl, F273.cl 9 4 rfl rfl, F273.cl 9 5 rfl rfl, F273.cl 9 6 rfl rfl, F273.cl 9 7 rfl rfl, F273.cl 6 0 rfl rfl, F273.cl 6 1 rfl rfl, F273.cl 6 2 rfl rfl, F273.cl 6 3 rfl rfl, F273.cl 6 4 rfl rfl, F273.cl 6 5 rfl rfl, F273.cl 6 6 rfl rfl, F273.cl 6 7 rfl rfl, F273.cl 8 0 rfl rfl, F273.cl 8 1 rfl rfl, F273.cl 8 2 rfl rfl, F273.cl 8 3 rfl rfl, F273.cl 8 4 rfl rfl, F273.cl 8 5 rfl rfl, F273.cl 8 6 rfl rfl, F273.cl 8 7 rfl rfl, F273.cl 5 0 rfl rfl, F273.cl 5 1 rfl rfl, F273.cl 5 2 rfl rfl, F273.cl 5 3 rfl rfl, F273.cl 5 4 rfl rfl, F273.cl 5 5 rfl rfl, F273.cl 5 6 rfl rfl, F273.cl 5 7 rfl rfl⟩) (fun hHeld => ?_)
            clear hK K
            (try simp only [Act.put, List.setIfInBounds_toArray, List.set_cons_zero, List.set_cons_succ])
            refine ru_pure 14 (v := ?_) rfl (by kernel_rfl) (fun _ _ _ h => h) (fun hd_ => by first | assumption | (exact absurd hd_ (by decide))) (.inl ⟨by first | kernel_rfl | rfl, ?_⟩) ?_
            rotate_left
            · (intro wS hwS; clear hwS; go_simp; (try with_reducible rfl))
            (try simp only [Act.put, List.setIfInBounds_toArray, List.set_cons_zero, List.set_cons_succ])
            refine ru_one 15 rfl (by kernel_rfl) (fun K hK => ?_)
            go_simp
            refine ru_back_late hK (by kernel_rfl) ?_
            clear hK K
            (try simp only [Act.put, List.setIfInBounds_toArray, List.set_cons_zero, List.set_cons_succ])
            refine ru_done (by kernel_rfl) ?_
            have F274 : Bun w [rbox (w255.heap.size + 1) 29 #[.int .i64 l0.gr, .int .i64 l0.la, .slice sa0 l0.cov.length sc0, .int .i64 l0.melt.lo, .int .i64 l0.melt.hi, .int .i64 l0.soak, .int .i64 l0.white.lo, .int .i64 l0.white.hi, .int .i64 l.gr, .int .i64 l.la, .slice sal l.cov.length scl, .int .i64 l.melt.lo, .int .i64 l.melt.hi, .int .i64 l.soak, .int .i64 l.white.lo, .int .i64 l.white.hi, .int .i64 l.gr, .int .i64 l.la, .slice sal l.cov.length scl, .int .i64 l.melt.lo, .int .i64 l.melt.hi, .int .i64 l.soak, .int .i64 l.white.lo, .int .i64 l.white.hi], rbox (w255.heap.size + 2) 32 #[.int .i64 x0.bl.lo, .int .i64 x0.bl.hi, .int .i64 x0.wh.lo, .int .i64 x0.wh.hi, .int .i64 x0.we.lo, .int .i64 x0.we.hi, .int .i64 x0.sn.lo, .int .i64 x0.sn.hi, .int .i64 ic.bl.lo, .int .i64 ic.bl.hi, .int .i64 ic.wh.lo, .int .i64 ic.wh.hi, .int .i64 ic.we.lo, .int .i64 ic.we.hi, .int .i64 ic.sn.lo, .int .i64 ic.sn.hi, .int .i64 ic.bl.lo, .int .i64 ic.bl.hi, .int .i64 ic.wh.lo, .int .i64 ic.wh.hi, .int .i64 ic.we.lo, .int .i64 ic.we.hi, .int .i64 ic.sn.lo, .int .i64 ic.sn.hi], rbox w255.heap.size 36 #[.slice da0 d0.length dc0, .slice da_dl dl.length dc_dl, .slice da0 d0.length dc0], rbox (w22.heap.size + 1) 32 (iceC ic), rbox w22.heap.size 29 (froC l (.slice sal l.cov.length scl)), rsl covEnc 3 lo_l hi_l (.slice sal l.cov.length scl) l.cov, rseed sb, rbox (w.heap.size + 1) 32 (iceC x0), rbox w.heap.size 29 (froC l0 (.slice sa0 l0.cov.length sc0)), rsl intEnc 1 0 w.heap.size (.slice na zs.length nc) zs, rsl weaEnc 6 0 w.heap.size (.slice da0 d0.length dc0) d0, rsl covEnc 3 0 w.heap.size (.slice sa0 l0.cov.length sc0) l0.cov, rsl weaEnc 6 ld_dl hd_dl (.slice da_dl dl.length dc_dl) dl] _ := F273.pick [1, 0, 2, 5, 6, 7, 4, 8, 9, 10, 11, 12, 3] (by decide) rfl
            clear F273
            exact ⟨(by first | kernel_rfl | rfl), rfl, w255.heap.size + 1, w255.heap.size + 2, w255.heap.size, dl, da_dl, dc_dl, ld_dl, hd_dl, (by first | kernel_rfl | rfl), (by first | kernel_rfl | rfl), (by first | kernel_rfl | rfl), (by first | omega | (simp; done) | (simp; omega)), (by first | assumption | omega), HDdl.out, (by first | assumption | omega), (by first | omega | (simp; omega)), F274⟩
          · intro K hK
            go_simp
            have F275 := F271.new 32 #[.int .i64 x0.bl.lo, .int .i64 x0.bl.hi, .int .i64 x0.wh.lo, .int .i64 x0.wh.hi, .int .i64 x0.we.lo, .int .i64 x0.we.hi, .int .i64 x0.sn.lo, .int .i64 x0.sn.hi, .int .i64 ic.bl.lo, .int .i64 ic.bl.hi, .int .i64 ic.wh.lo, .int .i64 ic.wh.hi, .int .i64 ic.we.lo, .int .i64 ic.we.hi, .int .i64 ic.sn.lo, .int .i64 ic.sn.hi, .int .i64 ic.bl.lo, .int .i64 ic.bl.hi, .int .i64 ic.wh.lo, .int .i64 ic.wh.hi, .int .i64 ic.we.lo, .int .i64 ic.we.hi, .int .i64 ic.sn.lo, .int .i64 ic.sn.hi] (n := (w255.heap.size + 1)) (by simp)
            clear F271
            refine ru_back hK (by exact ⟨F275.cl 8 0 rfl rfl, F275.cl 8 1 rfl rfl, F275.cl 8 2 rfl rfl, F275.cl 8 3 rfl rfl, F275.cl 8 4 rfl rfl, F275.cl 8 5 rfl rfl, F275.cl 8 6 rfl rfl, F275.cl 8 7 rfl rfl, F275.cl 5 0 rfl rfl, F275.cl 5 1 rfl rfl, F275.cl 5 2 rfl rfl, F275.cl 5 3 rfl rfl, F275.cl 5 4 rfl rfl, F275.cl 5 5 rfl rfl, F275.cl 5 6 rfl rfl, F275.cl 5 7 rfl rfl, F275.cl 7 0 rfl rfl, F275.cl 7 1 rfl rfl, F275.cl 7 2 rfl rfl, F275.cl 7 3 rfl rfl, F275.cl 7 4 rfl rfl, F275.cl 7 5 rfl rfl, F275.cl 7 6 rfl rfl, F275.cl 7 7 rfl rfl, F275.cl 4 0 rfl rfl, F275.cl 4 1 rfl rfl, F275.cl 4 2 rfl rfl, F275.cl 4 3 rfl rfl, F275.cl 4 4 rfl rfl, F275.cl 4 5 rfl rfl, F275.cl 4 6 rfl rfl, F275.cl 4 7 rfl rfl⟩) (fun hHeld => ?_)
            clear hK K
            (try simp only [Act.put, List.setIfInBounds_toArray, List.set_cons_zero, List.set_cons_succ])
            refine ru_one 3 rfl (by kernel_rfl) (fun K hK => ?_)
            go_simp
            have F276 := F275.new 29 #[.int .i64 l0.gr, .int .i64 l0.la, .slice sa0 l0.cov.length sc0, .int .i64 l0.melt.lo, .int .i64 l0.melt.hi, .int .i64 l0.soak, .int .i64 l0.white.lo, .int .i64 l0.white.hi, .int .i64 l.gr, .int .i64 l.la, .slice sal l.cov.length scl, .int .i64 l.melt.lo, .int .i64 l.melt.hi, .int .i64 l.soak, .int .i64 l.white.lo, .int .i64 l.white.hi, .int .i64 l.gr, .int .i64 l.la, .slice sal l.cov.length scl, .int .i64 l.melt.lo, .int .i64 l.melt.hi, .int .i64 l.soak, .int .i64 l.white.lo, .int .i64 l.white.hi] (n := (w255.heap.size + 2)) (by simp)
            clear F275
            refine ru_back hK (by exact ⟨F276.cl 9 0 rfl rfl, F276.cl 9 1 rfl rfl, F276.cl 9 2 rfl rfl, F276.cl 9 3 rfl rfl, F276.cl 9 4 rfl rfl, F276.cl 9 5 rfl rfl, F276.cl 9 6 rfl rfl, F276.cl 9 7 rfl rfl, F276.cl 6 0 rfl rfl, F276.cl 6 1 rfl rfl, F276.cl 6 2 rfl rfl, F276.cl 6 3 rfl rfl, F276.cl 6 4 rfl rfl, F276.cl 6 5 rfl rfl, F276.cl 6 6 rfl rfl, F276.cl 6 7 rfl rfl, F276.cl 8 0 rfl rfl, F276.cl 8 1 rfl rfl, F276.cl 8 2 rfl rfl, F276.cl 8 3 rfl rfl, F276.cl 8 4 rfl rfl, F276.cl 8 5 rfl rfl, F276.cl 8 6 rfl rfl, F276.cl 8 7 rfl rfl, F276.cl 5 0 rfl rfl, F276.cl 5 1 rfl rfl, F276.cl 5 2 rfl rfl, F276.cl 5 3 rfl rfl, F276.cl 5 4 rfl rfl, F276.cl 5 5 rfl rfl, F276.cl 5 6 rfl rfl, F276.cl 5 7 rfl rfl⟩) (fun hHeld => ?_)
            clear hK K
            (try simp only [Act.put, List.setIfInBounds_toArray, List.set_cons_zero, List.set_cons_succ])
            refine ru_pure 13 (v := ?_) rfl (by kernel_rfl) (fun _ _ _ h => h) (fun hd_ => by first | assumption | (exact absurd hd_ (by decide))) (.inl ⟨by first | kernel_rfl | rfl, ?_⟩) ?_
            rotate_left
            · (intro wS hwS; clear hwS; go_simp; (try with_reducible rfl))
            (try simp only [Act.put, List.setIfInBounds_toArray, List.set_cons_zero, List.set_cons_succ])
            refine ru_pure 14 (v := ?_) rfl (by kernel_rfl) (fun _ _ _ h => h) (fun hd_ => by first | assumption | (exact absurd hd_ (by decide))) (.inl ⟨by first | kernel_rfl | rfl, ?_⟩) ?_
            rotate_left
            · (intro wS hwS; clear hwS; go_simp; (try with_reducible rfl))
            (try simp only [Act.put, List.setIfInBounds_toArray, List.set_cons_zero, List.set_cons_succ])
            refine ru_one 15 rfl (by kernel_rfl) (fun K hK => ?_)
            go_simp
            refine ru_back_late hK (by kernel_rfl) ?_
            clear hK K
            (try simp only [Act.put, List.setIfInBounds_toArray, List.set_cons_zero, List.set_cons_succ])
            refine ru_done (by kernel_rfl) ?_
            have F277 : Bun w [rbox (w255.heap.size + 2) 29 #[.int .i64 l0.gr, .int .i64 l0.la, .slice sa0 l0.cov.length sc0, .int .i64 l0.melt.lo, .int .i64 l0.melt.hi, .int .i64 l0.soak, .int .i64 l0.white.lo, .int .i64 l0.white.hi, .int .i64 l.gr, .int .i64 l.la, .slice sal l.cov.length scl, .int .i64 l.melt.lo, .int .i64 l.melt.hi, .int .i64 l.soak, .int .i64 l.white.lo, .int .i64 l.white.hi, .int .i64 l.gr, .int .i64 l.la, .slice sal l.cov.length scl, .int .i64 l.melt.lo, .int .i64 l.melt.hi, .int .i64 l.soak, .int .i64 l.white.lo, .int .i64 l.white.hi], rbox (w255.heap.size + 1) 32 #[.int .i64 x0.bl.lo, .int .i64 x0.bl.hi, .int .i64 x0.wh.lo, .int .i64 x0.wh.hi, .int .i64 x0.we.lo, .int .i64 x0.we.hi, .int .i64 x0.sn.lo, .int .i64 x0.sn.hi, .int .i64 ic.bl.lo, .int .i64 ic.bl.hi, .int .i64 ic.wh.lo, .int .i64 ic.wh.hi, .int .i64 ic.we.lo, .int .i64 ic.we.hi, .int .i64 ic.sn.lo, .int .i64 ic.sn.hi, .int .i64 ic.bl.lo, .int .i64 ic.bl.hi, .int .i64 ic.wh.lo, .int .i64 ic.wh.hi, .int .i64 ic.we.lo, .int .i64 ic.we.hi, .int .i64 ic.sn.lo, .int .i64 ic.sn.hi], rbox w255.heap.size 36 #[.slice da0 d0.length dc0, .slice da_dl dl.length dc_dl, .slice da0 d0.length dc0], rbox (w22.heap.size + 1) 32 (iceC ic), rbox w22.heap.size 29 (froC l (.slice sal l.cov.length scl)), rsl covEnc 3 lo_l hi_l (.slice sal l.cov.length scl) l.cov, rseed sb, rbox (w.heap.size + 1) 32 (iceC x0), rbox w.heap.size 29 (froC l0 (.slice sa0 l0.cov.length sc0)), rsl intEnc 1 0 w.heap.size (.slice na zs.length nc) zs, rsl weaEnc 6 0 w.heap.size (.slice da0 d0.length dc0) d0, rsl covEnc 3 0 w.heap.size (.slice sa0 l0.cov.length sc0) l0.cov, rsl weaEnc 6 ld_dl hd_dl (.slice da_dl dl.length dc_dl) dl] _ := F276.pick [0, 1, 2, 5, 6, 7, 4, 8, 9, 10, 11, 12, 3] (by decide) rfl
            clear F276
            exact ⟨(by first | kernel_rfl | rfl), rfl, w255.heap.size + 2, w255.heap.size + 1, w255.heap.size, dl, da_dl, dc_dl, ld_dl, hd_dl, (by first | kernel_rfl | rfl), (by first | kernel_rfl | rfl), (by first | kernel_rfl | rfl), (by first | omega | (simp; done) | (simp; omega)), (by first | assumption | omega), HDdl.out, (by first | assumption | omega), (by first | omega | (simp; omega)), F277⟩
  · skip
    have c11H := Lib.hid c11
    go_wp2_with fail
    refine (awake_c _).mono ?_
    rintro e w280 ⟨rfl, hg278⟩
    have hg278s := hg278.size
    (try simp at hg278s)
    have F281 := F10.gn hg278
    clear F10
    clear hg278
    go_wp2_with fail
    go_ret
    exact ⟨rfl, F281.gb⟩

end Go.Proofs.Ythblaiefalbomaa
