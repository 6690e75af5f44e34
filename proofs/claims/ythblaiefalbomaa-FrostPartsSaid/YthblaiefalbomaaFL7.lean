/- frost: FrostParts walked. -/
import Derived.Test.YthblaiefalbomaaF45
import Derived.Test.YthblaiefalbomaaF3
import Derived.Test.YthblaiefalbomaaF26
import Derived.Test.YthblaiefalbomaaF24
set_option linter.unusedVariables false
set_option linter.unusedSimpArgs false
set_option linter.unnecessarySimpa false
namespace Go.Proofs.Ythblaiefalbomaa
open Go.RowKit
set_option maxRecDepth 100000

set_option maxHeartbeats 16000000 in
theorem parts_walk (vn : Value) (zs : List Int) (at_ : Int) (w : World) (hn : Sl intEnc 1 0 w.heap.size w vn zs) :
    Calls Try.prog 4 #[vn, .int .i64 at_] w (Ret (.bool true) w) := by
  have F1 : Bun w [] w := Bun.nil _
  obtain ⟨na, nc, rfl⟩ := hn.any
  have hm_nums := hn.len
  unfold maxLen at hm_nums
  have F2 := F1.sl0 hn (Nat.le_refl _) rfl
  clear F1
  go_enter Try.func4, Try.ntmps4
  go_wp2_with fail
  refine (newSeed_c 0 w.heap.size _ zs _ (F2.at 0 rfl : Sl intEnc 1 0 w.heap.size _ (.slice na zs.length nc) zs)).mono ?_
  rintro e w5 ⟨sb, rfl, hsb, hsbs, hg3⟩
  have hsbl := hsbs.lt
  have hg3s := hg3.size
  (try simp at hg3s)
  have F6 := F2.add (rseed sb) hg3 (hsbs) (fun g e => by cases e; exact ⟨hsb, hsbs.lt⟩)
  clear F2
  clear hg3
  go_wp2_with fail
  refine (frostOf_c sb _ (F6.at 0 rfl : SeedAt _ sb)).mono ?_
  rintro e w9 ⟨l, vl, lo_l, hi_l, rfl, hxl, hyl, hzl, hfl, hs8, hg7⟩
  obtain ⟨sal, scl, rfl⟩ := hzl.any
  have HFl := Lib.hid hfl
  clear hfl
  have hml := hzl.len
  unfold maxLen at hml
  have hg7s := hg7.size
  (try simp at hg7s)
  have F10 := F6.seedAdd (rsl covEnc 3 lo_l hi_l (.slice sal l.cov.length scl) l.cov) hg7 hs8 (hzl) (fun g e => ⟨Nat.le_trans hxl e.1, Nat.lt_of_lt_of_le e.2 hyl⟩)
  clear F6
  clear hg7
  go_wp2_with fail
  refine (iceOf_c sb _ (F10.at 1 rfl : SeedAt _ sb)).mono ?_
  rintro e w13 ⟨ic, rfl, ⟨hic, hicm⟩, hs12, hg11⟩
  have hicb := iceB hic
  have hg11s := hg11.size
  (try simp at hg11s)
  have F14 := F10.seedAt 1 rfl hg11 hs12
  clear F10
  clear hg11
  go_wp2_with fail
  have F16 := F14.new 29 (froC l (.slice sal l.cov.length scl)) (n := w13.heap.size) (by simp)
  clear F14
  have F17 := F16.new 32 (iceC ic) (n := (w13.heap.size + 1)) (by simp)
  clear F16
  refine (yes_c sb 2 _ (F17.at 3 rfl : SeedAt _ sb) (by omega) (by omega)).mono ?_
  rintro e w20 ⟨yb15, rfl, hs19, hg18⟩
  have hg18s := hg18.size
  (try simp at hg18s)
  have F21 := F17.seedAt 3 rfl hg18 hs19
  clear F17
  clear hg18
  go_wp2_with fail
  refine (daysOf_s sb 10 yb15 _ ((F21.front 3 rfl rfl).at 0 rfl : SeedAt _ sb) (by omega)).mono ?_
  rintro e w24 ⟨dl, da_dl, dc_dl, ld_dl, hd_dl, rfl, ⟨hdxdl, hdydl, hdcdl⟩, hdzdl, hdndl, hdvdl, hs23, hg22⟩
  have HDdl := Lib.hid hdvdl
  clear hdvdl
  have hg22s := hg22.size
  (try simp at hg22s)
  have F25 := (F21.front 3 rfl rfl).seedAdd (rsl weaEnc 6 ld_dl hd_dl (.slice da_dl dl.length dc_dl) dl) hg22 hs23 (hdzdl) (fun g e => ⟨Nat.le_trans hdxdl e.1, Nat.lt_of_lt_of_le e.2 hdydl⟩)
  clear F21
  clear hg22
  go_wp2_with fail
  refine (wrapG_c at_ _ _ (by omega)).mono ?_
  rintro e w28 ⟨rk, rfl, hrk, hg26⟩
  obtain ⟨kk, rfl⟩ : ∃ kk : Nat, rk = (kk : Int) := ⟨rk.toNat, by omega⟩
  have hkk : kk ≤ dl.length := by omega
  have hg26s := hg26.size
  (try simp at hg26s)
  have F29 := F25.gn hg26
  clear F25
  clear hg26
  have b30 := F29.bx8 2 rfl
  have b31 := F29.bx8 3 rfl
  go_wp2_with fail
  clear b30 b31
  refine (run_ok _ _ _ l ic _ _ _ dl _ (F29.at 4 rfl : Sl covEnc 3 lo_l hi_l _ (.slice sal l.cov.length scl) l.cov) (by first | omega | (simp; omega)) (F29.at 0 rfl : Sl weaEnc 6 ld_dl hd_dl _ (.slice da_dl dl.length dc_dl) dl) (by first | omega | (simp; omega)) (allE_of HFl.out hic (fun d_ h_ => (HDdl.out d_ h_).1) (by omega))).mono ?_
  rintro e w34 ⟨ra_a, rc_a, rl_a, rh_a, rfl, ⟨rxa, rya, rza⟩, rwa, hg32⟩
  have hg32s := hg32.size
  (try simp at hg32s)
  have F35 := F29.add (rsl iceEnc 8 rl_a rh_a (.slice ra_a dl.length rc_a) (runN l ic dl dl.length)) hg32 (rwa) (fun g e => ⟨Nat.le_trans rxa e.1, Nat.lt_of_lt_of_le e.2 rya⟩)
  clear F29
  clear hg32
  have F36 := F35.more 1 (rsl weaEnc 6 ld_dl hd_dl (.slice da_dl kk dc_dl) (dl.take kk)) rfl rfl rfl (fun _ h_ => h_) (Sl.take (F35.at 1 rfl : Sl weaEnc 6 ld_dl hd_dl _ (.slice da_dl dl.length dc_dl) dl) (by omega))
  clear F35
  have hk0 : (0 : Int) ≤ (kk : Int) := by omega
  have hk1 : (kk : Int) ≤ (dl.length : Int) := by omega
  go_wp2_with fail
  have hi37 : ∀ w, (Instr.sliceAt 36 (.slice da_dl dl.length dc_dl) none (some (.int .i64 (kk : Int))) none).run Try.prog w = .ok (.slice da_dl kk dc_dl) w := fun w => slice_pre okWea (by omega) w
  have F38 := F36.drew
  clear F36
  refine ru_begin (fun W => W.cell? ⟨w13.heap.size, 0, none⟩ = some (.int .i64 l.gr) ∧ W.cell? ⟨w13.heap.size, 1, none⟩ = some (.int .i64 l.la) ∧ W.cell? ⟨w13.heap.size, 2, none⟩ = some (.slice sal l.cov.length scl) ∧ W.cell? ⟨w13.heap.size, 3, none⟩ = some (.int .i64 l.melt.lo) ∧ W.cell? ⟨w13.heap.size, 4, none⟩ = some (.int .i64 l.melt.hi) ∧ W.cell? ⟨w13.heap.size, 5, none⟩ = some (.int .i64 l.soak) ∧ W.cell? ⟨w13.heap.size, 6, none⟩ = some (.int .i64 l.white.lo) ∧ W.cell? ⟨w13.heap.size, 7, none⟩ = some (.int .i64 l.white.hi) ∧ W.cell? ⟨(w13.heap.size + 1), 0, none⟩ = some (.int .i64 ic.bl.lo) ∧ W.cell? ⟨(w13.heap.size + 1), 1, none⟩ = some (.int .i64 ic.bl.hi) ∧ W.cell? ⟨(w13.heap.size + 1), 2, none⟩ = some (.int .i64 ic.wh.lo) ∧ W.cell? ⟨(w13.heap.size + 1), 3, none⟩ = some (.int .i64 ic.wh.hi) ∧ W.cell? ⟨(w13.heap.size + 1), 4, none⟩ = some (.int .i64 ic.we.lo) ∧ W.cell? ⟨(w13.heap.size + 1), 5, none⟩ = some (.int .i64 ic.we.hi) ∧ W.cell? ⟨(w13.heap.size + 1), 6, none⟩ = some (.int .i64 ic.sn.lo) ∧ W.cell? ⟨(w13.heap.size + 1), 7, none⟩ = some (.int .i64 ic.sn.hi)) 10 (by kernel_rfl) ?_ ?_
  · exact ⟨F38.cl 5 0 rfl rfl, F38.cl 5 1 rfl rfl, F38.cl 5 2 rfl rfl, F38.cl 5 3 rfl rfl, F38.cl 5 4 rfl rfl, F38.cl 5 5 rfl rfl, F38.cl 5 6 rfl rfl, F38.cl 5 7 rfl rfl, F38.cl 4 0 rfl rfl, F38.cl 4 1 rfl rfl, F38.cl 4 2 rfl rfl, F38.cl 4 3 rfl rfl, F38.cl 4 4 rfl rfl, F38.cl 4 5 rfl rfl, F38.cl 4 6 rfl rfl, F38.cl 4 7 rfl rfl⟩
  obtain ⟨wd40, hwd_⟩ : ∃ x : World, w34.drew = x := ⟨_, rfl⟩
  rw [hwd_] at F38 ⊢
  have wd40s : w34.heap.size ≤ wd40.heap.size := by rw [← hwd_]; exact Nat.le_refl _
  clear hwd_
  have hS39 := (And.intro (F38.cl 5 0 rfl rfl) (And.intro (F38.cl 5 1 rfl rfl) (And.intro (F38.cl 5 2 rfl rfl) (And.intro (F38.cl 5 3 rfl rfl) (And.intro (F38.cl 5 4 rfl rfl) (And.intro (F38.cl 5 5 rfl rfl) (And.intro (F38.cl 5 6 rfl rfl) (And.intro (F38.cl 5 7 rfl rfl) (And.intro (F38.cl 4 0 rfl rfl) (And.intro (F38.cl 4 1 rfl rfl) (And.intro (F38.cl 4 2 rfl rfl) (And.intro (F38.cl 4 3 rfl rfl) (And.intro (F38.cl 4 4 rfl rfl) (And.intro (F38.cl 4 5 rfl rfl) (And.intro (F38.cl 4 6 rfl rfl) (F38.cl 4 7 rfl rfl))))))))))))))))
  refine ru_take 0 [] (v := ?_) rfl (by kernel_rfl) (fun _ _ _ h => h) (by assumption) (.inl ⟨by first | kernel_rfl | rfl, ?_⟩) ?_
  rotate_left
  · (intro wS hwS; (try dsimp only at hwS); go_simp; (try with_reducible rfl))
  (try simp only [Act.put, List.setIfInBounds_toArray, List.set_cons_zero, List.set_cons_succ])
  refine ru_take 1 [] (v := ?_) rfl (by kernel_rfl) (fun _ _ _ h => h) (by assumption) (.inl ⟨by first | kernel_rfl | rfl, ?_⟩) ?_
  rotate_left
  · (intro wS hwS; (try dsimp only at hwS); go_simp; (try with_reducible rfl))
  (try simp only [Act.put, List.setIfInBounds_toArray, List.set_cons_zero, List.set_cons_succ])
  refine ru_take 2 [] (v := ?_) rfl (by kernel_rfl) (fun _ _ _ h => h) (by assumption) (.inl ⟨by first | kernel_rfl | rfl, ?_⟩) ?_
  rotate_left
  · (intro wS hwS; (try dsimp only at hwS); go_simp; (try with_reducible rfl))
  (try simp only [Act.put, List.setIfInBounds_toArray, List.set_cons_zero, List.set_cons_succ])
  refine ru_take 3 [] (v := ?_) rfl (by kernel_rfl) (fun _ _ _ h => h) (by assumption) (.inl ⟨by first | kernel_rfl | rfl, ?_⟩) ?_
  rotate_left
  · (intro wS hwS; (try dsimp only at hwS); go_simp; (try with_reducible rfl))
  (try simp only [Act.put, List.setIfInBounds_toArray, List.set_cons_zero, List.set_cons_succ])
  refine ru_take 4 [] (v := ?_) rfl (by kernel_rfl) (fun _ _ _ h => h) (by assumption) (.inl ⟨by first | kernel_rfl | rfl, ?_⟩) ?_
  rotate_left
  · (intro wS hwS; (try dsimp only at hwS); go_simp; (try with_reducible rfl))
  (try simp only [Act.put, List.setIfInBounds_toArray, List.set_cons_zero, List.set_cons_succ])
  clear hS39
  refine ru_one 5 rfl (by kernel_rfl) (fun K hK => ?_)
  go_simp
  refine (run_ok _ _ _ l ic _ _ _ (dl.take kk) _ (F38.at 6 rfl : Sl covEnc 3 lo_l hi_l _ (.slice sal l.cov.length scl) l.cov) (by first | omega | (simp; omega)) (F38.at 0 rfl : Sl weaEnc 6 ld_dl hd_dl _ (.slice da_dl kk dc_dl) (dl.take kk)) (by first | omega | (simp; omega)) (allE_take kk HFl.out hic (fun d_ h_ => (HDdl.out d_ h_).1) (by omega))).mono ?_
  rintro e w43 ⟨ra_b, rc_b, rl_b, rh_b, rfl, ⟨rxb, ryb, rzb⟩, rwb, hg41⟩
  rw [show (dl.take kk).length = kk from by rw [List.length_take]; omega] at rzb rwb ⊢
  have hg41s := hg41.size
  (try simp at hg41s)
  have F44 := F38.add (rsl iceEnc 8 rl_b rh_b (.slice ra_b kk rc_b) (runN l ic (dl.take kk) kk)) hg41 (rwb) (fun g e => ⟨Nat.le_trans rxb e.1, Nat.lt_of_lt_of_le e.2 ryb⟩)
  clear F38
  refine ru_back hK (by exact ⟨F44.cl 6 0 rfl rfl, F44.cl 6 1 rfl rfl, F44.cl 6 2 rfl rfl, F44.cl 6 3 rfl rfl, F44.cl 6 4 rfl rfl, F44.cl 6 5 rfl rfl, F44.cl 6 6 rfl rfl, F44.cl 6 7 rfl rfl, F44.cl 5 0 rfl rfl, F44.cl 5 1 rfl rfl, F44.cl 5 2 rfl rfl, F44.cl 5 3 rfl rfl, F44.cl 5 4 rfl rfl, F44.cl 5 5 rfl rfl, F44.cl 5 6 rfl rfl, F44.cl 5 7 rfl rfl⟩) (fun hHeld => ?_)
  clear hK K
  (try simp only [Act.put, List.setIfInBounds_toArray, List.set_cons_zero, List.set_cons_succ])
  refine ru_pure 6 (v := ?_) rfl (by kernel_rfl) (fun _ _ _ h => h) (fun hd_ => by first | assumption | (exact absurd hd_ (by decide))) (.inl ⟨by first | kernel_rfl | rfl, ?_⟩) ?_
  rotate_left
  · (intro wS hwS; clear hwS; go_simp; (try with_reducible rfl))
  (try simp only [Act.put, List.setIfInBounds_toArray, List.set_cons_zero, List.set_cons_succ])
  refine ru_pure 7 (v := ?_) rfl (by kernel_rfl) (fun _ _ _ h => h) (fun hd_ => by first | assumption | (exact absurd hd_ (by decide))) (.inl ⟨by first | kernel_rfl | rfl, ?_⟩) ?_
  rotate_left
  · (intro wS hwS; clear hwS; go_simp; (try with_reducible rfl))
  (try simp only [Act.put, List.setIfInBounds_toArray, List.set_cons_zero, List.set_cons_succ])
  refine ru_pure 8 (v := ?_) rfl (by kernel_rfl) (fun _ _ _ h => h) (fun hd_ => by first | assumption | (exact absurd hd_ (by decide))) (.inl ⟨by first | kernel_rfl | rfl, ?_⟩) ?_
  rotate_left
  · (intro wS hwS; clear hwS; go_simp; (try with_reducible rfl))
  (try simp only [Act.put, List.setIfInBounds_toArray, List.set_cons_zero, List.set_cons_succ])
  refine ru_pure 9 (v := ?_) rfl (by kernel_rfl) (fun _ _ _ h => h) (fun hd_ => by first | assumption | (exact absurd hd_ (by decide))) (.inl ⟨by first | kernel_rfl | rfl, ?_⟩) ?_
  rotate_left
  · (intro wS hwS; clear hwS; go_simp; (try with_reducible rfl))
  (try simp only [Act.put, List.setIfInBounds_toArray, List.set_cons_zero, List.set_cons_succ])
  refine ru_one 10 rfl (by kernel_rfl) (fun K hK => ?_)
  go_simp
  refine ru_back_late hK (by kernel_rfl) ?_
  clear hK K
  (try simp only [Act.put, List.setIfInBounds_toArray, List.set_cons_zero, List.set_cons_succ])
  refine ru_done (by kernel_rfl) ?_
  (try clear hi37)
  obtain ⟨w45, hx46, F48, hxs47⟩ := (show Bun w [rsl iceEnc 8 rl_b rh_b (.slice ra_b kk rc_b) (runN l ic (dl.take kk) kk), rsl weaEnc 6 ld_dl hd_dl (.slice da_dl kk dc_dl) (dl.take kk), rsl iceEnc 8 rl_a rh_a (.slice ra_a dl.length rc_a) (runN l ic dl dl.length), rsl weaEnc 6 ld_dl hd_dl (.slice da_dl dl.length dc_dl) dl, rseed sb, rbox (w13.heap.size + 1) 32 (iceC ic), rbox w13.heap.size 29 (froC l (.slice sal l.cov.length scl)), rsl covEnc 3 lo_l hi_l (.slice sal l.cov.length scl) l.cov, rsl intEnc 1 0 w.heap.size (.slice na zs.length nc) zs] _ from F44).name
  (try simp at hxs47)
  rw [hx46]
  clear hx46 F44
  have F49 := F48.more 2 (rsl iceEnc 8 rl_a rh_a (.slice ra_a kk rc_a) ((runN l ic dl dl.length).take kk)) rfl rfl rfl (fun _ h_ => h_) (Sl.take (F48.at 2 rfl : Sl iceEnc 8 rl_a rh_a _ (.slice ra_a dl.length rc_a) (runN l ic dl dl.length)) (by rw [runN_len]; omega))
  clear F48
  have ge50 : ∀ w, (Instr.sliceAt 54 (.slice ra_a dl.length rc_a) none (some (.int .i64 (kk : Int))) none).run Try.prog w = .ok (.slice ra_a kk rc_a) w := fun w => slice_pre okIce (by omega) w
  go_wp2_with fail
  clear ge50
  refine (sameIce_c _ _ _ _ _ _ ((runN l ic dl dl.length).take kk) _ (F49.at 0 rfl : Sl iceEnc 8 rl_a rh_a _ (.slice ra_a kk rc_a) ((runN l ic dl dl.length).take kk)) (by first | omega | (simp; omega)) (by have h_ := (F49.at 1 rfl : Sl iceEnc 8 rl_b rh_b _ (.slice ra_b kk rc_b) (runN l ic (dl.take kk) kk)); rw [runN_take (n := dl.length) (by omega)] at h_; exact h_) (by first | omega | (simp; omega))).mono ?_
  rintro e w53 ⟨rfl, hg51⟩
  have hg51s := hg51.size
  (try simp at hg51s)
  have F54 := F49.gn hg51
  clear F49
  clear hg51
  by_cases c55 : 0 < (kk : Int)
  · skip
    have c55H := Lib.hid c55
    have hq1 : (1 : Int) ≤ (kk : Int) := by omega
    have hq2 : 0 ≤ (kk : Int) - 1 := by omega
    have hq3 : (kk : Int) - 1 < (kk : Int) := by omega
    have hq4 : ((kk : Int) - 1).toNat = kk - 1 := by omega
    have hq5 : IntKind.i64.wrap ((kk : Int) - 1) = (kk : Int) - 1 := IntWalk.i64_in _ (by omega)
    obtain ⟨x56, o57, e_⟩ := Sl.addr (F54.at 1 rfl : Sl iceEnc 8 rl_b rh_b _ (.slice ra_b kk rc_b) (runN l ic (dl.take kk) kk)) (by rw [runN_len]; omega)
    subst e_
    obtain ⟨zz, hz58_⟩ : ∃ z_, (runN l ic (dl.take kk) kk)[(kk - 1)]? = some z_ := ⟨_, List.getElem?_eq_getElem (by rw [runN_len]; omega)⟩
    have hz58 := Lib.hid hz58_
    clear hz58_
    obtain rfl : zz = (stI l ic dl kk) := by have h_ := hz58.out; rw [runN_get (by omega), show kk - 1 + 1 = kk by omega, stI_take (Nat.le_refl _)] at h_; injection h_ with h_; exact h_.symm
    have b59 := F54.bx8 6 rfl
    have ge60 : World.cell? _ ⟨x56, o57 + ((kk - 1)) * 8, none⟩ = some (.int .i64 ((stI l ic dl kk).bl.lo)) := (((F54.at 1 rfl : Sl iceEnc 8 rl_b rh_b _ (.slice (some ⟨x56, o57, none⟩) kk rc_b) (runN l ic (dl.take kk) kk))).cells hz58.out 0 _ rfl)
    have gl61 := cell_lt ge60
    have ge62 : World.cell? _ ⟨x56, o57 + ((kk - 1)) * 8 + 1, none⟩ = some (.int .i64 ((stI l ic dl kk).bl.hi)) := (((F54.at 1 rfl : Sl iceEnc 8 rl_b rh_b _ (.slice (some ⟨x56, o57, none⟩) kk rc_b) (runN l ic (dl.take kk) kk))).cells hz58.out 1 _ rfl)
    have ge63 : World.cell? _ ⟨x56, o57 + ((kk - 1)) * 8 + 2, none⟩ = some (.int .i64 ((stI l ic dl kk).wh.lo)) := (((F54.at 1 rfl : Sl iceEnc 8 rl_b rh_b _ (.slice (some ⟨x56, o57, none⟩) kk rc_b) (runN l ic (dl.take kk) kk))).cells hz58.out 2 _ rfl)
    have ge64 : World.cell? _ ⟨x56, o57 + ((kk - 1)) * 8 + 3, none⟩ = some (.int .i64 ((stI l ic dl kk).wh.hi)) := (((F54.at 1 rfl : Sl iceEnc 8 rl_b rh_b _ (.slice (some ⟨x56, o57, none⟩) kk rc_b) (runN l ic (dl.take kk) kk))).cells hz58.out 3 _ rfl)
    have ge65 : World.cell? _ ⟨x56, o57 + ((kk - 1)) * 8 + 4, none⟩ = some (.int .i64 ((stI l ic dl kk).we.lo)) := (((F54.at 1 rfl : Sl iceEnc 8 rl_b rh_b _ (.slice (some ⟨x56, o57, none⟩) kk rc_b) (runN l ic (dl.take kk) kk))).cells hz58.out 4 _ rfl)
    have ge66 : World.cell? _ ⟨x56, o57 + ((kk - 1)) * 8 + 5, none⟩ = some (.int .i64 ((stI l ic dl kk).we.hi)) := (((F54.at 1 rfl : Sl iceEnc 8 rl_b rh_b _ (.slice (some ⟨x56, o57, none⟩) kk rc_b) (runN l ic (dl.take kk) kk))).cells hz58.out 5 _ rfl)
    have ge67 : World.cell? _ ⟨x56, o57 + ((kk - 1)) * 8 + 6, none⟩ = some (.int .i64 ((stI l ic dl kk).sn.lo)) := (((F54.at 1 rfl : Sl iceEnc 8 rl_b rh_b _ (.slice (some ⟨x56, o57, none⟩) kk rc_b) (runN l ic (dl.take kk) kk))).cells hz58.out 6 _ rfl)
    have ge68 : World.cell? _ ⟨x56, o57 + ((kk - 1)) * 8 + 7, none⟩ = some (.int .i64 ((stI l ic dl kk).sn.hi)) := (((F54.at 1 rfl : Sl iceEnc 8 rl_b rh_b _ (.slice (some ⟨x56, o57, none⟩) kk rc_b) (runN l ic (dl.take kk) kk))).cells hz58.out 7 _ rfl)
    go_wp2_with fail
    clear b59 ge60 gl61 ge62 ge63 ge64 ge65 ge66 ge67 ge68
    have F69 := F54.new 32 #[.int .i64 ((stI l ic dl kk).bl.lo), .int .i64 ((stI l ic dl kk).bl.hi), .int .i64 ((stI l ic dl kk).wh.lo), .int .i64 ((stI l ic dl kk).wh.hi), .int .i64 ((stI l ic dl kk).we.lo), .int .i64 ((stI l ic dl kk).we.hi), .int .i64 ((stI l ic dl kk).sn.lo), .int .i64 ((stI l ic dl kk).sn.hi)] (n := w53.heap.size) (by simp)
    clear F54
    refine (rcheckIce_c (stI l ic dl kk) _).mono ?_
    rintro e w72 ⟨rfl, hg70⟩
    have hg70s := hg70.size
    (try simp at hg70s)
    have F73 := F69.gn hg70
    clear F69
    clear hg70
    by_cases c74 : iceErr (stI l ic dl kk) = 0
    · skip
      have c74a : ((iceErr (stI l ic dl kk)) == 0) = true := beq_t c74
      have c74b : ((iceErr (stI l ic dl kk)) != 0) = false := bne_f c74
      have c74H := Lib.hid c74
      clear c74
      obtain ⟨sx75, esx75_⟩ : ∃ z_ : Option Addr, (if dc_dl = kk then da_dl else da_dl.map (·.add (kk * 6))) = z_ := ⟨_, rfl⟩
      have Esx75 := Lib.hid esx75_
      clear esx75_
      have F76 := F73.more 5 (rsl weaEnc 6 ld_dl hd_dl (.slice sx75 (dl.length - kk) (dc_dl - kk)) (dl.drop kk)) rfl rfl rfl (fun _ h_ => h_) ((by have h_ := Sl.drop (F73.at 5 rfl : Sl weaEnc 6 ld_dl hd_dl _ (.slice da_dl dl.length dc_dl) dl) (k := kk) (by omega) (by omega); rw [Esx75.out] at h_; exact h_))
      clear F73
      go_wp2_with fail
      have hi77 : ∀ w, (Instr.sliceAt 36 (.slice da_dl dl.length dc_dl) (some (.int .i64 (kk : Int))) none none).run Try.prog w = .ok (.slice sx75 (dl.length - kk) (dc_dl - kk)) w := fun w => (by have h_ := slice_suf okWea (a := da_dl) (n := dl.length) (c := dc_dl) (k := kk) (by omega) w; rw [Esx75.out] at h_; exact h_)
      have F78 := F76.drew
      clear F76
      refine ru_begin (fun W => W.cell? ⟨w13.heap.size, 0, none⟩ = some (.int .i64 l.gr) ∧ W.cell? ⟨w13.heap.size, 1, none⟩ = some (.int .i64 l.la) ∧ W.cell? ⟨w13.heap.size, 2, none⟩ = some (.slice sal l.cov.length scl) ∧ W.cell? ⟨w13.heap.size, 3, none⟩ = some (.int .i64 l.melt.lo) ∧ W.cell? ⟨w13.heap.size, 4, none⟩ = some (.int .i64 l.melt.hi) ∧ W.cell? ⟨w13.heap.size, 5, none⟩ = some (.int .i64 l.soak) ∧ W.cell? ⟨w13.heap.size, 6, none⟩ = some (.int .i64 l.white.lo) ∧ W.cell? ⟨w13.heap.size, 7, none⟩ = some (.int .i64 l.white.hi) ∧ W.cell? ⟨w53.heap.size, 0, none⟩ = some (.int .i64 ((stI l ic dl kk).bl.lo)) ∧ W.cell? ⟨w53.heap.size, 1, none⟩ = some (.int .i64 ((stI l ic dl kk).bl.hi)) ∧ W.cell? ⟨w53.heap.size, 2, none⟩ = some (.int .i64 ((stI l ic dl kk).wh.lo)) ∧ W.cell? ⟨w53.heap.size, 3, none⟩ = some (.int .i64 ((stI l ic dl kk).wh.hi)) ∧ W.cell? ⟨w53.heap.size, 4, none⟩ = some (.int .i64 ((stI l ic dl kk).we.lo)) ∧ W.cell? ⟨w53.heap.size, 5, none⟩ = some (.int .i64 ((stI l ic dl kk).we.hi)) ∧ W.cell? ⟨w53.heap.size, 6, none⟩ = some (.int .i64 ((stI l ic dl kk).sn.lo)) ∧ W.cell? ⟨w53.heap.size, 7, none⟩ = some (.int .i64 ((stI l ic dl kk).sn.hi))) 10 (by kernel_rfl) ?_ ?_
      · exact ⟨F78.cl 9 0 rfl rfl, F78.cl 9 1 rfl rfl, F78.cl 9 2 rfl rfl, F78.cl 9 3 rfl rfl, F78.cl 9 4 rfl rfl, F78.cl 9 5 rfl rfl, F78.cl 9 6 rfl rfl, F78.cl 9 7 rfl rfl, F78.cl 1 0 rfl rfl, F78.cl 1 1 rfl rfl, F78.cl 1 2 rfl rfl, F78.cl 1 3 rfl rfl, F78.cl 1 4 rfl rfl, F78.cl 1 5 rfl rfl, F78.cl 1 6 rfl rfl, F78.cl 1 7 rfl rfl⟩
      obtain ⟨wd80, hwd_⟩ : ∃ x : World, w72.drew = x := ⟨_, rfl⟩
      rw [hwd_] at F78 ⊢
      have wd80s : w72.heap.size ≤ wd80.heap.size := by rw [← hwd_]; exact Nat.le_refl _
      clear hwd_
      have hS79 := (And.intro (F78.cl 9 0 rfl rfl) (And.intro (F78.cl 9 1 rfl rfl) (And.intro (F78.cl 9 2 rfl rfl) (And.intro (F78.cl 9 3 rfl rfl) (And.intro (F78.cl 9 4 rfl rfl) (And.intro (F78.cl 9 5 rfl rfl) (And.intro (F78.cl 9 6 rfl rfl) (And.intro (F78.cl 9 7 rfl rfl) (And.intro (F78.cl 1 0 rfl rfl) (And.intro (F78.cl 1 1 rfl rfl) (And.intro (F78.cl 1 2 rfl rfl) (And.intro (F78.cl 1 3 rfl rfl) (And.intro (F78.cl 1 4 rfl rfl) (And.intro (F78.cl 1 5 rfl rfl) (And.intro (F78.cl 1 6 rfl rfl) (F78.cl 1 7 rfl rfl))))))))))))))))
      refine ru_take 0 [] (v := ?_) rfl (by kernel_rfl) (fun _ _ _ h => h) (by assumption) (.inl ⟨by first | kernel_rfl | rfl, ?_⟩) ?_
      rotate_left
      · (intro wS hwS; (try dsimp only at hwS); go_simp; (try with_reducible rfl))
      (try simp only [Act.put, List.setIfInBounds_toArray, List.set_cons_zero, List.set_cons_succ])
      refine ru_take 1 [] (v := ?_) rfl (by kernel_rfl) (fun _ _ _ h => h) (by assumption) (.inl ⟨by first | kernel_rfl | rfl, ?_⟩) ?_
      rotate_left
      · (intro wS hwS; (try dsimp only at hwS); go_simp; (try with_reducible rfl))
      (try simp only [Act.put, List.setIfInBounds_toArray, List.set_cons_zero, List.set_cons_succ])
      refine ru_take 2 [] (v := ?_) rfl (by kernel_rfl) (fun _ _ _ h => h) (by assumption) (.inl ⟨by first | kernel_rfl | rfl, ?_⟩) ?_
      rotate_left
      · (intro wS hwS; (try dsimp only at hwS); go_simp; (try with_reducible rfl))
      (try simp only [Act.put, List.setIfInBounds_toArray, List.set_cons_zero, List.set_cons_succ])
      refine ru_take 3 [] (v := ?_) rfl (by kernel_rfl) (fun _ _ _ h => h) (by assumption) (.inl ⟨by first | kernel_rfl | rfl, ?_⟩) ?_
      rotate_left
      · (intro wS hwS; (try dsimp only at hwS); go_simp; (try with_reducible rfl))
      (try simp only [Act.put, List.setIfInBounds_toArray, List.set_cons_zero, List.set_cons_succ])
      refine ru_take 4 [] (v := ?_) rfl (by kernel_rfl) (fun _ _ _ h => h) (by assumption) (.inl ⟨by first | kernel_rfl | rfl, ?_⟩) ?_
      rotate_left
      · (intro wS hwS; (try dsimp only at hwS); go_simp; (try with_reducible rfl))
      (try simp only [Act.put, List.setIfInBounds_toArray, List.set_cons_zero, List.set_cons_succ])
      clear hS79
      refine ru_one 5 rfl (by kernel_rfl) (fun K hK => ?_)
      go_simp
      refine (run_ok _ _ _ l (stI l ic dl kk) _ _ _ (dl.drop kk) _ (F78.at 10 rfl : Sl covEnc 3 lo_l hi_l _ (.slice sal l.cov.length scl) l.cov) (by first | omega | (simp; omega)) (F78.at 0 rfl : Sl weaEnc 6 ld_dl hd_dl _ (.slice sx75 (dl.length - kk) (dc_dl - kk)) (dl.drop kk)) (by first | omega | (simp; omega)) (allE_drop kk HFl.out c74H.out (fun d_ h_ => (HDdl.out d_ h_).1) (by omega))).mono ?_
      rintro e w83 ⟨ra_c, rc_c, rl_c, rh_c, rfl, ⟨rxc, ryc, rzc⟩, rwc, hg81⟩
      rw [show (dl.drop kk).length = (dl.length - kk) from by rw [List.length_drop]] at rzc rwc ⊢
      have hg81s := hg81.size
      (try simp at hg81s)
      have F84 := F78.add (rsl iceEnc 8 rl_c rh_c (.slice ra_c (dl.length - kk) rc_c) (runN l (stI l ic dl kk) (dl.drop kk) (dl.length - kk))) hg81 (rwc) (fun g e => ⟨Nat.le_trans rxc e.1, Nat.lt_of_lt_of_le e.2 ryc⟩)
      clear F78
      refine ru_back hK (by exact ⟨F84.cl 10 0 rfl rfl, F84.cl 10 1 rfl rfl, F84.cl 10 2 rfl rfl, F84.cl 10 3 rfl rfl, F84.cl 10 4 rfl rfl, F84.cl 10 5 rfl rfl, F84.cl 10 6 rfl rfl, F84.cl 10 7 rfl rfl, F84.cl 2 0 rfl rfl, F84.cl 2 1 rfl rfl, F84.cl 2 2 rfl rfl, F84.cl 2 3 rfl rfl, F84.cl 2 4 rfl rfl, F84.cl 2 5 rfl rfl, F84.cl 2 6 rfl rfl, F84.cl 2 7 rfl rfl⟩) (fun hHeld => ?_)
      clear hK K
      (try simp only [Act.put, List.setIfInBounds_toArray, List.set_cons_zero, List.set_cons_succ])
      refine ru_pure 6 (v := ?_) rfl (by kernel_rfl) (fun _ _ _ h => h) (fun hd_ => by first | assumption | (exact absurd hd_ (by decide))) (.inl ⟨by first | kernel_rfl | rfl, ?_⟩) ?_
      rotate_left
      · (intro wS hwS; clear hwS; go_simp; (try with_reducible rfl))
      (try simp only [Act.put, List.setIfInBounds_toArray, List.set_cons_zero, List.set_cons_succ])
      refine ru_pure 7 (v := ?_) rfl (by kernel_rfl) (fun _ _ _ h => h) (fun hd_ => by first | assumption | (exact absurd hd_ (by decide))) (.inl ⟨by first | kernel_rfl | rfl, ?_⟩) ?_
      rotate_left
      · (intro wS hwS; clear hwS; go_simp; (try with_reducible rfl))
      (try simp only [Act.put, List.setIfInBounds_toArray, List.set_cons_zero, List.set_cons_succ])
      refine ru_pure 8 (v := ?_) rfl (by kernel_rfl) (fun _ _ _ h => h) (fun hd_ => by first | assumption | (exact absurd hd_ (by decide))) (.inl ⟨by first | kernel_rfl | rfl, ?_⟩) ?_
      rotate_left
      · (intro wS hwS; clear hwS; go_simp; (try with_reducible rfl))
      (try simp only [Act.put, List.setIfInBounds_toArray, List.set_cons_zero, List.set_cons_succ])
      refine ru_pure 9 (v := ?_) rfl (by kernel_rfl) (fun _ _ _ h => h) (fun hd_ => by first | assumption | (exact absurd hd_ (by decide))) (.inl ⟨by first | kernel_rfl | rfl, ?_⟩) ?_
      rotate_left
      · (intro wS hwS; clear hwS; go_simp; (try with_reducible rfl))
      (try simp only [Act.put, List.setIfInBounds_toArray, List.set_cons_zero, List.set_cons_succ])
      refine ru_one 10 rfl (by kernel_rfl) (fun K hK => ?_)
      go_simp
      refine ru_back_late hK (by kernel_rfl) ?_
      clear hK K
      (try simp only [Act.put, List.setIfInBounds_toArray, List.set_cons_zero, List.set_cons_succ])
      refine ru_done (by kernel_rfl) ?_
      (try clear hi77)
      obtain ⟨w85, hx86, F88, hxs87⟩ := (show Bun w [rsl iceEnc 8 rl_c rh_c (.slice ra_c (dl.length - kk) rc_c) (runN l (stI l ic dl kk) (dl.drop kk) (dl.length - kk)), rsl weaEnc 6 ld_dl hd_dl (.slice sx75 (dl.length - kk) (dc_dl - kk)) (dl.drop kk), rsl iceEnc 8 rl_a rh_a (.slice ra_a kk rc_a) ((runN l ic dl dl.length).take kk), rsl iceEnc 8 rl_b rh_b (.slice (some ⟨x56, o57, none⟩) kk rc_b) (runN l ic (dl.take kk) kk), rsl weaEnc 6 ld_dl hd_dl (.slice da_dl kk dc_dl) (dl.take kk), rsl iceEnc 8 rl_a rh_a (.slice ra_a dl.length rc_a) (runN l ic dl dl.length), rsl weaEnc 6 ld_dl hd_dl (.slice da_dl dl.length dc_dl) dl, rseed sb, rsl covEnc 3 lo_l hi_l (.slice sal l.cov.length scl) l.cov, rsl intEnc 1 0 w.heap.size (.slice na zs.length nc) zs] _ from (((F84.drop 2 rfl).drop 8 rfl).drop 8 rfl)).name
      (try simp at hxs87)
      rw [hx86]
      clear hx86 F84
      obtain ⟨sx89, esx89_⟩ : ∃ z_ : Option Addr, (if rc_a = kk then ra_a else ra_a.map (·.add (kk * 8))) = z_ := ⟨_, rfl⟩
      have Esx89 := Lib.hid esx89_
      clear esx89_
      have F90 := F88.more 5 (rsl iceEnc 8 rl_a rh_a (.slice sx89 (dl.length - kk) (rc_a - kk)) ((runN l ic dl dl.length).drop kk)) rfl rfl rfl (fun _ h_ => h_) ((by have h_ := Sl.drop (F88.at 5 rfl : Sl iceEnc 8 rl_a rh_a _ (.slice ra_a dl.length rc_a) (runN l ic dl dl.length)) (k := kk) (by rw [runN_len]; omega) (by rw [runN_len]; omega); rw [Esx89.out] at h_; exact h_))
      clear F88
      have ge91 : ∀ w, (Instr.sliceAt 54 (.slice ra_a dl.length rc_a) (some (.int .i64 (kk : Int))) none none).run Try.prog w = .ok (.slice sx89 (dl.length - kk) (rc_a - kk)) w := fun w => (by have h_ := slice_suf okIce (a := ra_a) (n := dl.length) (c := rc_a) (k := kk) (by omega) w; rw [Esx89.out] at h_; exact h_)
      go_wp2_with fail
      clear ge91
      refine (sameIce_c _ _ _ _ _ _ ((runN l ic dl dl.length).drop kk) _ (F90.at 0 rfl : Sl iceEnc 8 rl_a rh_a _ (.slice sx89 (dl.length - kk) (rc_a - kk)) ((runN l ic dl dl.length).drop kk)) (by first | omega | (simp; omega)) (by have h_ := (F90.at 1 rfl : Sl iceEnc 8 rl_c rh_c _ (.slice ra_c (dl.length - kk) rc_c) (runN l (stI l ic dl kk) (dl.drop kk) (dl.length - kk))); rw [runN_drop (n := dl.length) (by omega)] at h_; exact h_) (by first | omega | (simp; omega))).mono ?_
      rintro e w94 ⟨rfl, hg92⟩
      have hg92s := hg92.size
      (try simp at hg92s)
      have F95 := F90.gn hg92
      clear F90
      clear hg92
      go_wp2_with fail
      refine (awake_c _).mono ?_
      rintro e w98 ⟨rfl, hg96⟩
      have hg96s := hg96.size
      (try simp at hg96s)
      have F99 := F95.gn hg96
      clear F95
      clear hg96
      go_wp2_with fail
      go_ret
      exact ⟨rfl, F99.gb⟩
    · skip
      have c74a : ((iceErr (stI l ic dl kk)) == 0) = false := beq_f c74
      have c74b : ((iceErr (stI l ic dl kk)) != 0) = true := bne_t c74
      have c74H := Lib.hid c74
      clear c74
      go_wp2_with fail
      refine (awake_c _).mono ?_
      rintro e w102 ⟨rfl, hg100⟩
      have hg100s := hg100.size
      (try simp at hg100s)
      have F103 := F73.gn hg100
      clear F73
      clear hg100
      go_wp2_with fail
      go_ret
      exact ⟨rfl, F103.gb⟩
  · skip
    have c55H := Lib.hid c55
    have c55a : decide (0 < (kk : Int)) = false := dec_f c55
    have HKZ : Hid (kk = 0) := Lib.hid (by omega)
    have kn104 : iceErr ic = 0 := hic
    have kn104H := Lib.hid kn104
    have kn104a : ((iceErr ic) == 0) = true := beq_t kn104
    have kn104b : ((iceErr ic) != 0) = false := bne_f kn104
    clear kn104
    have b105 := F54.bx8 6 rfl
    go_wp2_with fail
    clear b105
    have F106 := F54.new 32 (iceC ic) (n := w53.heap.size) (by simp)
    clear F54
    refine (rcheckIce_c ic _).mono ?_
    rintro e w109 ⟨rfl, hg107⟩
    have hg107s := hg107.size
    (try simp at hg107s)
    have F110 := F106.gn hg107
    clear F106
    clear hg107
    obtain ⟨sx111, esx111_⟩ : ∃ z_ : Option Addr, (if dc_dl = kk then da_dl else da_dl.map (·.add (kk * 6))) = z_ := ⟨_, rfl⟩
    have Esx111 := Lib.hid esx111_
    clear esx111_
    have F112 := F110.more 5 (rsl weaEnc 6 ld_dl hd_dl (.slice sx111 (dl.length - kk) (dc_dl - kk)) (dl.drop kk)) rfl rfl rfl (fun _ h_ => h_) ((by have h_ := Sl.drop (F110.at 5 rfl : Sl weaEnc 6 ld_dl hd_dl _ (.slice da_dl dl.length dc_dl) dl) (k := kk) (by omega) (by omega); rw [Esx111.out] at h_; exact h_))
    clear F110
    go_wp2_with fail
    have hi113 : ∀ w, (Instr.sliceAt 36 (.slice da_dl dl.length dc_dl) (some (.int .i64 (kk : Int))) none none).run Try.prog w = .ok (.slice sx111 (dl.length - kk) (dc_dl - kk)) w := fun w => (by have h_ := slice_suf okWea (a := da_dl) (n := dl.length) (c := dc_dl) (k := kk) (by omega) w; rw [Esx111.out] at h_; exact h_)
    have F114 := F112.drew
    clear F112
    refine ru_begin (fun W => W.cell? ⟨w13.heap.size, 0, none⟩ = some (.int .i64 l.gr) ∧ W.cell? ⟨w13.heap.size, 1, none⟩ = some (.int .i64 l.la) ∧ W.cell? ⟨w13.heap.size, 2, none⟩ = some (.slice sal l.cov.length scl) ∧ W.cell? ⟨w13.heap.size, 3, none⟩ = some (.int .i64 l.melt.lo) ∧ W.cell? ⟨w13.heap.size, 4, none⟩ = some (.int .i64 l.melt.hi) ∧ W.cell? ⟨w13.heap.size, 5, none⟩ = some (.int .i64 l.soak) ∧ W.cell? ⟨w13.heap.size, 6, none⟩ = some (.int .i64 l.white.lo) ∧ W.cell? ⟨w13.heap.size, 7, none⟩ = some (.int .i64 l.white.hi) ∧ W.cell? ⟨w53.heap.size, 0, none⟩ = some (.int .i64 ic.bl.lo) ∧ W.cell? ⟨w53.heap.size, 1, none⟩ = some (.int .i64 ic.bl.hi) ∧ W.cell? ⟨w53.heap.size, 2, none⟩ = some (.int .i64 ic.wh.lo) ∧ W.cell? ⟨w53.heap.size, 3, none⟩ = some (.int .i64 ic.wh.hi) ∧ W.cell? ⟨w53.heap.size, 4, none⟩ = some (.int .i64 ic.we.lo) ∧ W.cell? ⟨w53.heap.size, 5, none⟩ = some (.int .i64 ic.we.hi) ∧ W.cell? ⟨w53.heap.size, 6, none⟩ = some (.int .i64 ic.sn.lo) ∧ W.cell? ⟨w53.heap.size, 7, none⟩ = some (.int .i64 ic.sn.hi)) 10 (by kernel_rfl) ?_ ?_
    · exact ⟨F114.cl 9 0 rfl rfl, F114.cl 9 1 rfl rfl, F114.cl 9 2 rfl rfl, F114.cl 9 3 rfl rfl, F114.cl 9 4 rfl rfl, F114.cl 9 5 rfl rfl, F114.cl 9 6 rfl rfl, F114.cl 9 7 rfl rfl, F114.cl 1 0 rfl rfl, F114.cl 1 1 rfl rfl, F114.cl 1 2 rfl rfl, F114.cl 1 3 rfl rfl, F114.cl 1 4 rfl rfl, F114.cl 1 5 rfl rfl, F114.cl 1 6 rfl rfl, F114.cl 1 7 rfl rfl⟩
    obtain ⟨wd116, hwd_⟩ : ∃ x : World, w109.drew = x := ⟨_, rfl⟩
    rw [hwd_] at F114 ⊢
    have wd116s : w109.heap.size ≤ wd116.heap.size := by rw [← hwd_]; exact Nat.le_refl _
    clear hwd_
    have hS115 := (And.intro (F114.cl 9 0 rfl rfl) (And.intro (F114.cl 9 1 rfl rfl) (And.intro (F114.cl 9 2 rfl rfl) (And.intro (F114.cl 9 3 rfl rfl) (And.intro (F114.cl 9 4 rfl rfl) (And.intro (F114.cl 9 5 rfl rfl) (And.intro (F114.cl 9 6 rfl rfl) (And.intro (F114.cl 9 7 rfl rfl) (And.intro (F114.cl 1 0 rfl rfl) (And.intro (F114.cl 1 1 rfl rfl) (And.intro (F114.cl 1 2 rfl rfl) (And.intro (F114.cl 1 3 rfl rfl) (And.intro (F114.cl 1 4 rfl rfl) (And.intro (F114.cl 1 5 rfl rfl) (And.intro (F114.cl 1 6 rfl rfl) (F114.cl 1 7 rfl rfl))))))))))))))))
    refine ru_take 0 [] (v := ?_) rfl (by kernel_rfl) (fun _ _ _ h => h) (by assumption) (.inl ⟨by first | kernel_rfl | rfl, ?_⟩) ?_
    rotate_left
    · (intro wS hwS; (try dsimp only at hwS); go_simp; (try with_reducible rfl))
    (try simp only [Act.put, List.setIfInBounds_toArray, List.set_cons_zero, List.set_cons_succ])
    refine ru_take 1 [] (v := ?_) rfl (by kernel_rfl) (fun _ _ _ h => h) (by assumption) (.inl ⟨by first | kernel_rfl | rfl, ?_⟩) ?_
    rotate_left
    · (intro wS hwS; (try dsimp only at hwS); go_simp; (try with_reducible rfl))
    (try simp only [Act.put, List.setIfInBounds_toArray, List.set_cons_zero, List.set_cons_succ])
    refine ru_take 2 [] (v := ?_) rfl (by kernel_rfl) (fun _ _ _ h => h) (by assumption) (.inl ⟨by first | kernel_rfl | rfl, ?_⟩) ?_
    rotate_left
    · (intro wS hwS; (try dsimp only at hwS); go_simp; (try with_reducible rfl))
    (try simp only [Act.put, List.setIfInBounds_toArray, List.set_cons_zero, List.set_cons_succ])
    refine ru_take 3 [] (v := ?_) rfl (by kernel_rfl) (fun _ _ _ h => h) (by assumption) (.inl ⟨by first | kernel_rfl | rfl, ?_⟩) ?_
    rotate_left
    · (intro wS hwS; (try dsimp only at hwS); go_simp; (try with_reducible rfl))
    (try simp only [Act.put, List.setIfInBounds_toArray, List.set_cons_zero, List.set_cons_succ])
    refine ru_take 4 [] (v := ?_) rfl (by kernel_rfl) (fun _ _ _ h => h) (by assumption) (.inl ⟨by first | kernel_rfl | rfl, ?_⟩) ?_
    rotate_left
    · (intro wS hwS; (try dsimp only at hwS); go_simp; (try with_reducible rfl))
    (try simp only [Act.put, List.setIfInBounds_toArray, List.set_cons_zero, List.set_cons_succ])
    clear hS115
    refine ru_one 5 rfl (by kernel_rfl) (fun K hK => ?_)
    go_simp
    refine (run_ok _ _ _ l ic _ _ _ (dl.drop kk) _ (F114.at 10 rfl : Sl covEnc 3 lo_l hi_l _ (.slice sal l.cov.length scl) l.cov) (by first | omega | (simp; omega)) (F114.at 0 rfl : Sl weaEnc 6 ld_dl hd_dl _ (.slice sx111 (dl.length - kk) (dc_dl - kk)) (dl.drop kk)) (by first | omega | (simp; omega)) (allE_drop kk HFl.out hic (fun d_ h_ => (HDdl.out d_ h_).1) (by omega))).mono ?_
    rintro e w119 ⟨ra_c, rc_c, rl_c, rh_c, rfl, ⟨rxc, ryc, rzc⟩, rwc, hg117⟩
    rw [show (dl.drop kk).length = (dl.length - kk) from by rw [List.length_drop]] at rzc rwc ⊢
    have hg117s := hg117.size
    (try simp at hg117s)
    have F120 := F114.add (rsl iceEnc 8 rl_c rh_c (.slice ra_c (dl.length - kk) rc_c) (runN l ic (dl.drop kk) (dl.length - kk))) hg117 (rwc) (fun g e => ⟨Nat.le_trans rxc e.1, Nat.lt_of_lt_of_le e.2 ryc⟩)
    clear F114
    refine ru_back hK (by exact ⟨F120.cl 10 0 rfl rfl, F120.cl 10 1 rfl rfl, F120.cl 10 2 rfl rfl, F120.cl 10 3 rfl rfl, F120.cl 10 4 rfl rfl, F120.cl 10 5 rfl rfl, F120.cl 10 6 rfl rfl, F120.cl 10 7 rfl rfl, F120.cl 2 0 rfl rfl, F120.cl 2 1 rfl rfl, F120.cl 2 2 rfl rfl, F120.cl 2 3 rfl rfl, F120.cl 2 4 rfl rfl, F120.cl 2 5 rfl rfl, F120.cl 2 6 rfl rfl, F120.cl 2 7 rfl rfl⟩) (fun hHeld => ?_)
    clear hK K
    (try simp only [Act.put, List.setIfInBounds_toArray, List.set_cons_zero, List.set_cons_succ])
    refine ru_pure 6 (v := ?_) rfl (by kernel_rfl) (fun _ _ _ h => h) (fun hd_ => by first | assumption | (exact absurd hd_ (by decide))) (.inl ⟨by first | kernel_rfl | rfl, ?_⟩) ?_
    rotate_left
    · (intro wS hwS; clear hwS; go_simp; (try with_reducible rfl))
    (try simp only [Act.put, List.setIfInBounds_toArray, List.set_cons_zero, List.set_cons_succ])
    refine ru_pure 7 (v := ?_) rfl (by kernel_rfl) (fun _ _ _ h => h) (fun hd_ => by first | assumption | (exact absurd hd_ (by decide))) (.inl ⟨by first | kernel_rfl | rfl, ?_⟩) ?_
    rotate_left
    · (intro wS hwS; clear hwS; go_simp; (try with_reducible rfl))
    (try simp only [Act.put, List.setIfInBounds_toArray, List.set_cons_zero, List.set_cons_succ])
    refine ru_pure 8 (v := ?_) rfl (by kernel_rfl) (fun _ _ _ h => h) (fun hd_ => by first | assumption | (exact absurd hd_ (by decide))) (.inl ⟨by first | kernel_rfl | rfl, ?_⟩) ?_
    rotate_left
    · (intro wS hwS; clear hwS; go_simp; (try with_reducible rfl))
    (try simp only [Act.put, List.setIfInBounds_toArray, List.set_cons_zero, List.set_cons_succ])
    refine ru_pure 9 (v := ?_) rfl (by kernel_rfl) (fun _ _ _ h => h) (fun hd_ => by first | assumption | (exact absurd hd_ (by decide))) (.inl ⟨by first | kernel_rfl | rfl, ?_⟩) ?_
    rotate_left
    · (intro wS hwS; clear hwS; go_simp; (try with_reducible rfl))
    (try simp only [Act.put, List.setIfInBounds_toArray, List.set_cons_zero, List.set_cons_succ])
    refine ru_one 10 rfl (by kernel_rfl) (fun K hK => ?_)
    go_simp
    refine ru_back_late hK (by kernel_rfl) ?_
    clear hK K
    (try simp only [Act.put, List.setIfInBounds_toArray, List.set_cons_zero, List.set_cons_succ])
    refine ru_done (by kernel_rfl) ?_
    (try clear hi113)
    obtain ⟨w121, hx122, F124, hxs123⟩ := (show Bun w [rsl iceEnc 8 rl_c rh_c (.slice ra_c (dl.length - kk) rc_c) (runN l ic (dl.drop kk) (dl.length - kk)), rsl weaEnc 6 ld_dl hd_dl (.slice sx111 (dl.length - kk) (dc_dl - kk)) (dl.drop kk), rsl iceEnc 8 rl_a rh_a (.slice ra_a kk rc_a) ((runN l ic dl dl.length).take kk), rsl iceEnc 8 rl_b rh_b (.slice ra_b kk rc_b) (runN l ic (dl.take kk) kk), rsl weaEnc 6 ld_dl hd_dl (.slice da_dl kk dc_dl) (dl.take kk), rsl iceEnc 8 rl_a rh_a (.slice ra_a dl.length rc_a) (runN l ic dl dl.length), rsl weaEnc 6 ld_dl hd_dl (.slice da_dl dl.length dc_dl) dl, rseed sb, rsl covEnc 3 lo_l hi_l (.slice sal l.cov.length scl) l.cov, rsl intEnc 1 0 w.heap.size (.slice na zs.length nc) zs] _ from (((F120.drop 2 rfl).drop 8 rfl).drop 8 rfl)).name
    (try simp at hxs123)
    rw [hx122]
    clear hx122 F120
    obtain ⟨sx125, esx125_⟩ : ∃ z_ : Option Addr, (if rc_a = kk then ra_a else ra_a.map (·.add (kk * 8))) = z_ := ⟨_, rfl⟩
    have Esx125 := Lib.hid esx125_
    clear esx125_
    have F126 := F124.more 5 (rsl iceEnc 8 rl_a rh_a (.slice sx125 (dl.length - kk) (rc_a - kk)) ((runN l ic dl dl.length).drop kk)) rfl rfl rfl (fun _ h_ => h_) ((by have h_ := Sl.drop (F124.at 5 rfl : Sl iceEnc 8 rl_a rh_a _ (.slice ra_a dl.length rc_a) (runN l ic dl dl.length)) (k := kk) (by rw [runN_len]; omega) (by rw [runN_len]; omega); rw [Esx125.out] at h_; exact h_))
    clear F124
    have ge127 : ∀ w, (Instr.sliceAt 54 (.slice ra_a dl.length rc_a) (some (.int .i64 (kk : Int))) none none).run Try.prog w = .ok (.slice sx125 (dl.length - kk) (rc_a - kk)) w := fun w => (by have h_ := slice_suf okIce (a := ra_a) (n := dl.length) (c := rc_a) (k := kk) (by omega) w; rw [Esx125.out] at h_; exact h_)
    go_wp2_with fail
    clear ge127
    refine (sameIce_c _ _ _ _ _ _ ((runN l ic dl dl.length).drop kk) _ (F126.at 0 rfl : Sl iceEnc 8 rl_a rh_a _ (.slice sx125 (dl.length - kk) (rc_a - kk)) ((runN l ic dl dl.length).drop kk)) (by first | omega | (simp; omega)) (by have h_ := (F126.at 1 rfl : Sl iceEnc 8 rl_c rh_c _ (.slice ra_c (dl.length - kk) rc_c) (runN l ic (dl.drop kk) (dl.length - kk))); rw [show runN l ic (dl.drop kk) (dl.length - kk) = (runN l ic dl dl.length).drop kk from (by have e_ := runN_drop (l := l) (x := ic) (dl := dl) (k := kk) (n := dl.length) (by omega); rw [show stI l ic dl kk = ic from by rw [HKZ.out]; rfl] at e_; exact e_)] at h_; exact h_) (by first | omega | (simp; omega))).mono ?_
    rintro e w130 ⟨rfl, hg128⟩
    have hg128s := hg128.size
    (try simp at hg128s)
    have F131 := F126.gn hg128
    clear F126
    clear hg128
    go_wp2_with fail
    refine (awake_c _).mono ?_
    rintro e w134 ⟨rfl, hg132⟩
    have hg132s := hg132.size
    (try simp at hg132s)
    have F135 := F131.gn hg132
    clear F131
    clear hg132
    go_wp2_with fail
    go_ret
    exact ⟨rfl, F135.gb⟩

end Go.Proofs.Ythblaiefalbomaa
