/- build: the chapter's other examples. -/
import Derived.Test.YtcoldeolmleeiaaGreatKGG11
import Derived.Test.YtcoldeolmleeiaaGreatKLk4
import Derived.Test.YtcoldeolmleeiaaGreatKKC
set_option linter.unusedVariables false
set_option linter.unusedSimpArgs false
set_option linter.unnecessarySimpa false
namespace Go.Proofs.YtcoldeolmleeiaaGreat
open Go.RowKit
set_option maxRecDepth 100000
attribute [local go_sem] Oper.semAt_some
theorem knSlk (k x : Int) (lo hi : Nat) (vm vt : Value) (av : Value) (lo2 hi2 : Nat) (vd : Value) (w : World) (hj : JobAt lo hi w vm vt jobM (jobT av)) (h2 : hi <= w.heap.size) (hd : Sl weaEnc 6 lo2 hi2 w vd weekD) (h3 : hi2 <= w.heap.size) (hx : slkN jobM (jobT av) weekD k = x) (he : slkE jobM (jobT av) weekD k = 0) :
  Calls Tryz.prog 23 #[.agg #[vm, vt], vd, .int .i64 k] w (Ret (.tuple #[.int .i64 x, .int .i64 0]) w) := by
 have h := slack_c lo hi vm vt jobM (jobT av) lo2 hi2 vd weekD k w hj h2 hd h3
 rw [hx, he] at h
 exact h
theorem knChn (lo hi : Nat) (vm vt : Value) (av : Value) (lo2 hi2 : Nat) (vd : Value) (w : World) (hj : JobAt lo hi w vm vt jobM (jobT av)) (h2 : hi <= w.heap.size) (hd : Sl weaEnc 6 lo2 hi2 w vd weekD) (h3 : hi2 <= w.heap.size) :
  Calls Tryz.prog 24 #[.agg #[vm, vt], vd] w (fun e w' => ∃ (a : Option Addr) (c lo hi : Nat), e = .returned (.tuple #[.slice a 2 c, .int .i64 0]) /\ (w.heap.size <= lo /\ hi <= w'.heap.size) /\ Sl intEnc 1 lo hi w' (.slice a 2 c) [0, 1] /\ w.grownBy w' none) := by
 refine (bchain_c lo hi vm vt jobM (jobT av) lo2 hi2 vd weekD w hj h2 hd h3).mono ?_
 rintro e w' ⟨a, c, lo', hi', he, h4, hs, hg⟩
 rw [kn_cc, kn_ce] at he
 rw [kn_cc] at hs
 exact ⟨a, c, lo', hi', he, h4, hs, hg⟩
theorem knBst (lo hi : Nat) (vm vt : Value) (av : Value) (lo2 hi2 : Nat) (vd : Value) (w : World) (hj : JobAt lo hi w vm vt jobM (jobT av)) (h2 : hi <= w.heap.size) (hd : Sl weaEnc 6 lo2 hi2 w vd weekD) (h3 : hi2 <= w.heap.size) :
  Calls Tryz.prog 25 #[.agg #[vm, vt], vd] w (fun e w' => ∃ (a : Option Addr) (c lo hi : Nat), e = .returned (.tuple #[.slice a 3 c, .int .i64 60, .int .i64 0]) /\ (w.heap.size <= lo /\ hi <= w'.heap.size) /\ Sl intEnc 1 lo hi w' (.slice a 3 c) [0, 1, 2] /\ w.grownBy w' none) := by
 refine (best_c lo hi vm vt jobM (jobT av) lo2 hi2 vd weekD w hj h2 hd h3).mono ?_
 rintro e w' ⟨a, c, lo', hi', he, h4, hs, hg⟩
 rw [kn_bo, kn_bh, kn_be] at he
 rw [kn_bo] at hs
 exact ⟨a, c, lo', hi', he, h4.1, hs, hg⟩
theorem knThk (lo hi : Nat) (v : Value) (lo2 hi2 : Nat) (vd : Value) (w : World) (hl : Sl covEnc 3 lo hi w v lawF.cov) (h2 : hi <= w.heap.size) (hl2 : Sl weaEnc 6 lo2 hi2 w vd knD) (h22 : hi2 <= w.heap.size) :
  Calls Tryz.prog 26 #[.agg #[.int .i64 100, .int .i64 10, v, .int .i64 100000, .int .i64 200000, .int .i64 300000, .int .i64 500000, .int .i64 600000], .agg #[.int .i64 300, .int .i64 300, .int .i64 0, .int .i64 0, .int .i64 0, .int .i64 0, .int .i64 0, .int .i64 0], vd, .int .i64 307, .int .i64 50] w (fun e w' => ∃ (a : Option Addr) (c lo hi : Nat), e = .returned (.tuple #[.slice a 2 c, .int .i64 2, .int .i64 0]) /\ (w.heap.size <= lo /\ hi <= w'.heap.size) /\ Sl intEnc 1 lo hi w' (.slice a 2 c) [10, 5] /\ w.grownBy w' none) := by
 refine (thicken_c lo hi v lawF (blk ⟨300, 300⟩) lo2 hi2 vd knD 307 50 w hl h2 hl2 h22).mono ?_
 rintro e w' ⟨a, c, lo', hi', he, h4, hs, hg⟩
 rw [kn_tw, kn_td, kn_te] at he
 rw [kn_tw] at hs
 exact ⟨a, c, lo', hi', he, h4.1, hs, hg⟩
theorem knLnk (lo hi : Nat) (v : Value) (w : World) (hl : Sl lgEnc 5 lo hi w v netL) (h2 : hi <= w.heap.size) :
  Calls Tryz.prog 27 #[.agg #[.int .i64 3, v]] w (fun e w' => ∃ (a : Option Addr) (c lo hi : Nat), e = .returned (.tuple #[.slice a 2 c, .int .i64 6, .int .i64 0]) /\ (w.heap.size <= lo /\ hi <= w'.heap.size) /\ Sl intEnc 1 lo hi w' (.slice a 2 c) [0, 3] /\ w.grownBy w' none) := by
 refine (link_c lo hi v netL 3 w hl h2 (by omega) kn_lr).mono ?_
 rintro e w' ⟨a, c, lo', hi', he, h4, hs, hg⟩
 rw [kn_ll, kn_lc, kn_le] at he
 rw [kn_ll] at hs
 exact ⟨a, c, lo', hi', he, h4, hs, hg⟩
theorem rng_others_c (t : Nat -> Value) : ((List.range 127).map t).toArray = List.toArray [t 0, t 1, t 2, t 3, t 4, t 5, t 6, t 7, t 8, t 9, t 10, t 11, t 12, t 13, t 14, t 15, t 16, t 17, t 18, t 19, t 20, t 21, t 22, t 23, t 24, t 25, t 26, t 27, t 28, t 29, t 30, t 31, t 32, t 33, t 34, t 35, t 36, t 37, t 38, t 39, t 40, t 41, t 42, t 43, t 44, t 45, t 46, t 47, t 48, t 49, t 50, t 51, t 52, t 53, t 54, t 55, t 56, t 57, t 58, t 59, t 60, t 61, t 62, t 63, t 64, t 65, t 66, t 67, t 68, t 69, t 70, t 71, t 72, t 73, t 74, t 75, t 76, t 77, t 78, t 79, t 80, t 81, t 82, t 83, t 84, t 85, t 86, t 87, t 88, t 89, t 90, t 91, t 92, t 93, t 94, t 95, t 96, t 97, t 98, t 99, t 100, t 101, t 102, t 103, t 104, t 105, t 106, t 107, t 108, t 109, t 110, t 111, t 112, t 113, t 114, t 115, t 116, t 117, t 118, t 119, t 120, t 121, t 122, t 123, t 124, t 125, t 126] := rfl
set_option maxHeartbeats 32000000 in
theorem others_c  (w : World)  :
  Calls Tryz.prog 12 #[] w (Ret (.bool true) w) := by
 have F1 : Bun w [] w := Bun.nil _
 go_enter Tryz.func12, Tryz.ntmps12
 go_wp2_with fail
 replace F1 := F1.new 3 #[.int .i64 0, .int .i64 0, .int .i64 10] (n := w.heap.size) (by simp)
 refine wp_loop_rounds 4 ?_
 rw [rounds_succ]
 go_wp2_with fail
 refine (ajob_b _).mono ?_
 rintro e w4 ⟨avj3, a1j3, a2j3, c1j3, c2j3, loj3, hij3, rfl, ⟨hlj3, hyj3⟩, hB5⟩
 have hB5s := hB5.gb.size
 (try simp at hB5s)
 replace F1 := F1.joinV (L2 := [rsl mchEnc 3 loj3 hij3 (.slice a1j3 2 c1j3) jobM, rsl tskEnc 8 loj3 hij3 (.slice a2j3 3 c2j3) (jobT avj3), rafs loj3 hij3 (jobT avj3)]) hB5 (lfm ⟨fun g hx => Nat.le_trans hlj3 hx.1, lfm ⟨fun g hx => Nat.le_trans hlj3 hx.1, lfm ⟨fun g hx => Nat.le_trans hlj3 hx.1, fun _ h => by cases h⟩⟩⟩)
 clear hB5
 (try dsimp only [List.cons_append, List.nil_append] at F1)
 go_wp2_with fail
 refine (aweek_b _).mono ?_
 rintro e w10 ⟨as7, cs7, los7, his7, rfl, ⟨hxs7, hys7⟩, hzs7, hg8⟩
 have hg8s := hg8.size
 (try simp at hg8s)
 replace F1 := F1.add (rsl weaEnc 6 los7 his7 (.slice as7 4 cs7) weekD) hg8 (hzs7) (fun g e => ⟨Nat.le_trans hxs7 e.1, Nat.lt_of_lt_of_le e.2 hys7⟩)
 clear hg8
 go_wp2_with fail
 refine (knSlk 0 0 loj3 hij3 _ _ avj3 _ _ _ _ (JobAt.mk (F1.s 1 rfl) (F1.s 2 rfl) (F1.at 3 rfl : Afs loj3 hij3 _ (jobT avj3))) (by first | omega | (simp; omega)) (F1.s 0 rfl) (by first | omega | (simp; omega)) (kn_s0 _) (kn_f0 _)).mono ?_
 rintro e w14 ⟨rfl, hg12⟩
 have hg12s := hg12.size
 (try simp at hg12s)
 replace F1 := F1.gn hg12
 clear hg12
 have b16 := F1.bx3 4 rfl
 go_wp2_with fail
 clear b16
 rw [rounds_succ]
 have F17 : Bun w [rbox w.heap.size 3 #[.int .i64 0, .int .i64 0, .int .i64 10]] _ := F1.pick [4] (by decide) rfl
 clear F1
 go_wp2_with fail
 refine (ajob_b _).mono ?_
 rintro e w19 ⟨avj18, a1j18, a2j18, c1j18, c2j18, loj18, hij18, rfl, ⟨hlj18, hyj18⟩, hB20⟩
 have hB20s := hB20.gb.size
 (try simp at hB20s)
 replace F17 := F17.joinV (L2 := [rsl mchEnc 3 loj18 hij18 (.slice a1j18 2 c1j18) jobM, rsl tskEnc 8 loj18 hij18 (.slice a2j18 3 c2j18) (jobT avj18), rafs loj18 hij18 (jobT avj18)]) hB20 (lfm ⟨fun g hx => Nat.le_trans hlj18 hx.1, lfm ⟨fun g hx => Nat.le_trans hlj18 hx.1, lfm ⟨fun g hx => Nat.le_trans hlj18 hx.1, fun _ h => by cases h⟩⟩⟩)
 clear hB20
 (try dsimp only [List.cons_append, List.nil_append] at F17)
 go_wp2_with fail
 refine (aweek_b _).mono ?_
 rintro e w25 ⟨as22, cs22, los22, his22, rfl, ⟨hxs22, hys22⟩, hzs22, hg23⟩
 have hg23s := hg23.size
 (try simp at hg23s)
 replace F17 := F17.add (rsl weaEnc 6 los22 his22 (.slice as22 4 cs22) weekD) hg23 (hzs22) (fun g e => ⟨Nat.le_trans hxs22 e.1, Nat.lt_of_lt_of_le e.2 hys22⟩)
 clear hg23
 go_wp2_with fail
 refine (knSlk 1 0 loj18 hij18 _ _ avj18 _ _ _ _ (JobAt.mk (F17.s 1 rfl) (F17.s 2 rfl) (F17.at 3 rfl : Afs loj18 hij18 _ (jobT avj18))) (by first | omega | (simp; omega)) (F17.s 0 rfl) (by first | omega | (simp; omega)) (kn_s1 _) (kn_f1 _)).mono ?_
 rintro e w29 ⟨rfl, hg27⟩
 have hg27s := hg27.size
 (try simp at hg27s)
 replace F17 := F17.gn hg27
 clear hg27
 have b31 := F17.bx3 4 rfl
 go_wp2_with fail
 clear b31
 rw [rounds_succ]
 have F32 : Bun w [rbox w.heap.size 3 #[.int .i64 0, .int .i64 0, .int .i64 10]] _ := F17.pick [4] (by decide) rfl
 clear F17
 go_wp2_with fail
 refine (ajob_b _).mono ?_
 rintro e w34 ⟨avj33, a1j33, a2j33, c1j33, c2j33, loj33, hij33, rfl, ⟨hlj33, hyj33⟩, hB35⟩
 have hB35s := hB35.gb.size
 (try simp at hB35s)
 replace F32 := F32.joinV (L2 := [rsl mchEnc 3 loj33 hij33 (.slice a1j33 2 c1j33) jobM, rsl tskEnc 8 loj33 hij33 (.slice a2j33 3 c2j33) (jobT avj33), rafs loj33 hij33 (jobT avj33)]) hB35 (lfm ⟨fun g hx => Nat.le_trans hlj33 hx.1, lfm ⟨fun g hx => Nat.le_trans hlj33 hx.1, lfm ⟨fun g hx => Nat.le_trans hlj33 hx.1, fun _ h => by cases h⟩⟩⟩)
 clear hB35
 (try dsimp only [List.cons_append, List.nil_append] at F32)
 go_wp2_with fail
 refine (aweek_b _).mono ?_
 rintro e w40 ⟨as37, cs37, los37, his37, rfl, ⟨hxs37, hys37⟩, hzs37, hg38⟩
 have hg38s := hg38.size
 (try simp at hg38s)
 replace F32 := F32.add (rsl weaEnc 6 los37 his37 (.slice as37 4 cs37) weekD) hg38 (hzs37) (fun g e => ⟨Nat.le_trans hxs37 e.1, Nat.lt_of_lt_of_le e.2 hys37⟩)
 clear hg38
 go_wp2_with fail
 refine (knSlk 2 10 loj33 hij33 _ _ avj33 _ _ _ _ (JobAt.mk (F32.s 1 rfl) (F32.s 2 rfl) (F32.at 3 rfl : Afs loj33 hij33 _ (jobT avj33))) (by first | omega | (simp; omega)) (F32.s 0 rfl) (by first | omega | (simp; omega)) (kn_s2 _) (kn_f2 _)).mono ?_
 rintro e w44 ⟨rfl, hg42⟩
 have hg42s := hg42.size
 (try simp at hg42s)
 replace F32 := F32.gn hg42
 clear hg42
 have b46 := F32.bx3 4 rfl
 go_wp2_with fail
 clear b46
 rw [rounds_succ]
 go_wp2_with fail
 refine (aone_c 1000000 _).mono ?_
 rintro e w49 ⟨rfl, hg47⟩
 have hg47s := hg47.size
 (try simp at hg47s)
 replace F32 := F32.gn hg47
 clear hg47
 go_wp2_with fail
 refine (aspan_c 400000 500000 _).mono ?_
 rintro e w53 ⟨rfl, hg51⟩
 have hg51s := hg51.size
 (try simp at hg51s)
 replace F32 := F32.gn hg51
 clear hg51
 go_wp2_with fail
 replace F32 := F32.new 75 #[.int .i64 0, .int .i64 1000000, .int .i64 1000000, .int .i64 100, .int .i64 400000, .int .i64 500000] (n := w53.heap.size) (by simp)
 refine (aspan_c 100000 200000 _).mono ?_
 rintro e w58 ⟨rfl, hg56⟩
 have hg56s := hg56.size
 (try simp at hg56s)
 replace F32 := F32.gn hg56
 clear hg56
 go_wp2_with fail
 refine (aspan_c 500000 600000 _).mono ?_
 rintro e w62 ⟨rfl, hg60⟩
 have hg60s := hg60.size
 (try simp at hg60s)
 replace F32 := F32.gn hg60
 clear hg60
 go_wp2_with fail
 replace F32 := F32.new 78 #[.int .i64 100, .int .i64 10, .slice (some ⟨w53.heap.size, 0, none⟩) 2 2, .int .i64 100000, .int .i64 200000, .int .i64 300000, .int .i64 500000, .int .i64 600000] (n := w62.heap.size) (by simp)
 have F65 : Bun w [rbox w62.heap.size 78 #[.int .i64 100, .int .i64 10, .slice (some ⟨w53.heap.size, 0, none⟩) 2 2, .int .i64 100000, .int .i64 200000, .int .i64 300000, .int .i64 500000, .int .i64 600000], rbox w53.heap.size 75 #[.int .i64 0, .int .i64 1000000, .int .i64 1000000, .int .i64 100, .int .i64 400000, .int .i64 500000], rbox w.heap.size 3 #[.int .i64 0, .int .i64 0, .int .i64 10]] _ := F32.pick [0, 1, 6] (by decide) rfl
 clear F32
 go_wp2_with fail
 refine (ajob_b _).mono ?_
 rintro e w67 ⟨avj66, a1j66, a2j66, c1j66, c2j66, loj66, hij66, rfl, ⟨hlj66, hyj66⟩, hB68⟩
 have hB68s := hB68.gb.size
 (try simp at hB68s)
 replace F65 := F65.joinV (L2 := [rsl mchEnc 3 loj66 hij66 (.slice a1j66 2 c1j66) jobM, rsl tskEnc 8 loj66 hij66 (.slice a2j66 3 c2j66) (jobT avj66), rafs loj66 hij66 (jobT avj66)]) hB68 (lfm ⟨fun g hx => Nat.le_trans hlj66 hx.1, lfm ⟨fun g hx => Nat.le_trans hlj66 hx.1, lfm ⟨fun g hx => Nat.le_trans hlj66 hx.1, fun _ h => by cases h⟩⟩⟩)
 clear hB68
 (try dsimp only [List.cons_append, List.nil_append] at F65)
 go_wp2_with fail
 refine (aweek_b _).mono ?_
 rintro e w73 ⟨as70, cs70, los70, his70, rfl, ⟨hxs70, hys70⟩, hzs70, hg71⟩
 have hg71s := hg71.size
 (try simp at hg71s)
 replace F65 := F65.add (rsl weaEnc 6 los70 his70 (.slice as70 4 cs70) weekD) hg71 (hzs70) (fun g e => ⟨Nat.le_trans hxs70 e.1, Nat.lt_of_lt_of_le e.2 hys70⟩)
 clear hg71
 go_wp2_with fail
 refine (knChn loj66 hij66 _ _ avj66 _ _ _ _ (JobAt.mk (F65.s 1 rfl) (F65.s 2 rfl) (F65.at 3 rfl : Afs loj66 hij66 _ (jobT avj66))) (by first | omega | (simp; omega)) (F65.s 0 rfl) (by first | omega | (simp; omega))).mono ?_
 rintro e w78 ⟨as75, cs75, los75, his75, rfl, ⟨hxs75, hys75⟩, hzs75, hg76⟩
 have hg76s := hg76.size
 (try simp at hg76s)
 replace F65 := F65.add (rsl intEnc 1 los75 his75 (.slice as75 2 cs75) ([0, 1])) hg76 (hzs75) (fun g e => ⟨Nat.le_trans hxs75 e.1, Nat.lt_of_lt_of_le e.2 hys75⟩)
 clear hg76
 have F80 : Bun w [rsl intEnc 1 los75 his75 (.slice as75 2 cs75) ([0, 1]), rbox w62.heap.size 78 #[.int .i64 100, .int .i64 10, .slice (some ⟨w53.heap.size, 0, none⟩) 2 2, .int .i64 100000, .int .i64 200000, .int .i64 300000, .int .i64 500000, .int .i64 600000], rbox w53.heap.size 75 #[.int .i64 0, .int .i64 1000000, .int .i64 1000000, .int .i64 100, .int .i64 400000, .int .i64 500000], rbox w.heap.size 3 #[.int .i64 0, .int .i64 0, .int .i64 10]] _ := F65.pick [0, 5, 6, 7] (by decide) rfl
 clear F65
 go_wp2_with fail
 refine (ajob_b _).mono ?_
 rintro e w82 ⟨avj81, a1j81, a2j81, c1j81, c2j81, loj81, hij81, rfl, ⟨hlj81, hyj81⟩, hB83⟩
 have hB83s := hB83.gb.size
 (try simp at hB83s)
 replace F80 := F80.joinV (L2 := [rsl mchEnc 3 loj81 hij81 (.slice a1j81 2 c1j81) jobM, rsl tskEnc 8 loj81 hij81 (.slice a2j81 3 c2j81) (jobT avj81), rafs loj81 hij81 (jobT avj81)]) hB83 (lfm ⟨fun g hx => Nat.le_trans hlj81 hx.1, lfm ⟨fun g hx => Nat.le_trans hlj81 hx.1, lfm ⟨fun g hx => Nat.le_trans hlj81 hx.1, fun _ h => by cases h⟩⟩⟩)
 clear hB83
 (try dsimp only [List.cons_append, List.nil_append] at F80)
 go_wp2_with fail
 refine (aweek_b _).mono ?_
 rintro e w88 ⟨as85, cs85, los85, his85, rfl, ⟨hxs85, hys85⟩, hzs85, hg86⟩
 have hg86s := hg86.size
 (try simp at hg86s)
 replace F80 := F80.add (rsl weaEnc 6 los85 his85 (.slice as85 4 cs85) weekD) hg86 (hzs85) (fun g e => ⟨Nat.le_trans hxs85 e.1, Nat.lt_of_lt_of_le e.2 hys85⟩)
 clear hg86
 go_wp2_with fail
 refine (knBst loj81 hij81 _ _ avj81 _ _ _ _ (JobAt.mk (F80.s 1 rfl) (F80.s 2 rfl) (F80.at 3 rfl : Afs loj81 hij81 _ (jobT avj81))) (by first | omega | (simp; omega)) (F80.s 0 rfl) (by first | omega | (simp; omega))).mono ?_
 rintro e w93 ⟨as90, cs90, los90, his90, rfl, ⟨hxs90, hys90⟩, hzs90, hg91⟩
 have hg91s := hg91.size
 (try simp at hg91s)
 replace F80 := F80.add (rsl intEnc 1 los90 his90 (.slice as90 3 cs90) ([0, 1, 2])) hg91 (hzs90) (fun g e => ⟨Nat.le_trans hxs90 e.1, Nat.lt_of_lt_of_le e.2 hys90⟩)
 clear hg91
 go_wp2_with fail
 replace F80 := F80.drew
 refine ru_begin (fun W => C8 W w62.heap.size (.int .i64 100) (.int .i64 10) (.slice (some ⟨w53.heap.size, 0, none⟩) 2 2) (.int .i64 100000) (.int .i64 200000) (.int .i64 300000) (.int .i64 500000) (.int .i64 600000)) 15 (by kernel_rfl) ?_ ?_
 · exact (F80.c8 6)
 obtain ⟨wd98, hwd_⟩ : ∃ x : World, w93.drew = x := ⟨_, rfl⟩
 rw [hwd_] at F80 ⊢
 have wd98s : w93.heap.size <= wd98.heap.size := by rw [← hwd_]; exact Nat.le_refl _
 clear hwd_
 have hS97 := (F80.c8 6)
 refine ru_t 0 [] ?_
 (try simp only [lpX])
 clear hS97
 refine ru_state 127 (fun t w_ => ∃ (yg7 : Nat) (as99 : Option Addr) (cs99 : Nat) (los99 : Nat) (his99 : Nat), (w.heap.size <= los99) /\ (his99 <= w_.heap.size) /\ t 6 = .slice as75 2 cs75 /\ t 7 = .int .i64 0 /\ t 8 = .slice as90 3 cs90 /\ t 9 = .int .i64 60 /\ t 10 = .int .i64 0 /\ t 11 = .slice as99 2 cs99 /\ t 12 = .int .i64 2 /\ t 13 = .int .i64 0 /\ w93.heap.size <= w_.heap.size /\ Bun w [rsl intEnc 1 los99 his99 (.slice as99 2 cs99) ([10, 5]), rbox yg7 61 #[.int .i64 100, .int .i64 100, .int .i64 0, .int .i64 0, .int .i64 0, .bool false, .int .i64 50, .int .i64 50, .int .i64 0, .int .i64 0, .int .i64 0, .bool false], rsl intEnc 1 los90 his90 (.slice as90 3 cs90) ([0, 1, 2]), rsl weaEnc 6 los85 his85 (.slice as85 4 cs85) weekD, rsl mchEnc 3 loj81 hij81 (.slice a1j81 2 c1j81) jobM, rsl tskEnc 8 loj81 hij81 (.slice a2j81 3 c2j81) (jobT avj81), rafs loj81 hij81 (jobT avj81), rsl intEnc 1 los75 his75 (.slice as75 2 cs75) ([0, 1]), rbox w62.heap.size 78 #[.int .i64 100, .int .i64 10, .slice (some ⟨w53.heap.size, 0, none⟩) 2 2, .int .i64 100000, .int .i64 200000, .int .i64 300000, .int .i64 500000, .int .i64 600000], rbox w53.heap.size 75 #[.int .i64 0, .int .i64 1000000, .int .i64 1000000, .int .i64 100, .int .i64 400000, .int .i64 500000], rbox w.heap.size 3 #[.int .i64 0, .int .i64 0, .int .i64 10]] w_) #[true, true, true, true, true, true, true, true, true, true, true, true, true, true, true, true] 0 ?st100 ?nx100
 case st100 =>
  rintro t w101 ⟨yg7, as99, cs99, los99, his99, hxs99, hys99, e6, e7, e8, e9, e10, e11, e12, e13, hsz100, F102⟩
  clear F80
  rw [rng_others_c t, e6, e7, e8, e9, e10, e11, e12, e13]
  clear e6 e7 e8 e9 e10 e11 e12 e13
  have hws100 := F102.gb.size
  have yg7l := F102.ltAt 1 rfl yg7 rfl
  have yg7b := yg7l.2 rfl
  refine ru_done (by kernel_rfl) ?_
  have Fn_ := ((((F102.drop 1 rfl).drop 7 rfl).drop 7 rfl).drop 7 rfl)
  (try dsimp only [lpF, lpG] at Fn_)
  obtain ⟨w103, hx104, F106, hxs105⟩ := Fn_.name
  (try simp at hxs105)
  rw [hx104]
  clear hx104 F102 Fn_
  have F107 : Bun w [rsl intEnc 1 los99 his99 (.slice as99 2 cs99) ([10, 5]), rsl intEnc 1 los90 his90 (.slice as90 3 cs90) ([0, 1, 2]), rsl intEnc 1 los75 his75 (.slice as75 2 cs75) ([0, 1])] _ := F106.pick [0, 1, 6] (by decide) rfl
  clear F106
  go_wp2_with fail
  refine (anet_b _).mono ?_
  rintro e w111 ⟨as108, cs108, los108, his108, rfl, ⟨hxs108, hys108⟩, hzs108, hg109⟩
  have hg109s := hg109.size
  (try simp at hg109s)
  replace F107 := F107.add (rsl lgEnc 5 los108 his108 (.slice as108 4 cs108) netL) hg109 (hzs108) (fun g e => ⟨Nat.le_trans hxs108 e.1, Nat.lt_of_lt_of_le e.2 hys108⟩)
  clear hg109
  go_wp2_with fail
  refine (knLnk _ _ _ _ (F107.s 0 rfl) (by first | omega | (simp; omega))).mono ?_
  rintro e w116 ⟨as113, cs113, los113, his113, rfl, ⟨hxs113, hys113⟩, hzs113, hg114⟩
  have hg114s := hg114.size
  (try simp at hg114s)
  replace F107 := F107.add (rsl intEnc 1 los113 his113 (.slice as113 2 cs113) ([0, 3])) hg114 (hzs113) (fun g e => ⟨Nat.le_trans hxs113 e.1, Nat.lt_of_lt_of_le e.2 hys113⟩)
  clear hg114
  go_wp2_with fail
  replace F107 := F107.new 3 #[.int .i64 0, .int .i64 1] (n := w116.heap.size) (by simp)
  refine (same_t _ _ _ _ _ _ [0, 1] _ (F107.s 5 rfl) (slI_of [0, 1] 2 2 (F107.b 0 rfl) rfl rfl (by omega))).mono ?_
  rintro e w121 ⟨rfl, hg119⟩
  have hg119s := hg119.size
  (try simp at hg119s)
  replace F107 := F107.gn hg119
  clear hg119
  go_wp2_with fail
  replace F107 := F107.new 3 #[.int .i64 0, .int .i64 1, .int .i64 2] (n := w121.heap.size) (by simp)
  refine (same_t _ _ _ _ _ _ [0, 1, 2] _ (F107.s 5 rfl) (slI_of [0, 1, 2] 3 3 (F107.b 0 rfl) rfl rfl (by omega))).mono ?_
  rintro e w126 ⟨rfl, hg124⟩
  have hg124s := hg124.size
  (try simp at hg124s)
  replace F107 := F107.gn hg124
  clear hg124
  go_wp2_with fail
  replace F107 := F107.new 3 #[.int .i64 10, .int .i64 5] (n := w126.heap.size) (by simp)
  refine (same_t _ _ _ _ _ _ [10, 5] _ (F107.s 5 rfl) (slI_of [10, 5] 2 2 (F107.b 0 rfl) rfl rfl (by omega))).mono ?_
  rintro e w131 ⟨rfl, hg129⟩
  have hg129s := hg129.size
  (try simp at hg129s)
  replace F107 := F107.gn hg129
  clear hg129
  go_wp2_with fail
  replace F107 := F107.new 3 #[.int .i64 0, .int .i64 3] (n := w131.heap.size) (by simp)
  refine (same_t _ _ _ _ _ _ [0, 3] _ (F107.s 4 rfl) (slI_of [0, 3] 2 2 (F107.b 0 rfl) rfl rfl (by omega))).mono ?_
  rintro e w136 ⟨rfl, hg134⟩
  have hg134s := hg134.size
  (try simp at hg134s)
  replace F107 := F107.gn hg134
  clear hg134
  go_wp2_with fail
  go_ret
  exact ⟨rfl, F107.gb⟩
 intro hZ100
 refine ru_state 127 (fun t w_ => ∃ (yg7 : Nat) (as99 : Option Addr) (cs99 : Nat) (los99 : Nat) (his99 : Nat), (w.heap.size <= los99) /\ (his99 <= w_.heap.size) /\ t 6 = .slice as75 2 cs75 /\ t 7 = .int .i64 0 /\ t 8 = .slice as90 3 cs90 /\ t 9 = .int .i64 60 /\ t 10 = .int .i64 0 /\ t 11 = .slice as99 2 cs99 /\ t 12 = .int .i64 2 /\ t 74 = .int .i64 0 /\ w93.heap.size <= w_.heap.size /\ Bun w [rsl intEnc 1 los99 his99 (.slice as99 2 cs99) ([10, 5]), rbox yg7 61 #[.int .i64 100, .int .i64 100, .int .i64 0, .int .i64 0, .int .i64 0, .bool false, .int .i64 50, .int .i64 50, .int .i64 0, .int .i64 0, .int .i64 0, .bool false], rsl intEnc 1 los90 his90 (.slice as90 3 cs90) ([0, 1, 2]), rsl weaEnc 6 los85 his85 (.slice as85 4 cs85) weekD, rsl mchEnc 3 loj81 hij81 (.slice a1j81 2 c1j81) jobM, rsl tskEnc 8 loj81 hij81 (.slice a2j81 3 c2j81) (jobT avj81), rafs loj81 hij81 (jobT avj81), rsl intEnc 1 los75 his75 (.slice as75 2 cs75) ([0, 1]), rbox w62.heap.size 78 #[.int .i64 100, .int .i64 10, .slice (some ⟨w53.heap.size, 0, none⟩) 2 2, .int .i64 100000, .int .i64 200000, .int .i64 300000, .int .i64 500000, .int .i64 600000], rbox w53.heap.size 75 #[.int .i64 0, .int .i64 1000000, .int .i64 1000000, .int .i64 100, .int .i64 400000, .int .i64 500000], rbox w.heap.size 3 #[.int .i64 0, .int .i64 0, .int .i64 10]] w_) #[true, true, true, true, true, true, true, true, true, true, true, true, true, true, true, false] 1 ?st138 ?nx138
 case st138 =>
  rintro t w139 ⟨yg7, as99, cs99, los99, his99, hxs99, hys99, e6, e7, e8, e9, e10, e11, e12, e74, hsz138, F140⟩
  clear F80
  rw [rng_others_c t, e6, e7, e8, e9, e10, e11, e12, e74]
  clear e6 e7 e8 e9 e10 e11 e12 e74
  have hws138 := F140.gb.size
  have yg7l := F140.ltAt 1 rfl yg7 rfl
  have yg7b := yg7l.2 rfl
  refine ru_o 15 fun K hK => ?_
  go_simp
  refine ru_back_late hK (by kernel_rfl) ?_
  exact hZ100.out _ _ _ (by kernel_rfl) (by kernel_rfl) rfl ⟨yg7, as99, cs99, los99, his99, (by first | omega | (simp; omega)), (by first | omega | (simp; omega)), by (iterate 8 refine ⟨by kernel_rfl, ?_⟩); exact ⟨(by first | omega | (simp; done) | (simp; omega)), F140⟩⟩
 intro hZ138
 refine ru_state 127 (fun t w_ => ∃ (yg7 : Nat), t 6 = .slice as75 2 cs75 /\ t 7 = .int .i64 0 /\ t 8 = .slice as90 3 cs90 /\ t 9 = .int .i64 60 /\ t 10 = .int .i64 0 /\ t 63 = .agg #[.int .i64 100, .int .i64 10, .slice (some ⟨w53.heap.size, 0, none⟩) 2 2, .int .i64 100000, .int .i64 200000, .int .i64 300000, .int .i64 500000, .int .i64 600000] /\ t 65 = .agg #[.int .i64 300, .int .i64 300, .int .i64 0, .int .i64 0, .int .i64 0, .int .i64 0, .int .i64 0, .int .i64 0] /\ t 70 = .slice (some ⟨yg7, 0, none⟩) 2 2 /\ w93.heap.size <= w_.heap.size /\ Bun w [rbox yg7 61 #[.int .i64 100, .int .i64 100, .int .i64 0, .int .i64 0, .int .i64 0, .bool false, .int .i64 50, .int .i64 50, .int .i64 0, .int .i64 0, .int .i64 0, .bool false], rsl intEnc 1 los90 his90 (.slice as90 3 cs90) ([0, 1, 2]), rsl weaEnc 6 los85 his85 (.slice as85 4 cs85) weekD, rsl mchEnc 3 loj81 hij81 (.slice a1j81 2 c1j81) jobM, rsl tskEnc 8 loj81 hij81 (.slice a2j81 3 c2j81) (jobT avj81), rafs loj81 hij81 (jobT avj81), rsl intEnc 1 los75 his75 (.slice as75 2 cs75) ([0, 1]), rbox w62.heap.size 78 #[.int .i64 100, .int .i64 10, .slice (some ⟨w53.heap.size, 0, none⟩) 2 2, .int .i64 100000, .int .i64 200000, .int .i64 300000, .int .i64 500000, .int .i64 600000], rbox w53.heap.size 75 #[.int .i64 0, .int .i64 1000000, .int .i64 1000000, .int .i64 100, .int .i64 400000, .int .i64 500000], rbox w.heap.size 3 #[.int .i64 0, .int .i64 0, .int .i64 10]] w_) #[true, true, true, true, true, true, true, true, false, false, false, false, false, false, false, false] 8 ?st141 ?nx141
 case st141 =>
  rintro t w142 ⟨yg7, e6, e7, e8, e9, e10, e63, e65, e70, hsz141, F143⟩
  clear F80
  rw [rng_others_c t, e6, e7, e8, e9, e10, e63, e65, e70]
  clear e6 e7 e8 e9 e10 e63 e65 e70
  have hws141 := F143.gb.size
  have yg7l := F143.ltAt 0 rfl yg7 rfl
  have yg7b := yg7l.2 rfl
  refine ru_o 8 fun K hK => ?_
  go_simp
  refine (knThk _ _ _ _ _ _ _ (Bk.sl covEnc 3 lawF.cov 2 2 (F143.b 8 rfl) (fun _ => rfl) rfl rfl (by omega)) ((F143.b 8 rfl)).lt (Bk.sl weaEnc 6 knD 2 2 (F143.b 0 rfl) (fun _ => rfl) rfl rfl (by omega)) ((F143.b 0 rfl)).lt).mono ?_
  rintro e w147 ⟨as144, cs144, los144, his144, rfl, ⟨hxs144, hys144⟩, hzs144, hg145⟩
  have hg145s := hg145.size
  (try simp at hg145s)
  replace F143 := F143.add (rsl intEnc 1 los144 his144 (.slice as144 2 cs144) ([10, 5])) hg145 (hzs144) (fun g e => ⟨Nat.le_trans hxs144 e.1, Nat.lt_of_lt_of_le e.2 hys144⟩)
  refine ru_back hK (by exact (F143.c8 8)) (fun _ => ?_)
  clear hK K
  (try simp only [lpX])
  refine ru_p 9 ?_
  (try simp only [lpX])
  refine ru_p 10 ?_
  (try simp only [lpX])
  refine ru_p 11 ?_
  (try simp only [lpX])
  refine ru_p 12 ?_
  (try simp only [lpX])
  refine ru_p 13 ?_
  (try simp only [lpX])
  refine ru_p 14 ?_
  (try simp only [lpX])
  exact hZ138.out _ _ _ (by kernel_rfl) (by kernel_rfl) rfl ⟨yg7, as144, cs144, los144, his144, (by first | omega | (simp; omega)), (by first | omega | (simp; omega)), by (iterate 8 refine ⟨by kernel_rfl, ?_⟩); exact ⟨(by first | omega | (simp; done) | (simp; omega)), F143⟩⟩
 intro hZ141
 refine ru_state 127 (fun t w_ => t 6 = .slice as75 2 cs75 /\ t 7 = .int .i64 0 /\ t 8 = .slice as90 3 cs90 /\ t 9 = .int .i64 60 /\ t 10 = .int .i64 0 /\ t 63 = .agg #[.int .i64 100, .int .i64 10, .slice (some ⟨w53.heap.size, 0, none⟩) 2 2, .int .i64 100000, .int .i64 200000, .int .i64 300000, .int .i64 500000, .int .i64 600000] /\ t 65 = .agg #[.int .i64 300, .int .i64 300, .int .i64 0, .int .i64 0, .int .i64 0, .int .i64 0, .int .i64 0, .int .i64 0] /\ t 67 = .agg #[.int .i64 100, .int .i64 100, .int .i64 0, .int .i64 0, .int .i64 0, .bool false] /\ t 69 = .agg #[.int .i64 50, .int .i64 50, .int .i64 0, .int .i64 0, .int .i64 0, .bool false] /\ w93.heap.size <= w_.heap.size /\ Bun w [rsl intEnc 1 los90 his90 (.slice as90 3 cs90) ([0, 1, 2]), rsl weaEnc 6 los85 his85 (.slice as85 4 cs85) weekD, rsl mchEnc 3 loj81 hij81 (.slice a1j81 2 c1j81) jobM, rsl tskEnc 8 loj81 hij81 (.slice a2j81 3 c2j81) (jobT avj81), rafs loj81 hij81 (jobT avj81), rsl intEnc 1 los75 his75 (.slice as75 2 cs75) ([0, 1]), rbox w62.heap.size 78 #[.int .i64 100, .int .i64 10, .slice (some ⟨w53.heap.size, 0, none⟩) 2 2, .int .i64 100000, .int .i64 200000, .int .i64 300000, .int .i64 500000, .int .i64 600000], rbox w53.heap.size 75 #[.int .i64 0, .int .i64 1000000, .int .i64 1000000, .int .i64 100, .int .i64 400000, .int .i64 500000], rbox w.heap.size 3 #[.int .i64 0, .int .i64 0, .int .i64 10]] w_) #[true, true, true, true, true, true, true, false, false, false, false, false, false, false, false, false] 9 ?st149 ?nx149
 case st149 =>
  rintro t w150 ⟨e6, e7, e8, e9, e10, e63, e65, e67, e69, hsz149, F151⟩
  clear F80
  rw [rng_others_c t, e6, e7, e8, e9, e10, e63, e65, e67, e69]
  clear e6 e7 e8 e9 e10 e63 e65 e67 e69
  have hws149 := F151.gb.size
  refine ru_o 7 fun K hK => ?_
  go_simp
  replace F151 := F151.new 61 #[.int .i64 100, .int .i64 100, .int .i64 0, .int .i64 0, .int .i64 0, .bool false, .int .i64 50, .int .i64 50, .int .i64 0, .int .i64 0, .int .i64 0, .bool false] (n := w150.heap.size) (by simp)
  refine ru_back hK (by exact (F151.c8 7)) (fun _ => ?_)
  exact hZ141.out _ _ _ (by kernel_rfl) (by kernel_rfl) rfl ⟨w150.heap.size, by (iterate 8 refine ⟨by kernel_rfl, ?_⟩); exact ⟨(by first | omega | (simp; done) | (simp; omega)), F151⟩⟩
 intro hZ149
 refine ru_state 127 (fun t w_ => t 6 = .slice as75 2 cs75 /\ t 7 = .int .i64 0 /\ t 8 = .slice as90 3 cs90 /\ t 9 = .int .i64 60 /\ t 10 = .int .i64 0 /\ t 63 = .agg #[.int .i64 100, .int .i64 10, .slice (some ⟨w53.heap.size, 0, none⟩) 2 2, .int .i64 100000, .int .i64 200000, .int .i64 300000, .int .i64 500000, .int .i64 600000] /\ t 65 = .agg #[.int .i64 300, .int .i64 300, .int .i64 0, .int .i64 0, .int .i64 0, .int .i64 0, .int .i64 0, .int .i64 0] /\ t 67 = .agg #[.int .i64 100, .int .i64 100, .int .i64 0, .int .i64 0, .int .i64 0, .bool false] /\ w93.heap.size <= w_.heap.size /\ Bun w [rsl intEnc 1 los90 his90 (.slice as90 3 cs90) ([0, 1, 2]), rsl weaEnc 6 los85 his85 (.slice as85 4 cs85) weekD, rsl mchEnc 3 loj81 hij81 (.slice a1j81 2 c1j81) jobM, rsl tskEnc 8 loj81 hij81 (.slice a2j81 3 c2j81) (jobT avj81), rafs loj81 hij81 (jobT avj81), rsl intEnc 1 los75 his75 (.slice as75 2 cs75) ([0, 1]), rbox w62.heap.size 78 #[.int .i64 100, .int .i64 10, .slice (some ⟨w53.heap.size, 0, none⟩) 2 2, .int .i64 100000, .int .i64 200000, .int .i64 300000, .int .i64 500000, .int .i64 600000], rbox w53.heap.size 75 #[.int .i64 0, .int .i64 1000000, .int .i64 1000000, .int .i64 100, .int .i64 400000, .int .i64 500000], rbox w.heap.size 3 #[.int .i64 0, .int .i64 0, .int .i64 10]] w_) #[true, true, true, true, true, false, false, false, false, false, false, false, false, false, false, false] 11 ?st153 ?nx153
 case st153 =>
  rintro t w154 ⟨e6, e7, e8, e9, e10, e63, e65, e67, hsz153, F155⟩
  clear F80
  rw [rng_others_c t, e6, e7, e8, e9, e10, e63, e65, e67]
  clear e6 e7 e8 e9 e10 e63 e65 e67
  have hws153 := F155.gb.size
  refine ru_o 5 fun K hK => ?_
  go_simp
  refine (aone_c 50 _).mono ?_
  rintro e w158 ⟨rfl, hg156⟩
  have hg156s := hg156.size
  (try simp at hg156s)
  replace F155 := F155.gn hg156
  refine ru_back hK (by exact (F155.c8 6)) (fun _ => ?_)
  clear hK K
  (try simp only [lpX])
  refine ru_p 6 ?_
  (try simp only [lpX])
  exact hZ149.out _ _ _ (by kernel_rfl) (by kernel_rfl) rfl (by (iterate 9 refine ⟨by kernel_rfl, ?_⟩); exact ⟨(by first | omega | (simp; done) | (simp; omega)), F155⟩)
 intro hZ153
 refine ru_state 127 (fun t w_ => t 6 = .slice as75 2 cs75 /\ t 7 = .int .i64 0 /\ t 8 = .slice as90 3 cs90 /\ t 9 = .int .i64 60 /\ t 10 = .int .i64 0 /\ t 63 = .agg #[.int .i64 100, .int .i64 10, .slice (some ⟨w53.heap.size, 0, none⟩) 2 2, .int .i64 100000, .int .i64 200000, .int .i64 300000, .int .i64 500000, .int .i64 600000] /\ t 65 = .agg #[.int .i64 300, .int .i64 300, .int .i64 0, .int .i64 0, .int .i64 0, .int .i64 0, .int .i64 0, .int .i64 0] /\ w93.heap.size <= w_.heap.size /\ Bun w [rsl intEnc 1 los90 his90 (.slice as90 3 cs90) ([0, 1, 2]), rsl weaEnc 6 los85 his85 (.slice as85 4 cs85) weekD, rsl mchEnc 3 loj81 hij81 (.slice a1j81 2 c1j81) jobM, rsl tskEnc 8 loj81 hij81 (.slice a2j81 3 c2j81) (jobT avj81), rafs loj81 hij81 (jobT avj81), rsl intEnc 1 los75 his75 (.slice as75 2 cs75) ([0, 1]), rbox w62.heap.size 78 #[.int .i64 100, .int .i64 10, .slice (some ⟨w53.heap.size, 0, none⟩) 2 2, .int .i64 100000, .int .i64 200000, .int .i64 300000, .int .i64 500000, .int .i64 600000], rbox w53.heap.size 75 #[.int .i64 0, .int .i64 1000000, .int .i64 1000000, .int .i64 100, .int .i64 400000, .int .i64 500000], rbox w.heap.size 3 #[.int .i64 0, .int .i64 0, .int .i64 10]] w_) #[true, true, true, false, false, false, false, false, false, false, false, false, false, false, false, false] 13 ?st160 ?nx160
 case st160 =>
  rintro t w161 ⟨e6, e7, e8, e9, e10, e63, e65, hsz160, F162⟩
  clear F80
  rw [rng_others_c t, e6, e7, e8, e9, e10, e63, e65]
  clear e6 e7 e8 e9 e10 e63 e65
  have hws160 := F162.gb.size
  refine ru_o 3 fun K hK => ?_
  go_simp
  refine (aone_c 100 _).mono ?_
  rintro e w165 ⟨rfl, hg163⟩
  have hg163s := hg163.size
  (try simp at hg163s)
  replace F162 := F162.gn hg163
  refine ru_back hK (by exact (F162.c8 6)) (fun _ => ?_)
  clear hK K
  (try simp only [lpX])
  refine ru_p 4 ?_
  (try simp only [lpX])
  exact hZ153.out _ _ _ (by kernel_rfl) (by kernel_rfl) rfl (by (iterate 8 refine ⟨by kernel_rfl, ?_⟩); exact ⟨(by first | omega | (simp; done) | (simp; omega)), F162⟩)
 intro hZ160
 refine ru_o 1 fun K hK => ?_
 go_simp
 refine (aone_c 300 _).mono ?_
 rintro e w169 ⟨rfl, hg167⟩
 have hg167s := hg167.size
 (try simp at hg167s)
 replace F80 := F80.gn hg167
 refine ru_back hK (by exact (F80.c8 6)) (fun _ => ?_)
 clear hK K
 (try simp only [lpX])
 refine ru_p 2 ?_
 (try simp only [lpX])
 exact hZ160.out _ _ _ (by kernel_rfl) (by kernel_rfl) rfl (by (iterate 7 refine ⟨by kernel_rfl, ?_⟩); exact ⟨(by first | omega | (simp; done) | (simp; omega)), F80⟩)
end Go.Proofs.YtcoldeolmleeiaaGreat
