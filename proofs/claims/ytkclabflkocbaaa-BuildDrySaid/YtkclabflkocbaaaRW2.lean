/- build and its reference: the chapter's examples hold. -/
import Derived.Test.YtkclabflkocbaaaRW1
import Derived.Test.YtkclabflkocbaaaRN6
import Derived.Test.YtkclabflkocbaaaRKC
set_option linter.unusedVariables false
set_option linter.unusedSimpArgs false
set_option linter.unnecessarySimpa false
namespace Go.Proofs.Ytkclabflkocbaaa
open Go.RowKit
set_option maxRecDepth 100000
attribute [local go_sem] Oper.semAt_some
theorem same_t (lo hi lo' hi' : Nat) (v v' : Value) (l : List Int) (w : World) (hx : Ints lo hi w v l) (hy : Ints lo' hi' w v' l) : Calls Try.prog 37 #[v, v'] w (Ret (.bool true) w) := by
 have h := same_c lo hi lo' hi' v v' l l w hx hy
 rw [sameB_self] at h
 exact h
theorem Bun.job3 {w w' : World} {lo hi : Nat} {vm vt : Value} {ms : List Mch} {ts : List Tsk} (h1 : w.heap.size <= lo) (h2 : hi <= w'.heap.size) (hj : JobAt lo hi w' vm vt ms ts) (hg : w.grownBy w' none) : Bun w [rsl mchEnc 3 lo hi vm ms, rsl tskEnc 8 lo hi vt ts, rafs lo hi ts] w' :=
 ((((Bun.nil w).add (rafs lo hi ts) hg hj.af (fun g hx => ⟨Nat.le_trans h1 hx.1, Nat.lt_of_lt_of_le hx.2 h2⟩)).more 0 (rsl tskEnc 8 lo hi vt ts) rfl rfl rfl (fun _ h => h) hj.t).more 0 (rsl mchEnc 3 lo hi vm ms) rfl rfl rfl (fun _ h => h) hj.m)
theorem ajob_b (w : World) : Calls Try.prog 32 #[] w (fun e w' => ∃ (av : Value) (a1 a2 : Option Addr) (c1 c2 lo hi : Nat), e = .returned (.agg #[.slice a1 2 c1, .slice a2 3 c2]) /\ (w.heap.size <= lo /\ hi <= w'.heap.size) /\ Bun w [rsl mchEnc 3 lo hi (.slice a1 2 c1) jobM, rsl tskEnc 8 lo hi (.slice a2 3 c2) (jobT av), rafs lo hi (jobT av)] w') := by
 refine (ajob_c w).mono ?_
 rintro e w' ⟨a1, a2, c1, c2, av, rfl, hj, hg⟩
 exact ⟨av, a1, a2, c1, c2, _, _, rfl, ⟨Nat.le_refl _, Nat.le_refl _⟩, Bun.job3 (Nat.le_refl _) (Nat.le_refl _) hj hg⟩
theorem awTimes (lo hi : Nat) (vm vt : Value) (av : Value) (lo2 hi2 : Nat) (vd : Value) (w : World) (hj : JobAt lo hi w vm vt jobM (jobT av)) (h2 : hi <= w.heap.size) (hd : Sl weaEnc 6 lo2 hi2 w vd weekD) (h3 : hi2 <= w.heap.size) :
  Calls Try.prog 31 #[.agg #[vm, vt], vd] w (fun e w' => ∃ (a : Option Addr) (c lo hi : Nat), e = .returned (.tuple #[.slice a 3 c, .agg #[.int .i64 39, .int .i64 60], .int .i64 0]) /\ (w.heap.size <= lo /\ hi <= w'.heap.size) /\ Sl timEnc 4 lo hi w' (.slice a 3 c) awT /\ w.grownBy w' none) := by
 refine (btimes_c lo hi vm vt jobM (jobT av) lo2 hi2 vd weekD w hj h2 hd h3).mono ?_
 rintro e w' ⟨a, c, lo', hi', he, h4, hs, hg⟩
 rw [aw_tims, aw_opn, aw_both] at he
 rw [aw_tims] at hs
 exact ⟨a, c, lo', hi', he, h4, hs, hg⟩
theorem awDetour (lo hi : Nat) (v : Value) (w : World) (hl : Sl lgEnc 5 lo hi w v netL) (h2 : hi <= w.heap.size) :
  Calls Try.prog 34 #[.agg #[.int .i64 3, v], .int .i64 0, .int .i64 2] w (fun e w' => ∃ (a : Option Addr) (c lo hi : Nat), e = .returned (.tuple #[.slice a 2 c, .int .i64 20, .int .i64 5, .int .i64 0]) /\ (w.heap.size <= lo /\ hi <= w'.heap.size) /\ Sl intEnc 1 lo hi w' (.slice a 2 c) [0, 1] /\ w.grownBy w' none) :=
 (detour_c lo hi v netL 3 0 2 5 2 awP awS [0, 1] w hl h2 aw_net ⟨by decide, by decide⟩ ⟨by decide, by decide⟩ (by decide) (by decide) aw_dp aw_ds (fun _ => aw_pth) (fun h => by cases h)).mono fun _ _ h => h
theorem aweek_b (w : World) : Calls Try.prog 33 #[] w (fun e w' => ∃ (a : Option Addr) (c lo hi : Nat), e = .returned (.slice a 4 c) /\ (w.heap.size <= lo /\ hi <= w'.heap.size) /\ Sl weaEnc 6 lo hi w' (.slice a 4 c) weekD /\ w.grownBy w' none) := by
 refine (aweek_c w).mono ?_
 rintro e w' ⟨a, c, rfl, hs, hg⟩
 exact ⟨a, c, _, _, rfl, ⟨Nat.le_refl _, Nat.le_refl _⟩, hs, hg⟩
theorem anet_b (w : World) : Calls Try.prog 35 #[] w (fun e w' => ∃ (a : Option Addr) (c lo hi : Nat), e = .returned (.agg #[.int .i64 3, .slice a 4 c]) /\ (w.heap.size <= lo /\ hi <= w'.heap.size) /\ Sl lgEnc 5 lo hi w' (.slice a 4 c) netL /\ w.grownBy w' none) := by
 refine (anet_c w).mono ?_
 rintro e w' ⟨a, c, rfl, hs, hg⟩
 exact ⟨a, c, _, _, rfl, ⟨Nat.le_refl _, Nat.le_refl _⟩, hs, hg⟩
set_option maxHeartbeats 16000000 in
theorem awake_c  (w : World)  :
  Calls Try.prog 14 #[] w (Ret (.bool true) w) := by
 have F1 : Bun w [] w := Bun.nil _
 go_enter Try.func14, Try.ntmps14
 go_wp2_with fail
 refine (ajob_b _).mono ?_
 rintro e w2 ⟨avJ, a1J, a2J, c1J, c2J, loJ, hiJ, rfl, ⟨hlJ, hyJ⟩, hB3⟩
 have hB3s := hB3.gb.size
 (try simp at hB3s)
 replace F1 := F1.joinV (L2 := [rsl mchEnc 3 loJ hiJ (.slice a1J 2 c1J) jobM, rsl tskEnc 8 loJ hiJ (.slice a2J 3 c2J) (jobT avJ), rafs loJ hiJ (jobT avJ)]) hB3 (List.forall_mem_cons.2 ⟨fun g hx => Nat.le_trans hlJ hx.1, List.forall_mem_cons.2 ⟨fun g hx => Nat.le_trans hlJ hx.1, List.forall_mem_cons.2 ⟨fun g hx => Nat.le_trans hlJ hx.1, fun _ h => by cases h⟩⟩⟩)
 clear hB3
 (try dsimp only [List.cons_append, List.nil_append] at F1)
 go_wp2_with fail
 refine (aweek_b _).mono ?_
 rintro e w7 ⟨aW, cW, loW, hiW, rfl, ⟨hxW, hyW⟩, hzW, hg5⟩
 have hg5s := hg5.size
 (try simp at hg5s)
 replace F1 := F1.add (rsl weaEnc 6 loW hiW (.slice aW 4 cW) weekD) hg5 (hzW) (fun g e => ⟨Nat.le_trans hxW e.1, Nat.lt_of_lt_of_le e.2 hyW⟩)
 clear hg5
 go_wp2_with fail
 refine (awTimes loJ hiJ _ _ avJ loW hiW _ _ (JobAt.mk (F1.at 1 rfl : Sl mchEnc 3 loJ hiJ _ (.slice a1J 2 c1J) jobM) (F1.at 2 rfl : Sl tskEnc 8 loJ hiJ _ (.slice a2J 3 c2J) (jobT avJ)) (F1.at 3 rfl : Afs loJ hiJ _ (jobT avJ))) (by first | omega | (simp; omega)) (F1.at 0 rfl : Sl weaEnc 6 loW hiW _ (.slice aW 4 cW) weekD) (by first | omega | (simp; omega))).mono ?_
 rintro e w11 ⟨aT, cT, loT, hiT, rfl, ⟨hxT, hyT⟩, hzT, hg9⟩
 have hg9s := hg9.size
 (try simp at hg9s)
 replace F1 := F1.add (rsl timEnc 4 loT hiT (.slice aT 3 cT) awT) hg9 (hzT) (fun g e => ⟨Nat.le_trans hxT e.1, Nat.lt_of_lt_of_le e.2 hyT⟩)
 clear hg9
 go_wp2_with fail
 replace F1 := F1.new 27 #[.int .i64 39, .int .i64 60] (n := w11.heap.size) (by simp)
 refine (anet_b _).mono ?_
 rintro e w16 ⟨aN, cN, loN, hiN, rfl, ⟨hxN, hyN⟩, hzN, hg14⟩
 have hg14s := hg14.size
 (try simp at hg14s)
 replace F1 := F1.add (rsl lgEnc 5 loN hiN (.slice aN 4 cN) netL) hg14 (hzN) (fun g e => ⟨Nat.le_trans hxN e.1, Nat.lt_of_lt_of_le e.2 hyN⟩)
 clear hg14
 go_wp2_with fail
 refine (awDetour loN hiN _ _ (F1.at 0 rfl : Sl lgEnc 5 loN hiN _ (.slice aN 4 cN) netL) (by first | omega | (simp; omega))).mono ?_
 rintro e w20 ⟨aP, cP, loP, hiP, rfl, ⟨hxP, hyP⟩, hzP, hg18⟩
 have hg18s := hg18.size
 (try simp at hg18s)
 replace F1 := F1.add (rsl intEnc 1 loP hiP (.slice aP 2 cP) ([0, 1])) hg18 (hzP) (fun g e => ⟨Nat.le_trans hxP e.1, Nat.lt_of_lt_of_le e.2 hyP⟩)
 clear hg18
 go_wp2_with fail
 replace F1 := F1.drew
 refine ru_begin (fun W => W.cell? ⟨w11.heap.size, 0, none⟩ = some (.int .i64 39) /\ W.cell? ⟨w11.heap.size, 1, none⟩ = some (.int .i64 60)) 38 (by kernel_rfl) ?_ ?_
 · exact ⟨F1.q 2 0, F1.q 2 1⟩
 obtain ⟨wd24, hwd_⟩ : ∃ x : World, w20.drew = x := ⟨_, rfl⟩
 rw [hwd_] at F1 ⊢
 have wd24s : w20.heap.size <= wd24.heap.size := by rw [← hwd_]; exact Nat.le_refl _
 clear hwd_
 have hS23 := (And.intro (F1.q 2 0) (F1.q 2 1))
 refine ru_t 0 [] ?_
 refine ru_t 1 [] ?_
 refine ru_t 2 [] ?_
 refine ru_t 3 [] ?_
 refine ru_t 4 [] ?_
 refine ru_t 5 [] ?_
 refine ru_t 6 [] ?_
 refine ru_t 7 [] ?_
 (try simp only [lpX])
 clear hS23
 refine ru_one 8 rfl (by kernel_rfl) (fun K hK => ?_)
 go_simp
 refine (aone_c 0 _).mono ?_
 rintro e w27 ⟨rfl, hg25⟩
 have hg25s := hg25.size
 (try simp at hg25s)
 replace F1 := F1.gn hg25
 refine ru_back hK (by exact ⟨F1.q 2 0, F1.q 2 1⟩) (fun _ => ?_)
 clear hK K
 (try simp only [lpX])
 refine ru_one 9 rfl (by kernel_rfl) (fun K hK => ?_)
 go_simp
 refine (aspan_c 5 26 _).mono ?_
 rintro e w31 ⟨rfl, hg29⟩
 have hg29s := hg29.size
 (try simp at hg29s)
 replace F1 := F1.gn hg29
 refine ru_back hK (by exact ⟨F1.q 2 0, F1.q 2 1⟩) (fun _ => ?_)
 clear hK K
 (try simp only [lpX])
 refine ru_p 10 ?_
 (try simp only [lpX])
 refine ru_one 11 rfl (by kernel_rfl) (fun K hK => ?_)
 go_simp
 refine (aspan_c 5 26 _).mono ?_
 rintro e w35 ⟨rfl, hg33⟩
 have hg33s := hg33.size
 (try simp at hg33s)
 replace F1 := F1.gn hg33
 refine ru_back hK (by exact ⟨F1.q 2 0, F1.q 2 1⟩) (fun _ => ?_)
 clear hK K
 (try simp only [lpX])
 refine ru_one 12 rfl (by kernel_rfl) (fun K hK => ?_)
 go_simp
 refine (aspan_c 15 36 _).mono ?_
 rintro e w39 ⟨rfl, hg37⟩
 have hg37s := hg37.size
 (try simp at hg37s)
 replace F1 := F1.gn hg37
 refine ru_back hK (by exact ⟨F1.q 2 0, F1.q 2 1⟩) (fun _ => ?_)
 clear hK K
 (try simp only [lpX])
 refine ru_p 13 ?_
 (try simp only [lpX])
 refine ru_one 14 rfl (by kernel_rfl) (fun K hK => ?_)
 go_simp
 refine (aone_c 30 _).mono ?_
 rintro e w43 ⟨rfl, hg41⟩
 have hg41s := hg41.size
 (try simp at hg41s)
 replace F1 := F1.gn hg41
 refine ru_back hK (by exact ⟨F1.q 2 0, F1.q 2 1⟩) (fun _ => ?_)
 clear hK K
 (try simp only [lpX])
 refine ru_one 15 rfl (by kernel_rfl) (fun K hK => ?_)
 go_simp
 refine (aone_c 34 _).mono ?_
 rintro e w47 ⟨rfl, hg45⟩
 have hg45s := hg45.size
 (try simp at hg45s)
 replace F1 := F1.gn hg45
 refine ru_back hK (by exact ⟨F1.q 2 0, F1.q 2 1⟩) (fun _ => ?_)
 clear hK K
 (try simp only [lpX])
 refine ru_p 16 ?_
 (try simp only [lpX])
 refine ru_one 17 rfl (by kernel_rfl) (fun K hK => ?_)
 go_simp
 replace F1 := F1.new 95 #[.int .i64 0, .int .i64 0, .int .i64 5, .int .i64 26, .int .i64 5, .int .i64 26, .int .i64 15, .int .i64 36, .int .i64 30, .int .i64 30, .int .i64 34, .int .i64 34] (n := w47.heap.size) (by simp)
 refine ru_back hK (by exact ⟨F1.q 3 0, F1.q 3 1⟩) (fun _ => ?_)
 clear hK K
 (try simp only [lpX])
 refine ru_one 18 rfl (by kernel_rfl) (fun K hK => ?_)
 go_simp
 refine (sameTimes_c _ _ _ _ _ _ awT _ (F1.at 4 rfl : Sl timEnc 4 loT hiT _ (.slice aT 3 cT) awT) (by first | omega | (simp; omega)) (Bk.sl timEnc 4 awT 3 3 (F1.at 0 rfl : Bk _ w47.heap.size 95 #[.int .i64 0, .int .i64 0, .int .i64 5, .int .i64 26, .int .i64 5, .int .i64 26, .int .i64 15, .int .i64 36, .int .i64 30, .int .i64 30, .int .i64 34, .int .i64 34]) (fun _ => rfl) rfl rfl (by omega)) ((F1.at 0 rfl : Bk _ w47.heap.size 95 #[.int .i64 0, .int .i64 0, .int .i64 5, .int .i64 26, .int .i64 5, .int .i64 26, .int .i64 15, .int .i64 36, .int .i64 30, .int .i64 30, .int .i64 34, .int .i64 34])).lt).mono ?_
 rintro e w52 ⟨rfl, hg50⟩
 have hg50s := hg50.size
 (try simp at hg50s)
 replace F1 := F1.gn hg50
 refine ru_back hK (by exact ⟨F1.q 3 0, F1.q 3 1⟩) (fun _ => ?_)
 clear hK K
 (try simp only [lpX])
 refine ru_p 19 ?_
 (try simp only [lpX])
 refine ru_p 20 ?_
 (try simp only [lpX])
 refine ru_t 21 [] ?_
 (try simp only [lpX])
 refine ru_one 22 rfl (by kernel_rfl) (fun K hK => ?_)
 go_simp
 refine (aspan_c 39 60 _).mono ?_
 rintro e w56 ⟨rfl, hg54⟩
 have hg54s := hg54.size
 (try simp at hg54s)
 replace F1 := F1.gn hg54
 refine ru_back hK (by exact ⟨F1.q 3 0, F1.q 3 1⟩) (fun _ => ?_)
 clear hK K
 (try simp only [lpX])
 refine ru_p 23 ?_
 (try simp only [lpX])
 refine ru_p 24 ?_
 (try simp only [lpX])
 refine ru_p 25 ?_
 (try simp only [lpX])
 refine ru_p 26 ?_
 (try simp only [lpX])
 refine ru_one 27 rfl (by kernel_rfl) (fun K hK => ?_)
 go_simp
 replace F1 := F1.new 3 #[.int .i64 0, .int .i64 1] (n := w56.heap.size) (by simp)
 refine ru_back hK (by exact ⟨F1.q 4 0, F1.q 4 1⟩) (fun _ => ?_)
 clear hK K
 (try simp only [lpX])
 refine ru_one 28 rfl (by kernel_rfl) (fun K hK => ?_)
 go_simp
 refine (same_t _ _ _ _ _ _ [0, 1] _ (F1.at 2 rfl : Sl intEnc 1 loP hiP _ (.slice aP 2 cP) ([0, 1])) (slI_of [0, 1] 2 2 (F1.at 0 rfl : Bk _ w56.heap.size 3 #[.int .i64 0, .int .i64 1]) rfl rfl (by omega))).mono ?_
 rintro e w61 ⟨rfl, hg59⟩
 have hg59s := hg59.size
 (try simp at hg59s)
 replace F1 := F1.gn hg59
 refine ru_back hK (by exact ⟨F1.q 4 0, F1.q 4 1⟩) (fun _ => ?_)
 clear hK K
 (try simp only [lpX])
 refine ru_p 29 ?_
 (try simp only [lpX])
 refine ru_p 30 ?_
 (try simp only [lpX])
 refine ru_p 31 ?_
 (try simp only [lpX])
 refine ru_p 32 ?_
 (try simp only [lpX])
 refine ru_p 33 ?_
 (try simp only [lpX])
 refine ru_p 34 ?_
 (try simp only [lpX])
 refine ru_p 35 ?_
 (try simp only [lpX])
 refine ru_p 36 ?_
 (try simp only [lpX])
 refine ru_p 37 ?_
 (try simp only [lpX])
 refine ru_one 38 rfl (by kernel_rfl) (fun K hK => ?_)
 go_simp
 refine ru_back_late hK (by kernel_rfl) ?_
 clear hK K
 (try simp only [lpX])
 refine ru_done (by kernel_rfl) ?_
 obtain ⟨w63, hx64, F66, hxs65⟩ := (show Bun w [rsl intEnc 1 loP hiP (.slice aP 2 cP) ([0, 1]), rsl lgEnc 5 loN hiN (.slice aN 4 cN) netL, rsl timEnc 4 loT hiT (.slice aT 3 cT) awT, rsl weaEnc 6 loW hiW (.slice aW 4 cW) weekD, rsl mchEnc 3 loJ hiJ (.slice a1J 2 c1J) jobM, rsl tskEnc 8 loJ hiJ (.slice a2J 3 c2J) (jobT avJ), rafs loJ hiJ (jobT avJ)] _ from (((F1.drop 0 rfl).drop 0 rfl).drop 2 rfl)).name
 (try simp at hxs65)
 rw [hx64]
 clear hx64 F1
 go_wp2_with fail
 go_ret
 exact ⟨rfl, F66.gb⟩
end Go.Proofs.Ytkclabflkocbaaa
