/- frost: Core. -/
import Derived.Test.YtgkjicejaalijaaDoorF10
import Derived.Test.YtgkjicejaalijaaDoorK1
set_option linter.unusedVariables false
set_option linter.unusedSimpArgs false
set_option linter.unnecessarySimpa false
namespace Go.Proofs.YtgkjicejaalijaaDoor
open Go.RowKit
set_option maxRecDepth 100000

theorem rng_core_c (t : Nat → Value) : ((List.range 64).map t).toArray = List.toArray [t 0, t 1, t 2, t 3, t 4, t 5, t 6, t 7, t 8, t 9, t 10, t 11, t 12, t 13, t 14, t 15, t 16, t 17, t 18, t 19, t 20, t 21, t 22, t 23, t 24, t 25, t 26, t 27, t 28, t 29, t 30, t 31, t 32, t 33, t 34, t 35, t 36, t 37, t 38, t 39, t 40, t 41, t 42, t 43, t 44, t 45, t 46, t 47, t 48, t 49, t 50, t 51, t 52, t 53, t 54, t 55, t 56, t 57, t 58, t 59, t 60, t 61, t 62, t 63] := rfl
set_option maxHeartbeats 8000000 in
theorem core_c (a b : Ice) (w : World)  :
    Calls Tryd.prog 40 #[.agg (iceC a), .agg (iceC b)] w (Ret (.tuple #[.agg #[.int .i64 ((coreI a b).bl.lo), .int .i64 ((coreI a b).bl.hi), .int .i64 ((coreI a b).wh.lo), .int .i64 ((coreI a b).wh.hi), .int .i64 ((coreI a b).we.lo), .int .i64 ((coreI a b).we.hi), .int .i64 ((coreI a b).sn.lo), .int .i64 ((coreI a b).sn.hi)], .int .i64 (coreE a b)]) w) := by
  obtain ⟨m0, hm0⟩ : ∃ z, max a.bl.lo b.bl.lo = z := ⟨_, rfl⟩
  have Hm0 := Lib.hid hm0
  obtain ⟨m1, hm1⟩ : ∃ z, min a.bl.hi b.bl.hi = z := ⟨_, rfl⟩
  have Hm1 := Lib.hid hm1
  obtain ⟨m2, hm2⟩ : ∃ z, max a.wh.lo b.wh.lo = z := ⟨_, rfl⟩
  have Hm2 := Lib.hid hm2
  obtain ⟨m3, hm3⟩ : ∃ z, min a.wh.hi b.wh.hi = z := ⟨_, rfl⟩
  have Hm3 := Lib.hid hm3
  obtain ⟨m4, hm4⟩ : ∃ z, max a.we.lo b.we.lo = z := ⟨_, rfl⟩
  have Hm4 := Lib.hid hm4
  obtain ⟨m5, hm5⟩ : ∃ z, min a.we.hi b.we.hi = z := ⟨_, rfl⟩
  have Hm5 := Lib.hid hm5
  obtain ⟨m6, hm6⟩ : ∃ z, max a.sn.lo b.sn.lo = z := ⟨_, rfl⟩
  have Hm6 := Lib.hid hm6
  obtain ⟨m7, hm7⟩ : ∃ z, min a.sn.hi b.sn.hi = z := ⟨_, rfl⟩
  have Hm7 := Lib.hid hm7
  have F1 : Bun w [] w := Bun.nil _
  go_enter Tryd.func40, Tryd.ntmps40
  go_wp2_with fail
  have F2 := F1.new 37 (iceC a) (n := w.heap.size) (by simp)
  clear F1
  have F3 := F2.new 37 (iceC b) (n := (w.heap.size + 1)) (by simp)
  clear F2
  have F4 := F3.new 37 (z8) (n := (w.heap.size + 2)) (by simp)
  clear F3
  refine (checkIce_c a _).mono ?_
  rintro e w7 ⟨rfl, hg5⟩
  have hg5s := hg5.size
  (try simp at hg5s)
  have F8 := F4.gn hg5
  clear F4
  clear hg5
  by_cases c9 : iceErr a = 0
  · skip
    have c9a : ((iceErr a) == 0) = true := beq_t c9
    have c9b : ((iceErr a) != 0) = false := bne_f c9
    have c9H := Lib.hid c9
    clear c9
    have b10 := F8.bx8 1 rfl
    go_wp2_with fail
    clear b10
    refine (checkIce_c b _).mono ?_
    rintro e w13 ⟨rfl, hg11⟩
    have hg11s := hg11.size
    (try simp at hg11s)
    have F14 := F8.gn hg11
    clear F8
    clear hg11
    by_cases c15 : iceErr b = 0
    · skip
      have c15a : ((iceErr b) == 0) = true := beq_t c15
      have c15b : ((iceErr b) != 0) = false := bne_f c15
      have c15H := Lib.hid c15
      clear c15
      go_wp2_with fail
      have F16 := F14.drew
      clear F14
      refine ru_begin (fun W => W.cell? ⟨w.heap.size, 0, none⟩ = some (.int .i64 a.bl.lo) ∧ W.cell? ⟨w.heap.size, 1, none⟩ = some (.int .i64 a.bl.hi) ∧ W.cell? ⟨w.heap.size, 2, none⟩ = some (.int .i64 a.wh.lo) ∧ W.cell? ⟨w.heap.size, 3, none⟩ = some (.int .i64 a.wh.hi) ∧ W.cell? ⟨w.heap.size, 4, none⟩ = some (.int .i64 a.we.lo) ∧ W.cell? ⟨w.heap.size, 5, none⟩ = some (.int .i64 a.we.hi) ∧ W.cell? ⟨w.heap.size, 6, none⟩ = some (.int .i64 a.sn.lo) ∧ W.cell? ⟨w.heap.size, 7, none⟩ = some (.int .i64 a.sn.hi) ∧ W.cell? ⟨(w.heap.size + 1), 0, none⟩ = some (.int .i64 b.bl.lo) ∧ W.cell? ⟨(w.heap.size + 1), 1, none⟩ = some (.int .i64 b.bl.hi) ∧ W.cell? ⟨(w.heap.size + 1), 2, none⟩ = some (.int .i64 b.wh.lo) ∧ W.cell? ⟨(w.heap.size + 1), 3, none⟩ = some (.int .i64 b.wh.hi) ∧ W.cell? ⟨(w.heap.size + 1), 4, none⟩ = some (.int .i64 b.we.lo) ∧ W.cell? ⟨(w.heap.size + 1), 5, none⟩ = some (.int .i64 b.we.hi) ∧ W.cell? ⟨(w.heap.size + 1), 6, none⟩ = some (.int .i64 b.sn.lo) ∧ W.cell? ⟨(w.heap.size + 1), 7, none⟩ = some (.int .i64 b.sn.hi)) 7 (by kernel_rfl) ?_ ?_
      · exact ⟨F16.cl 2 0 rfl rfl, F16.cl 2 1 rfl rfl, F16.cl 2 2 rfl rfl, F16.cl 2 3 rfl rfl, F16.cl 2 4 rfl rfl, F16.cl 2 5 rfl rfl, F16.cl 2 6 rfl rfl, F16.cl 2 7 rfl rfl, F16.cl 1 0 rfl rfl, F16.cl 1 1 rfl rfl, F16.cl 1 2 rfl rfl, F16.cl 1 3 rfl rfl, F16.cl 1 4 rfl rfl, F16.cl 1 5 rfl rfl, F16.cl 1 6 rfl rfl, F16.cl 1 7 rfl rfl⟩
      obtain ⟨wd18, hwd_⟩ : ∃ x : World, w13.drew = x := ⟨_, rfl⟩
      rw [hwd_] at F16 ⊢
      have wd18s : w13.heap.size ≤ wd18.heap.size := by rw [← hwd_]; exact Nat.le_refl _
      clear hwd_
      have hS17 := (And.intro (F16.cl 2 0 rfl rfl) (And.intro (F16.cl 2 1 rfl rfl) (And.intro (F16.cl 2 2 rfl rfl) (And.intro (F16.cl 2 3 rfl rfl) (And.intro (F16.cl 2 4 rfl rfl) (And.intro (F16.cl 2 5 rfl rfl) (And.intro (F16.cl 2 6 rfl rfl) (And.intro (F16.cl 2 7 rfl rfl) (And.intro (F16.cl 1 0 rfl rfl) (And.intro (F16.cl 1 1 rfl rfl) (And.intro (F16.cl 1 2 rfl rfl) (And.intro (F16.cl 1 3 rfl rfl) (And.intro (F16.cl 1 4 rfl rfl) (And.intro (F16.cl 1 5 rfl rfl) (And.intro (F16.cl 1 6 rfl rfl) (F16.cl 1 7 rfl rfl))))))))))))))))
      refine ru_t 0 [] ?_
      refine ru_t 2 [] ?_
      (try simp only [Act.put, List.setIfInBounds_toArray, List.set_cons_zero, List.set_cons_succ])
      clear hS17
      have hSS : ∀ (LA : List Res) (W : World), Bun w ([rbox (w.heap.size + 2) 37 (z8), rbox (w.heap.size + 1) 37 (iceC b), rbox w.heap.size 37 (iceC a)] ++ LA) W ∧ w13.heap.size ≤ W.heap.size → W.cell? ⟨w.heap.size, 0, none⟩ = some (.int .i64 a.bl.lo) ∧ W.cell? ⟨w.heap.size, 1, none⟩ = some (.int .i64 a.bl.hi) ∧ W.cell? ⟨w.heap.size, 2, none⟩ = some (.int .i64 a.wh.lo) ∧ W.cell? ⟨w.heap.size, 3, none⟩ = some (.int .i64 a.wh.hi) ∧ W.cell? ⟨w.heap.size, 4, none⟩ = some (.int .i64 a.we.lo) ∧ W.cell? ⟨w.heap.size, 5, none⟩ = some (.int .i64 a.we.hi) ∧ W.cell? ⟨w.heap.size, 6, none⟩ = some (.int .i64 a.sn.lo) ∧ W.cell? ⟨w.heap.size, 7, none⟩ = some (.int .i64 a.sn.hi) ∧ W.cell? ⟨(w.heap.size + 1), 0, none⟩ = some (.int .i64 b.bl.lo) ∧ W.cell? ⟨(w.heap.size + 1), 1, none⟩ = some (.int .i64 b.bl.hi) ∧ W.cell? ⟨(w.heap.size + 1), 2, none⟩ = some (.int .i64 b.wh.lo) ∧ W.cell? ⟨(w.heap.size + 1), 3, none⟩ = some (.int .i64 b.wh.hi) ∧ W.cell? ⟨(w.heap.size + 1), 4, none⟩ = some (.int .i64 b.we.lo) ∧ W.cell? ⟨(w.heap.size + 1), 5, none⟩ = some (.int .i64 b.we.hi) ∧ W.cell? ⟨(w.heap.size + 1), 6, none⟩ = some (.int .i64 b.sn.lo) ∧ W.cell? ⟨(w.heap.size + 1), 7, none⟩ = some (.int .i64 b.sn.hi) := fun _ _ ⟨F_, _⟩ => ⟨F_.cl 2 0 rfl rfl, F_.cl 2 1 rfl rfl, F_.cl 2 2 rfl rfl, F_.cl 2 3 rfl rfl, F_.cl 2 4 rfl rfl, F_.cl 2 5 rfl rfl, F_.cl 2 6 rfl rfl, F_.cl 2 7 rfl rfl, F_.cl 1 0 rfl rfl, F_.cl 1 1 rfl rfl, F_.cl 1 2 rfl rfl, F_.cl 1 3 rfl rfl, F_.cl 1 4 rfl rfl, F_.cl 1 5 rfl rfl, F_.cl 1 6 rfl rfl, F_.cl 1 7 rfl rfl⟩
      refine ru_mix (goodBunS _ w13.heap.size) 64 [⟨4, 8, 82, (z8), ptrOf⟩, ⟨5, 9, 82, (z8), ptrOf⟩] [1, 3] 2 (by kernel_rfl) (by kernel_rfl) (fun _ _ _ _ _ h => h) (V := fun t => True) (U0 := (fun t => t 4 = .pointer (some ⟨w.heap.size + 2, 0, none⟩) ∧ t 23 = .agg (iceC a) ∧ t 25 = .agg (iceC b))) (Um := (fun t => t 4 = .pointer (some ⟨w.heap.size + 2, 0, none⟩) ∧ t 24 = .agg (iceC a) ∧ t 26 = .agg (iceC b))) (L0 := [rbox (w.heap.size + 2) 37 (z8), rbox (w.heap.size + 1) 37 (iceC b), rbox w.heap.size 37 (iceC a)]) (Lm := [rbox (w.heap.size + 2) 37 (z8), rbox (w.heap.size + 1) 37 (iceC b), rbox w.heap.size 37 (iceC a)]) ?chM19 ?alM19 ⟨(by kernel_rfl), rfl, ⟨(by kernel_rfl), (by kernel_rfl), (by kernel_rfl)⟩⟩ ⟨F16, (by first | assumption | omega)⟩ ?restM19
      case chM19 =>
        refine Chain.callS 1 (fun t => t 4 = .pointer (some ⟨w.heap.size + 2, 0, none⟩) ∧ t 24 = .agg (iceC a) ∧ t 25 = .agg (iceC b)) (List.forall_mem_cons.2 ⟨fun _ _ u => u, List.forall_mem_cons.2 ⟨fun _ _ u => u, fun _ h => (by cases h)⟩⟩) hSS (fun t ⟨e4, e23, e25⟩ => trivial) (by kernel_rfl) ?_ ?_
        · rintro t w_ LA ⟨e4, e23, e25⟩ ⟨F_, hwn_⟩
          have hws := F_.gb.size
          rw [rng_core_c t, e4, e23, e25]
          clear e4 e23 e25
          refine wpOp_stepH rfl (fun K hK => ?_)
          go_simp
          refine (layersOf_c a _).mono ?_
          rintro e w20 ⟨rfl, hg21⟩
          exact hK.out _ _ ⟨(by kernel_rfl), rfl, ⟨(by kernel_rfl), (by kernel_rfl), (by kernel_rfl)⟩, List.forall_mem_cons.2 ⟨(by kernel_rfl), List.forall_mem_cons.2 ⟨(by kernel_rfl), fun _ h => (by cases h)⟩⟩, ⟨F_.gn hg21, Nat.le_trans hwn_ hg21.size⟩, hSS _ _ ⟨F_.gn hg21, Nat.le_trans hwn_ hg21.size⟩⟩
        refine Chain.callS 3 (fun t => t 4 = .pointer (some ⟨w.heap.size + 2, 0, none⟩) ∧ t 24 = .agg (iceC a) ∧ t 26 = .agg (iceC b)) (List.forall_mem_cons.2 ⟨fun _ _ u => u, List.forall_mem_cons.2 ⟨fun _ _ u => u, fun _ h => (by cases h)⟩⟩) hSS (fun t ⟨e4, e24, e25⟩ => trivial) (by kernel_rfl) ?_ ?_
        · rintro t w_ LA ⟨e4, e24, e25⟩ ⟨F_, hwn_⟩
          have hws := F_.gb.size
          rw [rng_core_c t, e4, e24, e25]
          clear e4 e24 e25
          refine wpOp_stepH rfl (fun K hK => ?_)
          go_simp
          refine (layersOf_c b _).mono ?_
          rintro e w23 ⟨rfl, hg24⟩
          exact hK.out _ _ ⟨(by kernel_rfl), rfl, ⟨(by kernel_rfl), (by kernel_rfl), (by kernel_rfl)⟩, List.forall_mem_cons.2 ⟨(by kernel_rfl), List.forall_mem_cons.2 ⟨(by kernel_rfl), fun _ h => (by cases h)⟩⟩, ⟨F_.gn hg24, Nat.le_trans hwn_ hg24.size⟩, hSS _ _ ⟨F_.gn hg24, Nat.le_trans hwn_ hg24.size⟩⟩
        exact Chain.nil _ _ _ (List.forall_mem_cons.2 ⟨fun _ _ u => u, List.forall_mem_cons.2 ⟨fun _ _ u => u, fun _ h => (by cases h)⟩⟩) hSS (fun t ⟨e4, e24, e26⟩ => trivial)
      case alM19 => exact List.forall_mem_cons.2 ⟨fun _ _ _ _ h => wpOp_step rfl (fun K hK => by go_simp; exact hK _ _ h), List.forall_mem_cons.2 ⟨fun _ _ _ _ h => wpOp_step rfl (fun K hK => by go_simp; exact hK _ _ h), fun _ h => (by cases h)⟩⟩
      case restM19 =>
        rintro t w28 g ⟨e4, e24, e26⟩ hA ⟨F_, hwnM19⟩
        clear hSS
        clear F16
        have hA0 : t 8 = .pointer (some ⟨g 4, 0, none⟩) := hA _ (.head _)
        have hA1 : t 9 = .pointer (some ⟨g 5, 0, none⟩) := hA _ (.tail _ (.head _))
        have F29 : Bun w [rbox (g 4) 82 (z8), rbox (g 5) 82 (z8), rbox (w.heap.size + 2) 37 (z8), rbox (w.heap.size + 1) 37 (iceC b), rbox w.heap.size 37 (iceC a)] w28 := F_
        clear hA F_
        obtain ⟨g26, hgx_⟩ : ∃ x_, g 4 = x_ := ⟨_, rfl⟩
        rw [hgx_] at hA0 F29; clear hgx_
        obtain ⟨g27, hgx_⟩ : ∃ x_, g 5 = x_ := ⟨_, rfl⟩
        rw [hgx_] at hA1 F29; clear hgx_
        have hws := F29.gb.size
        have g26l := (F29.bx8 0 rfl).2.2
        have g27l := (F29.bx8 1 rfl).2.2
        rw [rng_core_c t, e4, e24, e26, hA0, hA1]
        clear e4 e24 e26 hA0 hA1
        refine ru_one 6 rfl (by kernel_rfl) (fun K hK => ?_)
        have kb_ := F29.bx8 0 rfl
        go_simp
        clear kb_
        have F30 := F29.pt8 (.int .i64 a.bl.lo) (.int .i64 a.bl.hi) (.int .i64 a.wh.lo) (.int .i64 a.wh.hi) (.int .i64 a.we.lo) (.int .i64 a.we.hi) (.int .i64 a.sn.lo) (.int .i64 a.sn.hi)
        clear F29
        refine ru_back hK (by exact ⟨F30.cl 4 0 rfl rfl, F30.cl 4 1 rfl rfl, F30.cl 4 2 rfl rfl, F30.cl 4 3 rfl rfl, F30.cl 4 4 rfl rfl, F30.cl 4 5 rfl rfl, F30.cl 4 6 rfl rfl, F30.cl 4 7 rfl rfl, F30.cl 3 0 rfl rfl, F30.cl 3 1 rfl rfl, F30.cl 3 2 rfl rfl, F30.cl 3 3 rfl rfl, F30.cl 3 4 rfl rfl, F30.cl 3 5 rfl rfl, F30.cl 3 6 rfl rfl, F30.cl 3 7 rfl rfl⟩) (fun hHeld => ?_)
        clear hK K
        (try simp only [Act.put, List.setIfInBounds_toArray, List.set_cons_zero, List.set_cons_succ])
        refine ru_one 7 rfl (by kernel_rfl) (fun K hK => ?_)
        have kb_ := F30.bx8 1 rfl
        go_simp
        clear kb_
        have F31 := (F30.front 1 rfl rfl).pt8 (.int .i64 b.bl.lo) (.int .i64 b.bl.hi) (.int .i64 b.wh.lo) (.int .i64 b.wh.hi) (.int .i64 b.we.lo) (.int .i64 b.we.hi) (.int .i64 b.sn.lo) (.int .i64 b.sn.hi)
        clear F30
        refine ru_back_late hK (by kernel_rfl) ?_
        clear hK K
        (try simp only [Act.put, List.setIfInBounds_toArray, List.set_cons_zero, List.set_cons_succ])
        refine ru_done (by kernel_rfl) ?_
        obtain ⟨w32, hx33, F35, hxs34⟩ := (show Bun w [rbox g27 82 (iceC b), rbox g26 82 (iceC a), rbox (w.heap.size + 2) 37 (z8)] _ from ((F31.drop 3 rfl).drop 3 rfl)).name
        (try simp at hxs34)
        rw [hx33]
        clear hx33 F31
        go_wp2_with fail
        refine wp_loop_rounds 5 ?_
        rw [rounds_succ]
        go_wp2_with fail
        have F36 := F35.drew
        clear F35
        refine ru_begin (fun W => W.cell? ⟨g26, 0, none⟩ = some (.int .i64 a.bl.lo) ∧ W.cell? ⟨g27, 0, none⟩ = some (.int .i64 b.bl.lo) ∧ W.cell? ⟨g26, 1, none⟩ = some (.int .i64 a.bl.hi) ∧ W.cell? ⟨g27, 1, none⟩ = some (.int .i64 b.bl.hi)) 21 (by kernel_rfl) ?_ ?_
        · exact ⟨F36.cl 1 0 rfl rfl, F36.cl 0 0 rfl rfl, F36.cl 1 1 rfl rfl, F36.cl 0 1 rfl rfl⟩
        obtain ⟨wd38, hwd_⟩ : ∃ x : World, w32.drew = x := ⟨_, rfl⟩
        rw [hwd_] at F36 ⊢
        have wd38s : w32.heap.size ≤ wd38.heap.size := by rw [← hwd_]; exact Nat.le_refl _
        clear hwd_
        have hS37 := (And.intro (F36.cl 1 0 rfl rfl) (And.intro (F36.cl 0 0 rfl rfl) (And.intro (F36.cl 1 1 rfl rfl) (F36.cl 0 1 rfl rfl))))
        refine ru_t 0 [] ?_
        refine ru_t 1 [] ?_
        refine ru_t 2 [] ?_
        refine ru_t 3 [] ?_
        refine ru_t 4 [] ?_
        refine ru_t 5 [] ?_
        refine ru_t 6 [] ?_
        refine ru_t 7 [] ?_
        refine ru_t 8 [] ?_
        refine ru_t 9 [] ?_
        refine ru_t 10 [] ?_
        refine ru_t 11 [] ?_
        refine ru_t 12 [] ?_
        refine ru_t 13 [] ?_
        refine ru_t 14 [] ?_
        refine ru_t 15 [] ?_
        refine ru_t 16 [] ?_
        refine ru_t 17 [] ?_
        refine ru_t 18 [] ?_
        refine ru_t 19 [] ?_
        refine ru_t 20 [] ?_
        (try simp only [Act.put, List.setIfInBounds_toArray, List.set_cons_zero, List.set_cons_succ])
        clear hS37
        refine ru_one 21 rfl (by kernel_rfl) (fun K hK => ?_)
        have kb_ := F36.bx8 1 rfl
        go_simp
        clear kb_
        have F39 := ((F36.front 1 rfl rfl).set 0 (.int .i64 m0)).nf #[.int .i64 m0, .int .i64 a.bl.hi, .int .i64 a.wh.lo, .int .i64 a.wh.hi, .int .i64 a.we.lo, .int .i64 a.we.hi, .int .i64 a.sn.lo, .int .i64 a.sn.hi] rfl
        clear F36
        have F40 := (F39.set 1 (.int .i64 m1)).nf #[.int .i64 m0, .int .i64 m1, .int .i64 a.wh.lo, .int .i64 a.wh.hi, .int .i64 a.we.lo, .int .i64 a.we.hi, .int .i64 a.sn.lo, .int .i64 a.sn.hi] rfl
        clear F39
        refine ru_back_late hK (by kernel_rfl) ?_
        clear hK K
        (try simp only [Act.put, List.setIfInBounds_toArray, List.set_cons_zero, List.set_cons_succ])
        refine ru_done (by kernel_rfl) ?_
        obtain ⟨w41, hx42, F44, hxs43⟩ := (show Bun w [rbox g26 82 #[.int .i64 m0, .int .i64 m1, .int .i64 a.wh.lo, .int .i64 a.wh.hi, .int .i64 a.we.lo, .int .i64 a.we.hi, .int .i64 a.sn.lo, .int .i64 a.sn.hi], rbox g27 82 (iceC b), rbox (w.heap.size + 2) 37 (z8)] _ from F40).name
        (try simp at hxs43)
        rw [hx42]
        clear hx42 F40
        go_wp2_with fail
        have b45 := F44.bx8 0 rfl
        go_quiet (fail)
        clear b45
        have F46 := F44.drewN nq
        clear F44
        obtain ⟨w47, hx48, F50, hxs49⟩ := (show Bun w [rbox g26 82 #[.int .i64 m0, .int .i64 m1, .int .i64 a.wh.lo, .int .i64 a.wh.hi, .int .i64 a.we.lo, .int .i64 a.we.hi, .int .i64 a.sn.lo, .int .i64 a.sn.hi], rbox g27 82 (iceC b), rbox (w.heap.size + 2) 37 (z8)] _ from F46).name
        (try simp at hxs49)
        rw [hx48]
        clear hx48 F46
        by_cases c51 : m1 < m0
        · skip
          have c51H := Lib.hid c51
          have HE : Hid (coreE a b = 12) := Lib.hid (by rw [coreE, if_neg (not_not_intro c9H.out), if_neg (not_not_intro c15H.out), if_pos (by simp only [both, Hm0.out, Hm1.out, Hm2.out, Hm3.out, Hm4.out, Hm5.out, Hm6.out, Hm7.out]; have := c51H.out; omega)])
          have Hx52 := Lib.hid (show (((coreI a b).bl.lo : Int)) = 0 by rw [coreI, if_neg (by rw [HE.out]; omega)]; (try rfl))
          have Hx53 := Lib.hid (show (((coreI a b).bl.hi : Int)) = 0 by rw [coreI, if_neg (by rw [HE.out]; omega)]; (try rfl))
          have Hx54 := Lib.hid (show (((coreI a b).wh.lo : Int)) = 0 by rw [coreI, if_neg (by rw [HE.out]; omega)]; (try rfl))
          have Hx55 := Lib.hid (show (((coreI a b).wh.hi : Int)) = 0 by rw [coreI, if_neg (by rw [HE.out]; omega)]; (try rfl))
          have Hx56 := Lib.hid (show (((coreI a b).we.lo : Int)) = 0 by rw [coreI, if_neg (by rw [HE.out]; omega)]; (try rfl))
          have Hx57 := Lib.hid (show (((coreI a b).we.hi : Int)) = 0 by rw [coreI, if_neg (by rw [HE.out]; omega)]; (try rfl))
          have Hx58 := Lib.hid (show (((coreI a b).sn.lo : Int)) = 0 by rw [coreI, if_neg (by rw [HE.out]; omega)]; (try rfl))
          have Hx59 := Lib.hid (show (((coreI a b).sn.hi : Int)) = 0 by rw [coreI, if_neg (by rw [HE.out]; omega)]; (try rfl))
          have Hx60 := Lib.hid (show ((coreE a b : Int)) = 12 by exact HE.out)
          have b61 := F50.bx8 2 rfl
          go_wp2_with fail
          clear b61
          have F62 := (F50.front 2 rfl rfl).pt8 (.int .i64 0) (.int .i64 0) (.int .i64 0) (.int .i64 0) (.int .i64 0) (.int .i64 0) (.int .i64 0) (.int .i64 0)
          clear F50
          have kb63 := F62.bx8 0 rfl
          go_wp2_with fail
          exact bodyPost_ret (v := .tuple #[.agg (z8), .int .i64 12]) (by simp [results, Tryd.results40, go_sem, kb63]) rfl (⟨by rw [Hx52.out, Hx53.out, Hx54.out, Hx55.out, Hx56.out, Hx57.out, Hx58.out, Hx59.out, Hx60.out] <;> rfl, F62.gb⟩)
        · skip
          have c51H := Lib.hid c51
          have c51a : decide (m1 < m0) = false := dec_f c51
          go_wp2_with fail
          rw [rounds_succ]
          go_wp2_with fail
          have F64 := F50.drew
          clear F50
          refine ru_begin (fun W => W.cell? ⟨g26, 2, none⟩ = some (.int .i64 a.wh.lo) ∧ W.cell? ⟨g27, 2, none⟩ = some (.int .i64 b.wh.lo) ∧ W.cell? ⟨g26, 3, none⟩ = some (.int .i64 a.wh.hi) ∧ W.cell? ⟨g27, 3, none⟩ = some (.int .i64 b.wh.hi)) 21 (by kernel_rfl) ?_ ?_
          · exact ⟨F64.cl 0 2 rfl rfl, F64.cl 1 2 rfl rfl, F64.cl 0 3 rfl rfl, F64.cl 1 3 rfl rfl⟩
          obtain ⟨wd66, hwd_⟩ : ∃ x : World, w47.drew = x := ⟨_, rfl⟩
          rw [hwd_] at F64 ⊢
          have wd66s : w47.heap.size ≤ wd66.heap.size := by rw [← hwd_]; exact Nat.le_refl _
          clear hwd_
          have hS65 := (And.intro (F64.cl 0 2 rfl rfl) (And.intro (F64.cl 1 2 rfl rfl) (And.intro (F64.cl 0 3 rfl rfl) (F64.cl 1 3 rfl rfl))))
          refine ru_t 0 [] ?_
          refine ru_t 1 [] ?_
          refine ru_t 2 [] ?_
          refine ru_t 3 [] ?_
          refine ru_t 4 [] ?_
          refine ru_t 5 [] ?_
          refine ru_t 6 [] ?_
          refine ru_t 7 [] ?_
          refine ru_t 8 [] ?_
          refine ru_t 9 [] ?_
          refine ru_t 10 [] ?_
          refine ru_t 11 [] ?_
          refine ru_t 12 [] ?_
          refine ru_t 13 [] ?_
          refine ru_t 14 [] ?_
          refine ru_t 15 [] ?_
          refine ru_t 16 [] ?_
          refine ru_t 17 [] ?_
          refine ru_t 18 [] ?_
          refine ru_t 19 [] ?_
          refine ru_t 20 [] ?_
          (try simp only [Act.put, List.setIfInBounds_toArray, List.set_cons_zero, List.set_cons_succ])
          clear hS65
          refine ru_one 21 rfl (by kernel_rfl) (fun K hK => ?_)
          have kb_ := F64.bx8 0 rfl
          go_simp
          clear kb_
          have F67 := (F64.set 2 (.int .i64 m2)).nf #[.int .i64 m0, .int .i64 m1, .int .i64 m2, .int .i64 a.wh.hi, .int .i64 a.we.lo, .int .i64 a.we.hi, .int .i64 a.sn.lo, .int .i64 a.sn.hi] rfl
          clear F64
          have F68 := (F67.set 3 (.int .i64 m3)).nf #[.int .i64 m0, .int .i64 m1, .int .i64 m2, .int .i64 m3, .int .i64 a.we.lo, .int .i64 a.we.hi, .int .i64 a.sn.lo, .int .i64 a.sn.hi] rfl
          clear F67
          refine ru_back_late hK (by kernel_rfl) ?_
          clear hK K
          (try simp only [Act.put, List.setIfInBounds_toArray, List.set_cons_zero, List.set_cons_succ])
          refine ru_done (by kernel_rfl) ?_
          obtain ⟨w69, hx70, F72, hxs71⟩ := (show Bun w [rbox g26 82 #[.int .i64 m0, .int .i64 m1, .int .i64 m2, .int .i64 m3, .int .i64 a.we.lo, .int .i64 a.we.hi, .int .i64 a.sn.lo, .int .i64 a.sn.hi], rbox g27 82 (iceC b), rbox (w.heap.size + 2) 37 (z8)] _ from F68).name
          (try simp at hxs71)
          rw [hx70]
          clear hx70 F68
          go_wp2_with fail
          have b73 := F72.bx8 0 rfl
          go_quiet (fail)
          clear b73
          have F74 := F72.drewN nq
          clear F72
          obtain ⟨w75, hx76, F78, hxs77⟩ := (show Bun w [rbox g26 82 #[.int .i64 m0, .int .i64 m1, .int .i64 m2, .int .i64 m3, .int .i64 a.we.lo, .int .i64 a.we.hi, .int .i64 a.sn.lo, .int .i64 a.sn.hi], rbox g27 82 (iceC b), rbox (w.heap.size + 2) 37 (z8)] _ from F74).name
          (try simp at hxs77)
          rw [hx76]
          clear hx76 F74
          by_cases c79 : m3 < m2
          · skip
            have c79H := Lib.hid c79
            have HE : Hid (coreE a b = 12) := Lib.hid (by rw [coreE, if_neg (not_not_intro c9H.out), if_neg (not_not_intro c15H.out), if_pos (by simp only [both, Hm0.out, Hm1.out, Hm2.out, Hm3.out, Hm4.out, Hm5.out, Hm6.out, Hm7.out]; have := c51H.out; have := c79H.out; omega)])
            have Hx80 := Lib.hid (show (((coreI a b).bl.lo : Int)) = 0 by rw [coreI, if_neg (by rw [HE.out]; omega)]; (try rfl))
            have Hx81 := Lib.hid (show (((coreI a b).bl.hi : Int)) = 0 by rw [coreI, if_neg (by rw [HE.out]; omega)]; (try rfl))
            have Hx82 := Lib.hid (show (((coreI a b).wh.lo : Int)) = 0 by rw [coreI, if_neg (by rw [HE.out]; omega)]; (try rfl))
            have Hx83 := Lib.hid (show (((coreI a b).wh.hi : Int)) = 0 by rw [coreI, if_neg (by rw [HE.out]; omega)]; (try rfl))
            have Hx84 := Lib.hid (show (((coreI a b).we.lo : Int)) = 0 by rw [coreI, if_neg (by rw [HE.out]; omega)]; (try rfl))
            have Hx85 := Lib.hid (show (((coreI a b).we.hi : Int)) = 0 by rw [coreI, if_neg (by rw [HE.out]; omega)]; (try rfl))
            have Hx86 := Lib.hid (show (((coreI a b).sn.lo : Int)) = 0 by rw [coreI, if_neg (by rw [HE.out]; omega)]; (try rfl))
            have Hx87 := Lib.hid (show (((coreI a b).sn.hi : Int)) = 0 by rw [coreI, if_neg (by rw [HE.out]; omega)]; (try rfl))
            have Hx88 := Lib.hid (show ((coreE a b : Int)) = 12 by exact HE.out)
            have b89 := F78.bx8 2 rfl
            go_wp2_with fail
            clear b89
            have F90 := (F78.front 2 rfl rfl).pt8 (.int .i64 0) (.int .i64 0) (.int .i64 0) (.int .i64 0) (.int .i64 0) (.int .i64 0) (.int .i64 0) (.int .i64 0)
            clear F78
            have kb91 := F90.bx8 0 rfl
            go_wp2_with fail
            exact bodyPost_ret (v := .tuple #[.agg (z8), .int .i64 12]) (by simp [results, Tryd.results40, go_sem, kb91]) rfl (⟨by rw [Hx80.out, Hx81.out, Hx82.out, Hx83.out, Hx84.out, Hx85.out, Hx86.out, Hx87.out, Hx88.out] <;> rfl, F90.gb⟩)
          · skip
            have c79H := Lib.hid c79
            have c79a : decide (m3 < m2) = false := dec_f c79
            go_wp2_with fail
            rw [rounds_succ]
            go_wp2_with fail
            have F92 := F78.drew
            clear F78
            refine ru_begin (fun W => W.cell? ⟨g26, 4, none⟩ = some (.int .i64 a.we.lo) ∧ W.cell? ⟨g27, 4, none⟩ = some (.int .i64 b.we.lo) ∧ W.cell? ⟨g26, 5, none⟩ = some (.int .i64 a.we.hi) ∧ W.cell? ⟨g27, 5, none⟩ = some (.int .i64 b.we.hi)) 21 (by kernel_rfl) ?_ ?_
            · exact ⟨F92.cl 0 4 rfl rfl, F92.cl 1 4 rfl rfl, F92.cl 0 5 rfl rfl, F92.cl 1 5 rfl rfl⟩
            obtain ⟨wd94, hwd_⟩ : ∃ x : World, w75.drew = x := ⟨_, rfl⟩
            rw [hwd_] at F92 ⊢
            have wd94s : w75.heap.size ≤ wd94.heap.size := by rw [← hwd_]; exact Nat.le_refl _
            clear hwd_
            have hS93 := (And.intro (F92.cl 0 4 rfl rfl) (And.intro (F92.cl 1 4 rfl rfl) (And.intro (F92.cl 0 5 rfl rfl) (F92.cl 1 5 rfl rfl))))
            refine ru_t 0 [] ?_
            refine ru_t 1 [] ?_
            refine ru_t 2 [] ?_
            refine ru_t 3 [] ?_
            refine ru_t 4 [] ?_
            refine ru_t 5 [] ?_
            refine ru_t 6 [] ?_
            refine ru_t 7 [] ?_
            refine ru_t 8 [] ?_
            refine ru_t 9 [] ?_
            refine ru_t 10 [] ?_
            refine ru_t 11 [] ?_
            refine ru_t 12 [] ?_
            refine ru_t 13 [] ?_
            refine ru_t 14 [] ?_
            refine ru_t 15 [] ?_
            refine ru_t 16 [] ?_
            refine ru_t 17 [] ?_
            refine ru_t 18 [] ?_
            refine ru_t 19 [] ?_
            refine ru_t 20 [] ?_
            (try simp only [Act.put, List.setIfInBounds_toArray, List.set_cons_zero, List.set_cons_succ])
            clear hS93
            refine ru_one 21 rfl (by kernel_rfl) (fun K hK => ?_)
            have kb_ := F92.bx8 0 rfl
            go_simp
            clear kb_
            have F95 := (F92.set 4 (.int .i64 m4)).nf #[.int .i64 m0, .int .i64 m1, .int .i64 m2, .int .i64 m3, .int .i64 m4, .int .i64 a.we.hi, .int .i64 a.sn.lo, .int .i64 a.sn.hi] rfl
            clear F92
            have F96 := (F95.set 5 (.int .i64 m5)).nf #[.int .i64 m0, .int .i64 m1, .int .i64 m2, .int .i64 m3, .int .i64 m4, .int .i64 m5, .int .i64 a.sn.lo, .int .i64 a.sn.hi] rfl
            clear F95
            refine ru_back_late hK (by kernel_rfl) ?_
            clear hK K
            (try simp only [Act.put, List.setIfInBounds_toArray, List.set_cons_zero, List.set_cons_succ])
            refine ru_done (by kernel_rfl) ?_
            obtain ⟨w97, hx98, F100, hxs99⟩ := (show Bun w [rbox g26 82 #[.int .i64 m0, .int .i64 m1, .int .i64 m2, .int .i64 m3, .int .i64 m4, .int .i64 m5, .int .i64 a.sn.lo, .int .i64 a.sn.hi], rbox g27 82 (iceC b), rbox (w.heap.size + 2) 37 (z8)] _ from F96).name
            (try simp at hxs99)
            rw [hx98]
            clear hx98 F96
            go_wp2_with fail
            have b101 := F100.bx8 0 rfl
            go_quiet (fail)
            clear b101
            have F102 := F100.drewN nq
            clear F100
            obtain ⟨w103, hx104, F106, hxs105⟩ := (show Bun w [rbox g26 82 #[.int .i64 m0, .int .i64 m1, .int .i64 m2, .int .i64 m3, .int .i64 m4, .int .i64 m5, .int .i64 a.sn.lo, .int .i64 a.sn.hi], rbox g27 82 (iceC b), rbox (w.heap.size + 2) 37 (z8)] _ from F102).name
            (try simp at hxs105)
            rw [hx104]
            clear hx104 F102
            by_cases c107 : m5 < m4
            · skip
              have c107H := Lib.hid c107
              have HE : Hid (coreE a b = 12) := Lib.hid (by rw [coreE, if_neg (not_not_intro c9H.out), if_neg (not_not_intro c15H.out), if_pos (by simp only [both, Hm0.out, Hm1.out, Hm2.out, Hm3.out, Hm4.out, Hm5.out, Hm6.out, Hm7.out]; have := c51H.out; have := c79H.out; have := c107H.out; omega)])
              have Hx108 := Lib.hid (show (((coreI a b).bl.lo : Int)) = 0 by rw [coreI, if_neg (by rw [HE.out]; omega)]; (try rfl))
              have Hx109 := Lib.hid (show (((coreI a b).bl.hi : Int)) = 0 by rw [coreI, if_neg (by rw [HE.out]; omega)]; (try rfl))
              have Hx110 := Lib.hid (show (((coreI a b).wh.lo : Int)) = 0 by rw [coreI, if_neg (by rw [HE.out]; omega)]; (try rfl))
              have Hx111 := Lib.hid (show (((coreI a b).wh.hi : Int)) = 0 by rw [coreI, if_neg (by rw [HE.out]; omega)]; (try rfl))
              have Hx112 := Lib.hid (show (((coreI a b).we.lo : Int)) = 0 by rw [coreI, if_neg (by rw [HE.out]; omega)]; (try rfl))
              have Hx113 := Lib.hid (show (((coreI a b).we.hi : Int)) = 0 by rw [coreI, if_neg (by rw [HE.out]; omega)]; (try rfl))
              have Hx114 := Lib.hid (show (((coreI a b).sn.lo : Int)) = 0 by rw [coreI, if_neg (by rw [HE.out]; omega)]; (try rfl))
              have Hx115 := Lib.hid (show (((coreI a b).sn.hi : Int)) = 0 by rw [coreI, if_neg (by rw [HE.out]; omega)]; (try rfl))
              have Hx116 := Lib.hid (show ((coreE a b : Int)) = 12 by exact HE.out)
              have b117 := F106.bx8 2 rfl
              go_wp2_with fail
              clear b117
              have F118 := (F106.front 2 rfl rfl).pt8 (.int .i64 0) (.int .i64 0) (.int .i64 0) (.int .i64 0) (.int .i64 0) (.int .i64 0) (.int .i64 0) (.int .i64 0)
              clear F106
              have kb119 := F118.bx8 0 rfl
              go_wp2_with fail
              exact bodyPost_ret (v := .tuple #[.agg (z8), .int .i64 12]) (by simp [results, Tryd.results40, go_sem, kb119]) rfl (⟨by rw [Hx108.out, Hx109.out, Hx110.out, Hx111.out, Hx112.out, Hx113.out, Hx114.out, Hx115.out, Hx116.out] <;> rfl, F118.gb⟩)
            · skip
              have c107H := Lib.hid c107
              have c107a : decide (m5 < m4) = false := dec_f c107
              go_wp2_with fail
              rw [rounds_succ]
              go_wp2_with fail
              have F120 := F106.drew
              clear F106
              refine ru_begin (fun W => W.cell? ⟨g26, 6, none⟩ = some (.int .i64 a.sn.lo) ∧ W.cell? ⟨g27, 6, none⟩ = some (.int .i64 b.sn.lo) ∧ W.cell? ⟨g26, 7, none⟩ = some (.int .i64 a.sn.hi) ∧ W.cell? ⟨g27, 7, none⟩ = some (.int .i64 b.sn.hi)) 21 (by kernel_rfl) ?_ ?_
              · exact ⟨F120.cl 0 6 rfl rfl, F120.cl 1 6 rfl rfl, F120.cl 0 7 rfl rfl, F120.cl 1 7 rfl rfl⟩
              obtain ⟨wd122, hwd_⟩ : ∃ x : World, w103.drew = x := ⟨_, rfl⟩
              rw [hwd_] at F120 ⊢
              have wd122s : w103.heap.size ≤ wd122.heap.size := by rw [← hwd_]; exact Nat.le_refl _
              clear hwd_
              have hS121 := (And.intro (F120.cl 0 6 rfl rfl) (And.intro (F120.cl 1 6 rfl rfl) (And.intro (F120.cl 0 7 rfl rfl) (F120.cl 1 7 rfl rfl))))
              refine ru_t 0 [] ?_
              refine ru_t 1 [] ?_
              refine ru_t 2 [] ?_
              refine ru_t 3 [] ?_
              refine ru_t 4 [] ?_
              refine ru_t 5 [] ?_
              refine ru_t 6 [] ?_
              refine ru_t 7 [] ?_
              refine ru_t 8 [] ?_
              refine ru_t 9 [] ?_
              refine ru_t 10 [] ?_
              refine ru_t 11 [] ?_
              refine ru_t 12 [] ?_
              refine ru_t 13 [] ?_
              refine ru_t 14 [] ?_
              refine ru_t 15 [] ?_
              refine ru_t 16 [] ?_
              refine ru_t 17 [] ?_
              refine ru_t 18 [] ?_
              refine ru_t 19 [] ?_
              refine ru_t 20 [] ?_
              (try simp only [Act.put, List.setIfInBounds_toArray, List.set_cons_zero, List.set_cons_succ])
              clear hS121
              refine ru_one 21 rfl (by kernel_rfl) (fun K hK => ?_)
              have kb_ := F120.bx8 0 rfl
              go_simp
              clear kb_
              have F123 := (F120.set 6 (.int .i64 m6)).nf #[.int .i64 m0, .int .i64 m1, .int .i64 m2, .int .i64 m3, .int .i64 m4, .int .i64 m5, .int .i64 m6, .int .i64 a.sn.hi] rfl
              clear F120
              have F124 := (F123.set 7 (.int .i64 m7)).nf #[.int .i64 m0, .int .i64 m1, .int .i64 m2, .int .i64 m3, .int .i64 m4, .int .i64 m5, .int .i64 m6, .int .i64 m7] rfl
              clear F123
              refine ru_back_late hK (by kernel_rfl) ?_
              clear hK K
              (try simp only [Act.put, List.setIfInBounds_toArray, List.set_cons_zero, List.set_cons_succ])
              refine ru_done (by kernel_rfl) ?_
              obtain ⟨w125, hx126, F128, hxs127⟩ := (show Bun w [rbox g26 82 #[.int .i64 m0, .int .i64 m1, .int .i64 m2, .int .i64 m3, .int .i64 m4, .int .i64 m5, .int .i64 m6, .int .i64 m7], rbox g27 82 (iceC b), rbox (w.heap.size + 2) 37 (z8)] _ from F124).name
              (try simp at hxs127)
              rw [hx126]
              clear hx126 F124
              go_wp2_with fail
              have b129 := F128.bx8 0 rfl
              go_quiet (fail)
              clear b129
              have F130 := F128.drewN nq
              clear F128
              obtain ⟨w131, hx132, F134, hxs133⟩ := (show Bun w [rbox g26 82 #[.int .i64 m0, .int .i64 m1, .int .i64 m2, .int .i64 m3, .int .i64 m4, .int .i64 m5, .int .i64 m6, .int .i64 m7], rbox g27 82 (iceC b), rbox (w.heap.size + 2) 37 (z8)] _ from F130).name
              (try simp at hxs133)
              rw [hx132]
              clear hx132 F130
              by_cases c135 : m7 < m6
              · skip
                have c135H := Lib.hid c135
                have HE : Hid (coreE a b = 12) := Lib.hid (by rw [coreE, if_neg (not_not_intro c9H.out), if_neg (not_not_intro c15H.out), if_pos (by simp only [both, Hm0.out, Hm1.out, Hm2.out, Hm3.out, Hm4.out, Hm5.out, Hm6.out, Hm7.out]; have := c51H.out; have := c79H.out; have := c107H.out; have := c135H.out; omega)])
                have Hx136 := Lib.hid (show (((coreI a b).bl.lo : Int)) = 0 by rw [coreI, if_neg (by rw [HE.out]; omega)]; (try rfl))
                have Hx137 := Lib.hid (show (((coreI a b).bl.hi : Int)) = 0 by rw [coreI, if_neg (by rw [HE.out]; omega)]; (try rfl))
                have Hx138 := Lib.hid (show (((coreI a b).wh.lo : Int)) = 0 by rw [coreI, if_neg (by rw [HE.out]; omega)]; (try rfl))
                have Hx139 := Lib.hid (show (((coreI a b).wh.hi : Int)) = 0 by rw [coreI, if_neg (by rw [HE.out]; omega)]; (try rfl))
                have Hx140 := Lib.hid (show (((coreI a b).we.lo : Int)) = 0 by rw [coreI, if_neg (by rw [HE.out]; omega)]; (try rfl))
                have Hx141 := Lib.hid (show (((coreI a b).we.hi : Int)) = 0 by rw [coreI, if_neg (by rw [HE.out]; omega)]; (try rfl))
                have Hx142 := Lib.hid (show (((coreI a b).sn.lo : Int)) = 0 by rw [coreI, if_neg (by rw [HE.out]; omega)]; (try rfl))
                have Hx143 := Lib.hid (show (((coreI a b).sn.hi : Int)) = 0 by rw [coreI, if_neg (by rw [HE.out]; omega)]; (try rfl))
                have Hx144 := Lib.hid (show ((coreE a b : Int)) = 12 by exact HE.out)
                have b145 := F134.bx8 2 rfl
                go_wp2_with fail
                clear b145
                have F146 := (F134.front 2 rfl rfl).pt8 (.int .i64 0) (.int .i64 0) (.int .i64 0) (.int .i64 0) (.int .i64 0) (.int .i64 0) (.int .i64 0) (.int .i64 0)
                clear F134
                have kb147 := F146.bx8 0 rfl
                go_wp2_with fail
                exact bodyPost_ret (v := .tuple #[.agg (z8), .int .i64 12]) (by simp [results, Tryd.results40, go_sem, kb147]) rfl (⟨by rw [Hx136.out, Hx137.out, Hx138.out, Hx139.out, Hx140.out, Hx141.out, Hx142.out, Hx143.out, Hx144.out] <;> rfl, F146.gb⟩)
              · skip
                have c135H := Lib.hid c135
                have c135a : decide (m7 < m6) = false := dec_f c135
                go_wp2_with fail
                rw [rounds_succ]
                have b148 := F134.bx8 0 rfl
                go_wp2_with fail
                clear b148
                refine (lice_c ⟨⟨m0, m1⟩, ⟨m2, m3⟩, ⟨m4, m5⟩, ⟨m6, m7⟩⟩ _).mono ?_
                rintro e w151 ⟨rfl, hg149⟩
                have hg149s := hg149.size
                (try simp at hg149s)
                have F152 := F134.gn hg149
                clear F134
                clear hg149
                have HE : Hid (coreE a b = 0) := Lib.hid (by rw [coreE, if_neg (not_not_intro c9H.out), if_neg (not_not_intro c15H.out), if_neg (by simp only [both, Hm0.out, Hm1.out, Hm2.out, Hm3.out, Hm4.out, Hm5.out, Hm6.out, Hm7.out]; have := c51H.out; have := c79H.out; have := c107H.out; have := c135H.out; omega)])
                have Hx153 := Lib.hid (show (((coreI a b).bl.lo : Int)) = m0 by rw [coreI, if_pos HE.out]; exact Hm0.out)
                have Hx154 := Lib.hid (show (((coreI a b).bl.hi : Int)) = m1 by rw [coreI, if_pos HE.out]; exact Hm1.out)
                have Hx155 := Lib.hid (show (((coreI a b).wh.lo : Int)) = m2 by rw [coreI, if_pos HE.out]; exact Hm2.out)
                have Hx156 := Lib.hid (show (((coreI a b).wh.hi : Int)) = m3 by rw [coreI, if_pos HE.out]; exact Hm3.out)
                have Hx157 := Lib.hid (show (((coreI a b).we.lo : Int)) = m4 by rw [coreI, if_pos HE.out]; exact Hm4.out)
                have Hx158 := Lib.hid (show (((coreI a b).we.hi : Int)) = m5 by rw [coreI, if_pos HE.out]; exact Hm5.out)
                have Hx159 := Lib.hid (show (((coreI a b).sn.lo : Int)) = m6 by rw [coreI, if_pos HE.out]; exact Hm6.out)
                have Hx160 := Lib.hid (show (((coreI a b).sn.hi : Int)) = m7 by rw [coreI, if_pos HE.out]; exact Hm7.out)
                have Hx161 := Lib.hid (show ((coreE a b : Int)) = 0 by exact HE.out)
                have b162 := F152.bx8 2 rfl
                go_wp2_with fail
                clear b162
                have F163 := (F152.front 2 rfl rfl).pt8 (.int .i64 m0) (.int .i64 m1) (.int .i64 m2) (.int .i64 m3) (.int .i64 m4) (.int .i64 m5) (.int .i64 m6) (.int .i64 m7)
                clear F152
                have kb164 := F163.bx8 0 rfl
                go_wp2_with fail
                exact bodyPost_ret (v := .tuple #[.agg #[.int .i64 m0, .int .i64 m1, .int .i64 m2, .int .i64 m3, .int .i64 m4, .int .i64 m5, .int .i64 m6, .int .i64 m7], .int .i64 0]) (by simp [results, Tryd.results40, go_sem, kb164]) rfl (⟨by rw [Hx153.out, Hx154.out, Hx155.out, Hx156.out, Hx157.out, Hx158.out, Hx159.out, Hx160.out, Hx161.out] <;> rfl, F163.gb⟩)
    · skip
      have c15a : ((iceErr b) == 0) = false := beq_f c15
      have c15b : ((iceErr b) != 0) = true := bne_t c15
      have c15H := Lib.hid c15
      clear c15
      have HE : Hid (coreE a b = iceErr b) := Lib.hid (by rw [coreE, if_neg (not_not_intro c9H.out), if_pos c15H.out])
      have Hx165 := Lib.hid (show (((coreI a b).bl.lo : Int)) = 0 by rw [coreI, if_neg (by rw [HE.out]; exact c15H.out)]; (try rfl))
      have Hx166 := Lib.hid (show (((coreI a b).bl.hi : Int)) = 0 by rw [coreI, if_neg (by rw [HE.out]; exact c15H.out)]; (try rfl))
      have Hx167 := Lib.hid (show (((coreI a b).wh.lo : Int)) = 0 by rw [coreI, if_neg (by rw [HE.out]; exact c15H.out)]; (try rfl))
      have Hx168 := Lib.hid (show (((coreI a b).wh.hi : Int)) = 0 by rw [coreI, if_neg (by rw [HE.out]; exact c15H.out)]; (try rfl))
      have Hx169 := Lib.hid (show (((coreI a b).we.lo : Int)) = 0 by rw [coreI, if_neg (by rw [HE.out]; exact c15H.out)]; (try rfl))
      have Hx170 := Lib.hid (show (((coreI a b).we.hi : Int)) = 0 by rw [coreI, if_neg (by rw [HE.out]; exact c15H.out)]; (try rfl))
      have Hx171 := Lib.hid (show (((coreI a b).sn.lo : Int)) = 0 by rw [coreI, if_neg (by rw [HE.out]; exact c15H.out)]; (try rfl))
      have Hx172 := Lib.hid (show (((coreI a b).sn.hi : Int)) = 0 by rw [coreI, if_neg (by rw [HE.out]; exact c15H.out)]; (try rfl))
      have Hx173 := Lib.hid (show ((coreE a b : Int)) = iceErr b by exact HE.out)
      have b174 := F14.bx8 0 rfl
      go_wp2_with fail
      clear b174
      have F175 := F14.pt8 (.int .i64 0) (.int .i64 0) (.int .i64 0) (.int .i64 0) (.int .i64 0) (.int .i64 0) (.int .i64 0) (.int .i64 0)
      clear F14
      have kb176 := F175.bx8 0 rfl
      go_wp2_with fail
      exact bodyPost_ret (v := .tuple #[.agg (z8), .int .i64 (iceErr b)]) (by simp [results, Tryd.results40, go_sem, kb176]) rfl (⟨by rw [Hx165.out, Hx166.out, Hx167.out, Hx168.out, Hx169.out, Hx170.out, Hx171.out, Hx172.out, Hx173.out] <;> rfl, F175.gb⟩)
  · skip
    have c9a : ((iceErr a) == 0) = false := beq_f c9
    have c9b : ((iceErr a) != 0) = true := bne_t c9
    have c9H := Lib.hid c9
    clear c9
    have HE : Hid (coreE a b = iceErr a) := Lib.hid (by rw [coreE, if_pos c9H.out])
    have Hx177 := Lib.hid (show (((coreI a b).bl.lo : Int)) = 0 by rw [coreI, if_neg (by rw [HE.out]; exact c9H.out)]; (try rfl))
    have Hx178 := Lib.hid (show (((coreI a b).bl.hi : Int)) = 0 by rw [coreI, if_neg (by rw [HE.out]; exact c9H.out)]; (try rfl))
    have Hx179 := Lib.hid (show (((coreI a b).wh.lo : Int)) = 0 by rw [coreI, if_neg (by rw [HE.out]; exact c9H.out)]; (try rfl))
    have Hx180 := Lib.hid (show (((coreI a b).wh.hi : Int)) = 0 by rw [coreI, if_neg (by rw [HE.out]; exact c9H.out)]; (try rfl))
    have Hx181 := Lib.hid (show (((coreI a b).we.lo : Int)) = 0 by rw [coreI, if_neg (by rw [HE.out]; exact c9H.out)]; (try rfl))
    have Hx182 := Lib.hid (show (((coreI a b).we.hi : Int)) = 0 by rw [coreI, if_neg (by rw [HE.out]; exact c9H.out)]; (try rfl))
    have Hx183 := Lib.hid (show (((coreI a b).sn.lo : Int)) = 0 by rw [coreI, if_neg (by rw [HE.out]; exact c9H.out)]; (try rfl))
    have Hx184 := Lib.hid (show (((coreI a b).sn.hi : Int)) = 0 by rw [coreI, if_neg (by rw [HE.out]; exact c9H.out)]; (try rfl))
    have Hx185 := Lib.hid (show ((coreE a b : Int)) = iceErr a by exact HE.out)
    have b186 := F8.bx8 0 rfl
    go_wp2_with fail
    clear b186
    have F187 := F8.pt8 (.int .i64 0) (.int .i64 0) (.int .i64 0) (.int .i64 0) (.int .i64 0) (.int .i64 0) (.int .i64 0) (.int .i64 0)
    clear F8
    have kb188 := F187.bx8 0 rfl
    go_wp2_with fail
    exact bodyPost_ret (v := .tuple #[.agg (z8), .int .i64 (iceErr a)]) (by simp [results, Tryd.results40, go_sem, kb188]) rfl (⟨by rw [Hx177.out, Hx178.out, Hx179.out, Hx180.out, Hx181.out, Hx182.out, Hx183.out, Hx184.out, Hx185.out] <;> rfl, F187.gb⟩)

end Go.Proofs.YtgkjicejaalijaaDoor
