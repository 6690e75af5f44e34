/- frost: the reference of Core. -/
import Derived.Test.YthblaiefalbomaaF10
import Derived.Test.YthblaiefalbomaaF27
import Derived.Test.YthblaiefalbomaaMix
set_option linter.unusedVariables false
set_option linter.unusedSimpArgs false
set_option linter.unnecessarySimpa false
namespace Go.Proofs.Ythblaiefalbomaa
open Go.RowKit
set_option maxRecDepth 100000

set_option maxHeartbeats 8000000 in
theorem rcore_c (a b : Ice) (w : World)  :
    Calls Try.prog 40 #[.agg (iceC a), .agg (iceC b)] w (Ret (.tuple #[.agg #[.int .i64 ((coreI a b).bl.lo), .int .i64 ((coreI a b).bl.hi), .int .i64 ((coreI a b).wh.lo), .int .i64 ((coreI a b).wh.hi), .int .i64 ((coreI a b).we.lo), .int .i64 ((coreI a b).we.hi), .int .i64 ((coreI a b).sn.lo), .int .i64 ((coreI a b).sn.hi)], .int .i64 (coreE a b)]) w) := by
  obtain ⟨m0, hm0⟩ : ∃ z, max a.bl.lo b.bl.lo = z := ⟨_, rfl⟩
  obtain ⟨m1, hm1⟩ : ∃ z, min a.bl.hi b.bl.hi = z := ⟨_, rfl⟩
  have hCbl : ∀ w, Calls Try.prog 84 #[.agg #[.int .i64 a.bl.lo, .int .i64 a.bl.hi], .agg #[.int .i64 b.bl.lo, .int .i64 b.bl.hi]] w (Ret (.agg #[.int .i64 m0, .int .i64 m1]) w) := fun w => by
    have h := common_c a.bl b.bl w
    rw [hm0, hm1] at h
    exact h
  have Hm0 := Lib.hid hm0
  have Hm1 := Lib.hid hm1
  clear hm0 hm1
  obtain ⟨m2, hm2⟩ : ∃ z, max a.wh.lo b.wh.lo = z := ⟨_, rfl⟩
  obtain ⟨m3, hm3⟩ : ∃ z, min a.wh.hi b.wh.hi = z := ⟨_, rfl⟩
  have hCwh : ∀ w, Calls Try.prog 84 #[.agg #[.int .i64 a.wh.lo, .int .i64 a.wh.hi], .agg #[.int .i64 b.wh.lo, .int .i64 b.wh.hi]] w (Ret (.agg #[.int .i64 m2, .int .i64 m3]) w) := fun w => by
    have h := common_c a.wh b.wh w
    rw [hm2, hm3] at h
    exact h
  have Hm2 := Lib.hid hm2
  have Hm3 := Lib.hid hm3
  clear hm2 hm3
  obtain ⟨m4, hm4⟩ : ∃ z, max a.we.lo b.we.lo = z := ⟨_, rfl⟩
  obtain ⟨m5, hm5⟩ : ∃ z, min a.we.hi b.we.hi = z := ⟨_, rfl⟩
  have hCwe : ∀ w, Calls Try.prog 84 #[.agg #[.int .i64 a.we.lo, .int .i64 a.we.hi], .agg #[.int .i64 b.we.lo, .int .i64 b.we.hi]] w (Ret (.agg #[.int .i64 m4, .int .i64 m5]) w) := fun w => by
    have h := common_c a.we b.we w
    rw [hm4, hm5] at h
    exact h
  have Hm4 := Lib.hid hm4
  have Hm5 := Lib.hid hm5
  clear hm4 hm5
  obtain ⟨m6, hm6⟩ : ∃ z, max a.sn.lo b.sn.lo = z := ⟨_, rfl⟩
  obtain ⟨m7, hm7⟩ : ∃ z, min a.sn.hi b.sn.hi = z := ⟨_, rfl⟩
  have hCsn : ∀ w, Calls Try.prog 84 #[.agg #[.int .i64 a.sn.lo, .int .i64 a.sn.hi], .agg #[.int .i64 b.sn.lo, .int .i64 b.sn.hi]] w (Ret (.agg #[.int .i64 m6, .int .i64 m7]) w) := fun w => by
    have h := common_c a.sn b.sn w
    rw [hm6, hm7] at h
    exact h
  have Hm6 := Lib.hid hm6
  have Hm7 := Lib.hid hm7
  clear hm6 hm7
  have F1 : Bun w [] w := Bun.nil _
  go_enter Try.func40, Try.ntmps40
  go_wp2_with fail
  have F2 := F1.new 32 (iceC a) (n := w.heap.size) (by simp)
  clear F1
  have F3 := F2.new 32 (iceC b) (n := (w.heap.size + 1)) (by simp)
  clear F2
  have F4 := F3.new 32 (z8) (n := (w.heap.size + 2)) (by simp)
  clear F3
  refine (rcheckIce_c a _).mono ?_
  rintro e w7 ⟨rfl, hg5⟩
  have hg5s := hg5.size
  (try simp at hg5s)
  have F8 := F4.gn hg5
  clear F4
  clear hg5
  by_cases c9 : iceErr a = 0
  · skip
    have c9a : ((iceErr a) == 0) = true := beq_t c9
    have c9b : ((iceErr a) != 0) = false := bne_f c9
    have c9H := Lib.hid c9
    clear c9
    have b10 := F8.bx8 1 rfl
    go_wp2_with fail
    clear b10
    refine (rcheckIce_c b _).mono ?_
    rintro e w13 ⟨rfl, hg11⟩
    have hg11s := hg11.size
    (try simp at hg11s)
    have F14 := F8.gn hg11
    clear F8
    clear hg11
    by_cases c15 : iceErr b = 0
    · skip
      have c15a : ((iceErr b) == 0) = true := beq_t c15
      have c15b : ((iceErr b) != 0) = false := bne_f c15
      have c15H := Lib.hid c15
      clear c15
      go_wp2_with fail
      have F16 := F14.drew
      clear F14
      refine ru_begin (fun W => W.cell? ⟨w.heap.size, 0, none⟩ = some (.int .i64 a.bl.lo) ∧ W.cell? ⟨w.heap.size, 1, none⟩ = some (.int .i64 a.bl.hi) ∧ W.cell? ⟨(w.heap.size + 1), 0, none⟩ = some (.int .i64 b.bl.lo) ∧ W.cell? ⟨(w.heap.size + 1), 1, none⟩ = some (.int .i64 b.bl.hi) ∧ W.cell? ⟨w.heap.size, 2, none⟩ = some (.int .i64 a.wh.lo) ∧ W.cell? ⟨w.heap.size, 3, none⟩ = some (.int .i64 a.wh.hi) ∧ W.cell? ⟨(w.heap.size + 1), 2, none⟩ = some (.int .i64 b.wh.lo) ∧ W.cell? ⟨(w.heap.size + 1), 3, none⟩ = some (.int .i64 b.wh.hi) ∧ W.cell? ⟨w.heap.size, 4, none⟩ = some (.int .i64 a.we.lo) ∧ W.cell? ⟨w.heap.size, 5, none⟩ = some (.int .i64 a.we.hi) ∧ W.cell? ⟨(w.heap.size + 1), 4, none⟩ = some (.int .i64 b.we.lo) ∧ W.cell? ⟨(w.heap.size + 1), 5, none⟩ = some (.int .i64 b.we.hi) ∧ W.cell? ⟨w.heap.size, 6, none⟩ = some (.int .i64 a.sn.lo) ∧ W.cell? ⟨w.heap.size, 7, none⟩ = some (.int .i64 a.sn.hi) ∧ W.cell? ⟨(w.heap.size + 1), 6, none⟩ = some (.int .i64 b.sn.lo) ∧ W.cell? ⟨(w.heap.size + 1), 7, none⟩ = some (.int .i64 b.sn.hi)) 22 (by kernel_rfl) ?_ ?_
      · exact ⟨F16.cl 2 0 rfl rfl, F16.cl 2 1 rfl rfl, F16.cl 1 0 rfl rfl, F16.cl 1 1 rfl rfl, F16.cl 2 2 rfl rfl, F16.cl 2 3 rfl rfl, F16.cl 1 2 rfl rfl, F16.cl 1 3 rfl rfl, F16.cl 2 4 rfl rfl, F16.cl 2 5 rfl rfl, F16.cl 1 4 rfl rfl, F16.cl 1 5 rfl rfl, F16.cl 2 6 rfl rfl, F16.cl 2 7 rfl rfl, F16.cl 1 6 rfl rfl, F16.cl 1 7 rfl rfl⟩
      obtain ⟨wd18, hwd_⟩ : ∃ x : World, w13.drew = x := ⟨_, rfl⟩
      rw [hwd_] at F16 ⊢
      have wd18s : w13.heap.size ≤ wd18.heap.size := by rw [← hwd_]; exact Nat.le_refl _
      clear hwd_
      have hS17 := (And.intro (F16.cl 2 0 rfl rfl) (And.intro (F16.cl 2 1 rfl rfl) (And.intro (F16.cl 1 0 rfl rfl) (And.intro (F16.cl 1 1 rfl rfl) (And.intro (F16.cl 2 2 rfl rfl) (And.intro (F16.cl 2 3 rfl rfl) (And.intro (F16.cl 1 2 rfl rfl) (And.intro (F16.cl 1 3 rfl rfl) (And.intro (F16.cl 2 4 rfl rfl) (And.intro (F16.cl 2 5 rfl rfl) (And.intro (F16.cl 1 4 rfl rfl) (And.intro (F16.cl 1 5 rfl rfl) (And.intro (F16.cl 2 6 rfl rfl) (And.intro (F16.cl 2 7 rfl rfl) (And.intro (F16.cl 1 6 rfl rfl) (F16.cl 1 7 rfl rfl))))))))))))))))
      refine ru_take 0 [] (v := ?_) rfl (by kernel_rfl) (fun _ _ _ h => h) (by assumption) (.inl ⟨by first | kernel_rfl | rfl, ?_⟩) ?_
      rotate_left
      · (intro wS hwS; (try dsimp only at hwS); go_simp; (try with_reducible rfl))
      (try simp only [Act.put, List.setIfInBounds_toArray, List.set_cons_zero, List.set_cons_succ])
      refine ru_take 1 [] (v := ?_) rfl (by kernel_rfl) (fun _ _ _ h => h) (by assumption) (.inl ⟨by first | kernel_rfl | rfl, ?_⟩) ?_
      rotate_left
      · (intro wS hwS; (try dsimp only at hwS); go_simp; (try with_reducible rfl))
      (try simp only [Act.put, List.setIfInBounds_toArray, List.set_cons_zero, List.set_cons_succ])
      refine ru_take 2 [] (v := ?_) rfl (by kernel_rfl) (fun _ _ _ h => h) (by assumption) (.inl ⟨by first | kernel_rfl | rfl, ?_⟩) ?_
      rotate_left
      · (intro wS hwS; (try dsimp only at hwS); go_simp; (try with_reducible rfl))
      (try simp only [Act.put, List.setIfInBounds_toArray, List.set_cons_zero, List.set_cons_succ])
      refine ru_take 3 [] (v := ?_) rfl (by kernel_rfl) (fun _ _ _ h => h) (by assumption) (.inl ⟨by first | kernel_rfl | rfl, ?_⟩) ?_
      rotate_left
      · (intro wS hwS; (try dsimp only at hwS); go_simp; (try with_reducible rfl))
      (try simp only [Act.put, List.setIfInBounds_toArray, List.set_cons_zero, List.set_cons_succ])
      refine ru_take 5 [] (v := ?_) rfl (by kernel_rfl) (fun _ _ _ h => h) (by assumption) (.inl ⟨by first | kernel_rfl | rfl, ?_⟩) ?_
      rotate_left
      · (intro wS hwS; (try dsimp only at hwS); go_simp; (try with_reducible rfl))
      (try simp only [Act.put, List.setIfInBounds_toArray, List.set_cons_zero, List.set_cons_succ])
      refine ru_take 6 [] (v := ?_) rfl (by kernel_rfl) (fun _ _ _ h => h) (by assumption) (.inl ⟨by first | kernel_rfl | rfl, ?_⟩) ?_
      rotate_left
      · (intro wS hwS; (try dsimp only at hwS); go_simp; (try with_reducible rfl))
      (try simp only [Act.put, List.setIfInBounds_toArray, List.set_cons_zero, List.set_cons_succ])
      refine ru_take 7 [] (v := ?_) rfl (by kernel_rfl) (fun _ _ _ h => h) (by assumption) (.inl ⟨by first | kernel_rfl | rfl, ?_⟩) ?_
      rotate_left
      · (intro wS hwS; (try dsimp only at hwS); go_simp; (try with_reducible rfl))
      (try simp only [Act.put, List.setIfInBounds_toArray, List.set_cons_zero, List.set_cons_succ])
      refine ru_take 8 [] (v := ?_) rfl (by kernel_rfl) (fun _ _ _ h => h) (by assumption) (.inl ⟨by first | kernel_rfl | rfl, ?_⟩) ?_
      rotate_left
      · (intro wS hwS; (try dsimp only at hwS); go_simp; (try with_reducible rfl))
      (try simp only [Act.put, List.setIfInBounds_toArray, List.set_cons_zero, List.set_cons_succ])
      refine ru_take 10 [] (v := ?_) rfl (by kernel_rfl) (fun _ _ _ h => h) (by assumption) (.inl ⟨by first | kernel_rfl | rfl, ?_⟩) ?_
      rotate_left
      · (intro wS hwS; (try dsimp only at hwS); go_simp; (try with_reducible rfl))
      (try simp only [Act.put, List.setIfInBounds_toArray, List.set_cons_zero, List.set_cons_succ])
      refine ru_take 11 [] (v := ?_) rfl (by kernel_rfl) (fun _ _ _ h => h) (by assumption) (.inl ⟨by first | kernel_rfl | rfl, ?_⟩) ?_
      rotate_left
      · (intro wS hwS; (try dsimp only at hwS); go_simp; (try with_reducible rfl))
      (try simp only [Act.put, List.setIfInBounds_toArray, List.set_cons_zero, List.set_cons_succ])
      refine ru_take 12 [] (v := ?_) rfl (by kernel_rfl) (fun _ _ _ h => h) (by assumption) (.inl ⟨by first | kernel_rfl | rfl, ?_⟩) ?_
      rotate_left
      · (intro wS hwS; (try dsimp only at hwS); go_simp; (try with_reducible rfl))
      (try simp only [Act.put, List.setIfInBounds_toArray, List.set_cons_zero, List.set_cons_succ])
      refine ru_take 13 [] (v := ?_) rfl (by kernel_rfl) (fun _ _ _ h => h) (by assumption) (.inl ⟨by first | kernel_rfl | rfl, ?_⟩) ?_
      rotate_left
      · (intro wS hwS; (try dsimp only at hwS); go_simp; (try with_reducible rfl))
      (try simp only [Act.put, List.setIfInBounds_toArray, List.set_cons_zero, List.set_cons_succ])
      refine ru_take 15 [] (v := ?_) rfl (by kernel_rfl) (fun _ _ _ h => h) (by assumption) (.inl ⟨by first | kernel_rfl | rfl, ?_⟩) ?_
      rotate_left
      · (intro wS hwS; (try dsimp only at hwS); go_simp; (try with_reducible rfl))
      (try simp only [Act.put, List.setIfInBounds_toArray, List.set_cons_zero, List.set_cons_succ])
      refine ru_take 16 [] (v := ?_) rfl (by kernel_rfl) (fun _ _ _ h => h) (by assumption) (.inl ⟨by first | kernel_rfl | rfl, ?_⟩) ?_
      rotate_left
      · (intro wS hwS; (try dsimp only at hwS); go_simp; (try with_reducible rfl))
      (try simp only [Act.put, List.setIfInBounds_toArray, List.set_cons_zero, List.set_cons_succ])
      refine ru_take 17 [] (v := ?_) rfl (by kernel_rfl) (fun _ _ _ h => h) (by assumption) (.inl ⟨by first | kernel_rfl | rfl, ?_⟩) ?_
      rotate_left
      · (intro wS hwS; (try dsimp only at hwS); go_simp; (try with_reducible rfl))
      (try simp only [Act.put, List.setIfInBounds_toArray, List.set_cons_zero, List.set_cons_succ])
      refine ru_take 18 [] (v := ?_) rfl (by kernel_rfl) (fun _ _ _ h => h) (by assumption) (.inl ⟨by first | kernel_rfl | rfl, ?_⟩) ?_
      rotate_left
      · (intro wS hwS; (try dsimp only at hwS); go_simp; (try with_reducible rfl))
      (try simp only [Act.put, List.setIfInBounds_toArray, List.set_cons_zero, List.set_cons_succ])
      clear hS17
      have hSS : ∀ (LA : List Res) (W : World), Bun w ([rbox (w.heap.size + 2) 32 (z8), rbox (w.heap.size + 1) 32 (iceC b), rbox w.heap.size 32 (iceC a)] ++ LA) W ∧ w13.heap.size ≤ W.heap.size → W.cell? ⟨w.heap.size, 0, none⟩ = some (.int .i64 a.bl.lo) ∧ W.cell? ⟨w.heap.size, 1, none⟩ = some (.int .i64 a.bl.hi) ∧ W.cell? ⟨(w.heap.size + 1), 0, none⟩ = some (.int .i64 b.bl.lo) ∧ W.cell? ⟨(w.heap.size + 1), 1, none⟩ = some (.int .i64 b.bl.hi) ∧ W.cell? ⟨w.heap.size, 2, none⟩ = some (.int .i64 a.wh.lo) ∧ W.cell? ⟨w.heap.size, 3, none⟩ = some (.int .i64 a.wh.hi) ∧ W.cell? ⟨(w.heap.size + 1), 2, none⟩ = some (.int .i64 b.wh.lo) ∧ W.cell? ⟨(w.heap.size + 1), 3, none⟩ = some (.int .i64 b.wh.hi) ∧ W.cell? ⟨w.heap.size, 4, none⟩ = some (.int .i64 a.we.lo) ∧ W.cell? ⟨w.heap.size, 5, none⟩ = some (.int .i64 a.we.hi) ∧ W.cell? ⟨(w.heap.size + 1), 4, none⟩ = some (.int .i64 b.we.lo) ∧ W.cell? ⟨(w.heap.size + 1), 5, none⟩ = some (.int .i64 b.we.hi) ∧ W.cell? ⟨w.heap.size, 6, none⟩ = some (.int .i64 a.sn.lo) ∧ W.cell? ⟨w.heap.size, 7, none⟩ = some (.int .i64 a.sn.hi) ∧ W.cell? ⟨(w.heap.size + 1), 6, none⟩ = some (.int .i64 b.sn.lo) ∧ W.cell? ⟨(w.heap.size + 1), 7, none⟩ = some (.int .i64 b.sn.hi) := fun _ _ ⟨F_, _⟩ => ⟨F_.cl 2 0 rfl rfl, F_.cl 2 1 rfl rfl, F_.cl 1 0 rfl rfl, F_.cl 1 1 rfl rfl, F_.cl 2 2 rfl rfl, F_.cl 2 3 rfl rfl, F_.cl 1 2 rfl rfl, F_.cl 1 3 rfl rfl, F_.cl 2 4 rfl rfl, F_.cl 2 5 rfl rfl, F_.cl 1 4 rfl rfl, F_.cl 1 5 rfl rfl, F_.cl 2 6 rfl rfl, F_.cl 2 7 rfl rfl, F_.cl 1 6 rfl rfl, F_.cl 1 7 rfl rfl⟩
      refine ru_mix (goodBunS _ w13.heap.size) 78 [⟨21, 8, 32, (z8)⟩] [4, 9, 14, 19, 20] 1 (by kernel_rfl) (by kernel_rfl) (fun _ _ _ _ _ h => h) (U0 := (fun t => t 4 = .pointer (some ⟨w.heap.size + 2, 0, none⟩) ∧ t 22 = .agg #[.int .i64 a.bl.lo, .int .i64 a.bl.hi] ∧ t 24 = .agg #[.int .i64 b.bl.lo, .int .i64 b.bl.hi] ∧ t 27 = .agg #[.int .i64 a.wh.lo, .int .i64 a.wh.hi] ∧ t 29 = .agg #[.int .i64 b.wh.lo, .int .i64 b.wh.hi] ∧ t 32 = .agg #[.int .i64 a.we.lo, .int .i64 a.we.hi] ∧ t 34 = .agg #[.int .i64 b.we.lo, .int .i64 b.we.hi] ∧ t 37 = .agg #[.int .i64 a.sn.lo, .int .i64 a.sn.hi] ∧ t 39 = .agg #[.int .i64 b.sn.lo, .int .i64 b.sn.hi])) (Um := (fun t => t 4 = .pointer (some ⟨w.heap.size + 2, 0, none⟩) ∧ t 41 = .agg #[.int .i64 m0, .int .i64 m1, .int .i64 m2, .int .i64 m3, .int .i64 m4, .int .i64 m5, .int .i64 m6, .int .i64 m7])) (L0 := [rbox (w.heap.size + 2) 32 (z8), rbox (w.heap.size + 1) 32 (iceC b), rbox w.heap.size 32 (iceC a)]) (Lm := [rbox (w.heap.size + 2) 32 (z8), rbox (w.heap.size + 1) 32 (iceC b), rbox w.heap.size 32 (iceC a)]) ?chM19 ?alM19 ⟨(by kernel_rfl), rfl, ⟨(by kernel_rfl), (by kernel_rfl), (by kernel_rfl), (by kernel_rfl), (by kernel_rfl), (by kernel_rfl), (by kernel_rfl), (by kernel_rfl), (by kernel_rfl)⟩⟩ ⟨F16, (by first | assumption | omega)⟩ ?restM19
      case chM19 =>
        refine Chain.callS 4 (fun t => t 4 = .pointer (some ⟨w.heap.size + 2, 0, none⟩) ∧ t 25 = .agg #[.int .i64 m0, .int .i64 m1] ∧ t 27 = .agg #[.int .i64 a.wh.lo, .int .i64 a.wh.hi] ∧ t 29 = .agg #[.int .i64 b.wh.lo, .int .i64 b.wh.hi] ∧ t 32 = .agg #[.int .i64 a.we.lo, .int .i64 a.we.hi] ∧ t 34 = .agg #[.int .i64 b.we.lo, .int .i64 b.we.hi] ∧ t 37 = .agg #[.int .i64 a.sn.lo, .int .i64 a.sn.hi] ∧ t 39 = .agg #[.int .i64 b.sn.lo, .int .i64 b.sn.hi]) (List.forall_mem_cons.2 ⟨fun _ _ u => u, fun _ h => (by cases h)⟩) hSS (by kernel_rfl) ?_ ?_
        · rintro t w_ LA ⟨e4, e22, e24, e27, e29, e32, e34, e37, e39⟩ ⟨F_, hwn_⟩
          have hws := F_.gb.size
          have e : ((List.range 78).map t).toArray = #[t 0, t 1, t 2, t 3, t 4, t 5, t 6, t 7, t 8, t 9, t 10, t 11, t 12, t 13, t 14, t 15, t 16, t 17, t 18, t 19, t 20, t 21, t 22, t 23, t 24, t 25, t 26, t 27, t 28, t 29, t 30, t 31, t 32, t 33, t 34, t 35, t 36, t 37, t 38, t 39, t 40, t 41, t 42, t 43, t 44, t 45, t 46, t 47, t 48, t 49, t 50, t 51, t 52, t 53, t 54, t 55, t 56, t 57, t 58, t 59, t 60, t 61, t 62, t 63, t 64, t 65, t 66, t 67, t 68, t 69, t 70, t 71, t 72, t 73, t 74, t 75, t 76, t 77] := rfl
          (try dsimp only at e)
          rw [e4, e22, e24, e27, e29, e32, e34, e37, e39] at e; rw [e]; clear e e4 e22 e24 e27 e29 e32 e34 e37 e39
          refine wpOp_stepH rfl (fun K hK => ?_)
          go_simp
          refine (hCbl _).mono ?_
          rintro e w20 ⟨rfl, hg21⟩
          exact hK.out _ _ ⟨(by kernel_rfl), rfl, ⟨(by kernel_rfl), (by kernel_rfl), (by kernel_rfl), (by kernel_rfl), (by kernel_rfl), (by kernel_rfl), (by kernel_rfl), (by kernel_rfl)⟩, List.forall_mem_cons.2 ⟨(by kernel_rfl), fun _ h => (by cases h)⟩, ⟨F_.gn hg21, Nat.le_trans hwn_ hg21.size⟩, hSS _ _ ⟨F_.gn hg21, Nat.le_trans hwn_ hg21.size⟩⟩
        refine Chain.callS 9 (fun t => t 4 = .pointer (some ⟨w.heap.size + 2, 0, none⟩) ∧ t 25 = .agg #[.int .i64 m0, .int .i64 m1] ∧ t 30 = .agg #[.int .i64 m2, .int .i64 m3] ∧ t 32 = .agg #[.int .i64 a.we.lo, .int .i64 a.we.hi] ∧ t 34 = .agg #[.int .i64 b.we.lo, .int .i64 b.we.hi] ∧ t 37 = .agg #[.int .i64 a.sn.lo, .int .i64 a.sn.hi] ∧ t 39 = .agg #[.int .i64 b.sn.lo, .int .i64 b.sn.hi]) (List.forall_mem_cons.2 ⟨fun _ _ u => u, fun _ h => (by cases h)⟩) hSS (by kernel_rfl) ?_ ?_
        · rintro t w_ LA ⟨e4, e25, e27, e29, e32, e34, e37, e39⟩ ⟨F_, hwn_⟩
          have hws := F_.gb.size
          have e : ((List.range 78).map t).toArray = #[t 0, t 1, t 2, t 3, t 4, t 5, t 6, t 7, t 8, t 9, t 10, t 11, t 12, t 13, t 14, t 15, t 16, t 17, t 18, t 19, t 20, t 21, t 22, t 23, t 24, t 25, t 26, t 27, t 28, t 29, t 30, t 31, t 32, t 33, t 34, t 35, t 36, t 37, t 38, t 39, t 40, t 41, t 42, t 43, t 44, t 45, t 46, t 47, t 48, t 49, t 50, t 51, t 52, t 53, t 54, t 55, t 56, t 57, t 58, t 59, t 60, t 61, t 62, t 63, t 64, t 65, t 66, t 67, t 68, t 69, t 70, t 71, t 72, t 73, t 74, t 75, t 76, t 77] := rfl
          (try dsimp only at e)
          rw [e4, e25, e27, e29, e32, e34, e37, e39] at e; rw [e]; clear e e4 e25 e27 e29 e32 e34 e37 e39
          refine wpOp_stepH rfl (fun K hK => ?_)
          go_simp
          refine (hCwh _).mono ?_
          rintro e w23 ⟨rfl, hg24⟩
          exact hK.out _ _ ⟨(by kernel_rfl), rfl, ⟨(by kernel_rfl), (by kernel_rfl), (by kernel_rfl), (by kernel_rfl), (by kernel_rfl), (by kernel_rfl), (by kernel_rfl)⟩, List.forall_mem_cons.2 ⟨(by kernel_rfl), fun _ h => (by cases h)⟩, ⟨F_.gn hg24, Nat.le_trans hwn_ hg24.size⟩, hSS _ _ ⟨F_.gn hg24, Nat.le_trans hwn_ hg24.size⟩⟩
        refine Chain.callS 14 (fun t => t 4 = .pointer (some ⟨w.heap.size + 2, 0, none⟩) ∧ t 25 = .agg #[.int .i64 m0, .int .i64 m1] ∧ t 30 = .agg #[.int .i64 m2, .int .i64 m3] ∧ t 35 = .agg #[.int .i64 m4, .int .i64 m5] ∧ t 37 = .agg #[.int .i64 a.sn.lo, .int .i64 a.sn.hi] ∧ t 39 = .agg #[.int .i64 b.sn.lo, .int .i64 b.sn.hi]) (List.forall_mem_cons.2 ⟨fun _ _ u => u, fun _ h => (by cases h)⟩) hSS (by kernel_rfl) ?_ ?_
        · rintro t w_ LA ⟨e4, e25, e30, e32, e34, e37, e39⟩ ⟨F_, hwn_⟩
          have hws := F_.gb.size
          have e : ((List.range 78).map t).toArray = #[t 0, t 1, t 2, t 3, t 4, t 5, t 6, t 7, t 8, t 9, t 10, t 11, t 12, t 13, t 14, t 15, t 16, t 17, t 18, t 19, t 20, t 21, t 22, t 23, t 24, t 25, t 26, t 27, t 28, t 29, t 30, t 31, t 32, t 33, t 34, t 35, t 36, t 37, t 38, t 39, t 40, t 41, t 42, t 43, t 44, t 45, t 46, t 47, t 48, t 49, t 50, t 51, t 52, t 53, t 54, t 55, t 56, t 57, t 58, t 59, t 60, t 61, t 62, t 63, t 64, t 65, t 66, t 67, t 68, t 69, t 70, t 71, t 72, t 73, t 74, t 75, t 76, t 77] := rfl
          (try dsimp only at e)
          rw [e4, e25, e30, e32, e34, e37, e39] at e; rw [e]; clear e e4 e25 e30 e32 e34 e37 e39
          refine wpOp_stepH rfl (fun K hK => ?_)
          go_simp
          refine (hCwe _).mono ?_
          rintro e w26 ⟨rfl, hg27⟩
          exact hK.out _ _ ⟨(by kernel_rfl), rfl, ⟨(by kernel_rfl), (by kernel_rfl), (by kernel_rfl), (by kernel_rfl), (by kernel_rfl), (by kernel_rfl)⟩, List.forall_mem_cons.2 ⟨(by kernel_rfl), fun _ h => (by cases h)⟩, ⟨F_.gn hg27, Nat.le_trans hwn_ hg27.size⟩, hSS _ _ ⟨F_.gn hg27, Nat.le_trans hwn_ hg27.size⟩⟩
        refine Chain.callS 19 (fun t => t 4 = .pointer (some ⟨w.heap.size + 2, 0, none⟩) ∧ t 25 = .agg #[.int .i64 m0, .int .i64 m1] ∧ t 30 = .agg #[.int .i64 m2, .int .i64 m3] ∧ t 35 = .agg #[.int .i64 m4, .int .i64 m5] ∧ t 40 = .agg #[.int .i64 m6, .int .i64 m7]) (List.forall_mem_cons.2 ⟨fun _ _ u => u, fun _ h => (by cases h)⟩) hSS (by kernel_rfl) ?_ ?_
        · rintro t w_ LA ⟨e4, e25, e30, e35, e37, e39⟩ ⟨F_, hwn_⟩
          have hws := F_.gb.size
          have e : ((List.range 78).map t).toArray = #[t 0, t 1, t 2, t 3, t 4, t 5, t 6, t 7, t 8, t 9, t 10, t 11, t 12, t 13, t 14, t 15, t 16, t 17, t 18, t 19, t 20, t 21, t 22, t 23, t 24, t 25, t 26, t 27, t 28, t 29, t 30, t 31, t 32, t 33, t 34, t 35, t 36, t 37, t 38, t 39, t 40, t 41, t 42, t 43, t 44, t 45, t 46, t 47, t 48, t 49, t 50, t 51, t 52, t 53, t 54, t 55, t 56, t 57, t 58, t 59, t 60, t 61, t 62, t 63, t 64, t 65, t 66, t 67, t 68, t 69, t 70, t 71, t 72, t 73, t 74, t 75, t 76, t 77] := rfl
          (try dsimp only at e)
          rw [e4, e25, e30, e35, e37, e39] at e; rw [e]; clear e e4 e25 e30 e35 e37 e39
          refine wpOp_stepH rfl (fun K hK => ?_)
          go_simp
          refine (hCsn _).mono ?_
          rintro e w29 ⟨rfl, hg30⟩
          exact hK.out _ _ ⟨(by kernel_rfl), rfl, ⟨(by kernel_rfl), (by kernel_rfl), (by kernel_rfl), (by kernel_rfl), (by kernel_rfl)⟩, List.forall_mem_cons.2 ⟨(by kernel_rfl), fun _ h => (by cases h)⟩, ⟨F_.gn hg30, Nat.le_trans hwn_ hg30.size⟩, hSS _ _ ⟨F_.gn hg30, Nat.le_trans hwn_ hg30.size⟩⟩
        refine Chain.pureS 20 (fun t => t 4 = .pointer (some ⟨w.heap.size + 2, 0, none⟩) ∧ t 41 = .agg #[.int .i64 m0, .int .i64 m1, .int .i64 m2, .int .i64 m3, .int .i64 m4, .int .i64 m5, .int .i64 m6, .int .i64 m7]) rfl (List.forall_mem_cons.2 ⟨fun _ _ u => u, fun _ h => (by cases h)⟩) hSS (by kernel_rfl) ?_ ?_
        · rintro t ⟨e4, e25, e30, e35, e40⟩
          have e : ((List.range 78).map t).toArray = #[t 0, t 1, t 2, t 3, t 4, t 5, t 6, t 7, t 8, t 9, t 10, t 11, t 12, t 13, t 14, t 15, t 16, t 17, t 18, t 19, t 20, t 21, t 22, t 23, t 24, t 25, t 26, t 27, t 28, t 29, t 30, t 31, t 32, t 33, t 34, t 35, t 36, t 37, t 38, t 39, t 40, t 41, t 42, t 43, t 44, t 45, t 46, t 47, t 48, t 49, t 50, t 51, t 52, t 53, t 54, t 55, t 56, t 57, t 58, t 59, t 60, t 61, t 62, t 63, t 64, t 65, t 66, t 67, t 68, t 69, t 70, t 71, t 72, t 73, t 74, t 75, t 76, t 77] := rfl
          (try dsimp only at e)
          rw [e4, e25, e30, e35, e40] at e; rw [e]; clear e e4 e25 e30 e35 e40
          refine ⟨.agg #[.int .i64 m0, .int .i64 m1, .int .i64 m2, .int .i64 m3, .int .i64 m4, .int .i64 m5, .int .i64 m6, .int .i64 m7], .inl ⟨by first | kernel_rfl | rfl, ?_⟩, ⟨(by kernel_rfl), rfl⟩, ⟨(by kernel_rfl), (by kernel_rfl)⟩, List.forall_mem_cons.2 ⟨(by kernel_rfl), fun _ h => (by cases h)⟩⟩
          intro wS _
          go_simp
          (try with_reducible rfl)
        exact Chain.nil _ _ _ (List.forall_mem_cons.2 ⟨fun _ _ u => u, fun _ h => (by cases h)⟩) hSS
      case alM19 => exact List.forall_mem_cons.2 ⟨fun _ _ _ h => wpOp_step rfl (fun K hK => by go_simp; exact hK _ _ h), fun _ h => (by cases h)⟩
      case restM19 =>
        rintro t w33 g ⟨e4, e41⟩ hA ⟨F_, hwnM19⟩
        clear hSS
        clear F16
        have hA0 : t 8 = .pointer (some ⟨g 21, 0, none⟩) := hA _ (.head _)
        have F34 : Bun w [rbox (g 21) 32 (z8), rbox (w.heap.size + 2) 32 (z8), rbox (w.heap.size + 1) 32 (iceC b), rbox w.heap.size 32 (iceC a)] w33 := F_
        clear hA F_
        obtain ⟨g32, hgx_⟩ : ∃ x_, g 21 = x_ := ⟨_, rfl⟩
        rw [hgx_] at hA0 F34; clear hgx_
        have hws := F34.gb.size
        have g32l := (F34.bx8 0 rfl).2.2
        have e : ((List.range 78).map t).toArray = #[t 0, t 1, t 2, t 3, t 4, t 5, t 6, t 7, t 8, t 9, t 10, t 11, t 12, t 13, t 14, t 15, t 16, t 17, t 18, t 19, t 20, t 21, t 22, t 23, t 24, t 25, t 26, t 27, t 28, t 29, t 30, t 31, t 32, t 33, t 34, t 35, t 36, t 37, t 38, t 39, t 40, t 41, t 42, t 43, t 44, t 45, t 46, t 47, t 48, t 49, t 50, t 51, t 52, t 53, t 54, t 55, t 56, t 57, t 58, t 59, t 60, t 61, t 62, t 63, t 64, t 65, t 66, t 67, t 68, t 69, t 70, t 71, t 72, t 73, t 74, t 75, t 76, t 77] := rfl
        (try dsimp only at e)
        rw [e4, e41, hA0] at e; rw [e]; clear e e4 e41 hA0
        refine ru_one 22 rfl (by kernel_rfl) (fun K hK => ?_)
        have kb_ := F34.bx8 0 rfl
        go_simp
        clear kb_
        have F35 := F34.pt8 (.int .i64 m0) (.int .i64 m1) (.int .i64 m2) (.int .i64 m3) (.int .i64 m4) (.int .i64 m5) (.int .i64 m6) (.int .i64 m7)
        clear F34
        refine ru_back_late hK (by kernel_rfl) ?_
        clear hK K
        (try simp only [Act.put, List.setIfInBounds_toArray, List.set_cons_zero, List.set_cons_succ])
        refine ru_done (by kernel_rfl) ?_
        obtain ⟨w36, hx37, F39, hxs38⟩ := (show Bun w [rbox g32 32 #[.int .i64 m0, .int .i64 m1, .int .i64 m2, .int .i64 m3, .int .i64 m4, .int .i64 m5, .int .i64 m6, .int .i64 m7], rbox (w.heap.size + 2) 32 (z8)] _ from ((F35.drop 2 rfl).drop 2 rfl)).name
        (try simp at hxs38)
        rw [hx37]
        clear hx37 F35
        by_cases c40 : m1 < m0
        · skip
          have c40H := Lib.hid c40
          have HE : Hid (coreE a b = 12) := Lib.hid (by rw [coreE, if_neg (not_not_intro c9H.out), if_neg (not_not_intro c15H.out), if_pos (by simp only [both, Hm0.out, Hm1.out, Hm2.out, Hm3.out, Hm4.out, Hm5.out, Hm6.out, Hm7.out]; have := c40H.out; omega)])
          have Hx41 := Lib.hid (show (((coreI a b).bl.lo : Int)) = 0 by rw [coreI, if_neg (by rw [HE.out]; omega)]; (try rfl))
          have Hx42 := Lib.hid (show (((coreI a b).bl.hi : Int)) = 0 by rw [coreI, if_neg (by rw [HE.out]; omega)]; (try rfl))
          have Hx43 := Lib.hid (show (((coreI a b).wh.lo : Int)) = 0 by rw [coreI, if_neg (by rw [HE.out]; omega)]; (try rfl))
          have Hx44 := Lib.hid (show (((coreI a b).wh.hi : Int)) = 0 by rw [coreI, if_neg (by rw [HE.out]; omega)]; (try rfl))
          have Hx45 := Lib.hid (show (((coreI a b).we.lo : Int)) = 0 by rw [coreI, if_neg (by rw [HE.out]; omega)]; (try rfl))
          have Hx46 := Lib.hid (show (((coreI a b).we.hi : Int)) = 0 by rw [coreI, if_neg (by rw [HE.out]; omega)]; (try rfl))
          have Hx47 := Lib.hid (show (((coreI a b).sn.lo : Int)) = 0 by rw [coreI, if_neg (by rw [HE.out]; omega)]; (try rfl))
          have Hx48 := Lib.hid (show (((coreI a b).sn.hi : Int)) = 0 by rw [coreI, if_neg (by rw [HE.out]; omega)]; (try rfl))
          have Hx49 := Lib.hid (show ((coreE a b : Int)) = 12 by exact HE.out)
          have b50 := F39.bx8 0 rfl
          have b51 := F39.bx8 1 rfl
          go_wp2_with fail
          clear b50 b51
          have F52 := (F39.front 1 rfl rfl).pt8 (.int .i64 0) (.int .i64 0) (.int .i64 0) (.int .i64 0) (.int .i64 0) (.int .i64 0) (.int .i64 0) (.int .i64 0)
          clear F39
          have kb53 := F52.bx8 0 rfl
          go_wp2_with fail
          exact bodyPost_ret (v := .tuple #[.agg (z8), .int .i64 12]) (by simp [results, Try.results40, go_sem, kb53]) rfl (⟨by rw [Hx41.out, Hx42.out, Hx43.out, Hx44.out, Hx45.out, Hx46.out, Hx47.out, Hx48.out, Hx49.out] <;> rfl, F52.gb⟩)
        · skip
          have c40H := Lib.hid c40
          have c40a : decide (m1 < m0) = false := dec_f c40
          by_cases c54 : m3 < m2
          · skip
            have c54H := Lib.hid c54
            have HE : Hid (coreE a b = 12) := Lib.hid (by rw [coreE, if_neg (not_not_intro c9H.out), if_neg (not_not_intro c15H.out), if_pos (by simp only [both, Hm0.out, Hm1.out, Hm2.out, Hm3.out, Hm4.out, Hm5.out, Hm6.out, Hm7.out]; have := c40H.out; have := c54H.out; omega)])
            have Hx55 := Lib.hid (show (((coreI a b).bl.lo : Int)) = 0 by rw [coreI, if_neg (by rw [HE.out]; omega)]; (try rfl))
            have Hx56 := Lib.hid (show (((coreI a b).bl.hi : Int)) = 0 by rw [coreI, if_neg (by rw [HE.out]; omega)]; (try rfl))
            have Hx57 := Lib.hid (show (((coreI a b).wh.lo : Int)) = 0 by rw [coreI, if_neg (by rw [HE.out]; omega)]; (try rfl))
            have Hx58 := Lib.hid (show (((coreI a b).wh.hi : Int)) = 0 by rw [coreI, if_neg (by rw [HE.out]; omega)]; (try rfl))
            have Hx59 := Lib.hid (show (((coreI a b).we.lo : Int)) = 0 by rw [coreI, if_neg (by rw [HE.out]; omega)]; (try rfl))
            have Hx60 := Lib.hid (show (((coreI a b).we.hi : Int)) = 0 by rw [coreI, if_neg (by rw [HE.out]; omega)]; (try rfl))
            have Hx61 := Lib.hid (show (((coreI a b).sn.lo : Int)) = 0 by rw [coreI, if_neg (by rw [HE.out]; omega)]; (try rfl))
            have Hx62 := Lib.hid (show (((coreI a b).sn.hi : Int)) = 0 by rw [coreI, if_neg (by rw [HE.out]; omega)]; (try rfl))
            have Hx63 := Lib.hid (show ((coreE a b : Int)) = 12 by exact HE.out)
            have b64 := F39.bx8 0 rfl
            have b65 := F39.bx8 1 rfl
            go_wp2_with fail
            clear b64 b65
            have F66 := (F39.front 1 rfl rfl).pt8 (.int .i64 0) (.int .i64 0) (.int .i64 0) (.int .i64 0) (.int .i64 0) (.int .i64 0) (.int .i64 0) (.int .i64 0)
            clear F39
            have kb67 := F66.bx8 0 rfl
            go_wp2_with fail
            exact bodyPost_ret (v := .tuple #[.agg (z8), .int .i64 12]) (by simp [results, Try.results40, go_sem, kb67]) rfl (⟨by rw [Hx55.out, Hx56.out, Hx57.out, Hx58.out, Hx59.out, Hx60.out, Hx61.out, Hx62.out, Hx63.out] <;> rfl, F66.gb⟩)
          · skip
            have c54H := Lib.hid c54
            have c54a : decide (m3 < m2) = false := dec_f c54
            by_cases c68 : m5 < m4
            · skip
              have c68H := Lib.hid c68
              have HE : Hid (coreE a b = 12) := Lib.hid (by rw [coreE, if_neg (not_not_intro c9H.out), if_neg (not_not_intro c15H.out), if_pos (by simp only [both, Hm0.out, Hm1.out, Hm2.out, Hm3.out, Hm4.out, Hm5.out, Hm6.out, Hm7.out]; have := c40H.out; have := c54H.out; have := c68H.out; omega)])
              have Hx69 := Lib.hid (show (((coreI a b).bl.lo : Int)) = 0 by rw [coreI, if_neg (by rw [HE.out]; omega)]; (try rfl))
              have Hx70 := Lib.hid (show (((coreI a b).bl.hi : Int)) = 0 by rw [coreI, if_neg (by rw [HE.out]; omega)]; (try rfl))
              have Hx71 := Lib.hid (show (((coreI a b).wh.lo : Int)) = 0 by rw [coreI, if_neg (by rw [HE.out]; omega)]; (try rfl))
              have Hx72 := Lib.hid (show (((coreI a b).wh.hi : Int)) = 0 by rw [coreI, if_neg (by rw [HE.out]; omega)]; (try rfl))
              have Hx73 := Lib.hid (show (((coreI a b).we.lo : Int)) = 0 by rw [coreI, if_neg (by rw [HE.out]; omega)]; (try rfl))
              have Hx74 := Lib.hid (show (((coreI a b).we.hi : Int)) = 0 by rw [coreI, if_neg (by rw [HE.out]; omega)]; (try rfl))
              have Hx75 := Lib.hid (show (((coreI a b).sn.lo : Int)) = 0 by rw [coreI, if_neg (by rw [HE.out]; omega)]; (try rfl))
              have Hx76 := Lib.hid (show (((coreI a b).sn.hi : Int)) = 0 by rw [coreI, if_neg (by rw [HE.out]; omega)]; (try rfl))
              have Hx77 := Lib.hid (show ((coreE a b : Int)) = 12 by exact HE.out)
              have b78 := F39.bx8 0 rfl
              have b79 := F39.bx8 1 rfl
              go_wp2_with fail
              clear b78 b79
              have F80 := (F39.front 1 rfl rfl).pt8 (.int .i64 0) (.int .i64 0) (.int .i64 0) (.int .i64 0) (.int .i64 0) (.int .i64 0) (.int .i64 0) (.int .i64 0)
              clear F39
              have kb81 := F80.bx8 0 rfl
              go_wp2_with fail
              exact bodyPost_ret (v := .tuple #[.agg (z8), .int .i64 12]) (by simp [results, Try.results40, go_sem, kb81]) rfl (⟨by rw [Hx69.out, Hx70.out, Hx71.out, Hx72.out, Hx73.out, Hx74.out, Hx75.out, Hx76.out, Hx77.out] <;> rfl, F80.gb⟩)
            · skip
              have c68H := Lib.hid c68
              have c68a : decide (m5 < m4) = false := dec_f c68
              by_cases c82 : m7 < m6
              · skip
                have c82H := Lib.hid c82
                have HE : Hid (coreE a b = 12) := Lib.hid (by rw [coreE, if_neg (not_not_intro c9H.out), if_neg (not_not_intro c15H.out), if_pos (by simp only [both, Hm0.out, Hm1.out, Hm2.out, Hm3.out, Hm4.out, Hm5.out, Hm6.out, Hm7.out]; have := c40H.out; have := c54H.out; have := c68H.out; have := c82H.out; omega)])
                have Hx83 := Lib.hid (show (((coreI a b).bl.lo : Int)) = 0 by rw [coreI, if_neg (by rw [HE.out]; omega)]; (try rfl))
                have Hx84 := Lib.hid (show (((coreI a b).bl.hi : Int)) = 0 by rw [coreI, if_neg (by rw [HE.out]; omega)]; (try rfl))
                have Hx85 := Lib.hid (show (((coreI a b).wh.lo : Int)) = 0 by rw [coreI, if_neg (by rw [HE.out]; omega)]; (try rfl))
                have Hx86 := Lib.hid (show (((coreI a b).wh.hi : Int)) = 0 by rw [coreI, if_neg (by rw [HE.out]; omega)]; (try rfl))
                have Hx87 := Lib.hid (show (((coreI a b).we.lo : Int)) = 0 by rw [coreI, if_neg (by rw [HE.out]; omega)]; (try rfl))
                have Hx88 := Lib.hid (show (((coreI a b).we.hi : Int)) = 0 by rw [coreI, if_neg (by rw [HE.out]; omega)]; (try rfl))
                have Hx89 := Lib.hid (show (((coreI a b).sn.lo : Int)) = 0 by rw [coreI, if_neg (by rw [HE.out]; omega)]; (try rfl))
                have Hx90 := Lib.hid (show (((coreI a b).sn.hi : Int)) = 0 by rw [coreI, if_neg (by rw [HE.out]; omega)]; (try rfl))
                have Hx91 := Lib.hid (show ((coreE a b : Int)) = 12 by exact HE.out)
                have b92 := F39.bx8 0 rfl
                have b93 := F39.bx8 1 rfl
                go_wp2_with fail
                clear b92 b93
                have F94 := (F39.front 1 rfl rfl).pt8 (.int .i64 0) (.int .i64 0) (.int .i64 0) (.int .i64 0) (.int .i64 0) (.int .i64 0) (.int .i64 0) (.int .i64 0)
                clear F39
                have kb95 := F94.bx8 0 rfl
                go_wp2_with fail
                exact bodyPost_ret (v := .tuple #[.agg (z8), .int .i64 12]) (by simp [results, Try.results40, go_sem, kb95]) rfl (⟨by rw [Hx83.out, Hx84.out, Hx85.out, Hx86.out, Hx87.out, Hx88.out, Hx89.out, Hx90.out, Hx91.out] <;> rfl, F94.gb⟩)
              · skip
                have c82H := Lib.hid c82
                have c82a : decide (m7 < m6) = false := dec_f c82
                have HE : Hid (coreE a b = 0) := Lib.hid (by rw [coreE, if_neg (not_not_intro c9H.out), if_neg (not_not_intro c15H.out), if_neg (by simp only [both, Hm0.out, Hm1.out, Hm2.out, Hm3.out, Hm4.out, Hm5.out, Hm6.out, Hm7.out]; have := c40H.out; have := c54H.out; have := c68H.out; have := c82H.out; omega)])
                have Hx96 := Lib.hid (show (((coreI a b).bl.lo : Int)) = m0 by rw [coreI, if_pos HE.out]; exact Hm0.out)
                have Hx97 := Lib.hid (show (((coreI a b).bl.hi : Int)) = m1 by rw [coreI, if_pos HE.out]; exact Hm1.out)
                have Hx98 := Lib.hid (show (((coreI a b).wh.lo : Int)) = m2 by rw [coreI, if_pos HE.out]; exact Hm2.out)
                have Hx99 := Lib.hid (show (((coreI a b).wh.hi : Int)) = m3 by rw [coreI, if_pos HE.out]; exact Hm3.out)
                have Hx100 := Lib.hid (show (((coreI a b).we.lo : Int)) = m4 by rw [coreI, if_pos HE.out]; exact Hm4.out)
                have Hx101 := Lib.hid (show (((coreI a b).we.hi : Int)) = m5 by rw [coreI, if_pos HE.out]; exact Hm5.out)
                have Hx102 := Lib.hid (show (((coreI a b).sn.lo : Int)) = m6 by rw [coreI, if_pos HE.out]; exact Hm6.out)
                have Hx103 := Lib.hid (show (((coreI a b).sn.hi : Int)) = m7 by rw [coreI, if_pos HE.out]; exact Hm7.out)
                have Hx104 := Lib.hid (show ((coreE a b : Int)) = 0 by exact HE.out)
                have b105 := F39.bx8 0 rfl
                have b106 := F39.bx8 1 rfl
                go_wp2_with fail
                clear b105 b106
                have F107 := (F39.front 1 rfl rfl).pt8 (.int .i64 m0) (.int .i64 m1) (.int .i64 m2) (.int .i64 m3) (.int .i64 m4) (.int .i64 m5) (.int .i64 m6) (.int .i64 m7)
                clear F39
                have kb108 := F107.bx8 0 rfl
                go_wp2_with fail
                exact bodyPost_ret (v := .tuple #[.agg #[.int .i64 m0, .int .i64 m1, .int .i64 m2, .int .i64 m3, .int .i64 m4, .int .i64 m5, .int .i64 m6, .int .i64 m7], .int .i64 0]) (by simp [results, Try.results40, go_sem, kb108]) rfl (⟨by rw [Hx96.out, Hx97.out, Hx98.out, Hx99.out, Hx100.out, Hx101.out, Hx102.out, Hx103.out, Hx104.out] <;> rfl, F107.gb⟩)
    · skip
      have c15a : ((iceErr b) == 0) = false := beq_f c15
      have c15b : ((iceErr b) != 0) = true := bne_t c15
      have c15H := Lib.hid c15
      clear c15
      have HE : Hid (coreE a b = iceErr b) := Lib.hid (by rw [coreE, if_neg (not_not_intro c9H.out), if_pos c15H.out])
      have Hx109 := Lib.hid (show (((coreI a b).bl.lo : Int)) = 0 by rw [coreI, if_neg (by rw [HE.out]; exact c15H.out)]; (try rfl))
      have Hx110 := Lib.hid (show (((coreI a b).bl.hi : Int)) = 0 by rw [coreI, if_neg (by rw [HE.out]; exact c15H.out)]; (try rfl))
      have Hx111 := Lib.hid (show (((coreI a b).wh.lo : Int)) = 0 by rw [coreI, if_neg (by rw [HE.out]; exact c15H.out)]; (try rfl))
      have Hx112 := Lib.hid (show (((coreI a b).wh.hi : Int)) = 0 by rw [coreI, if_neg (by rw [HE.out]; exact c15H.out)]; (try rfl))
      have Hx113 := Lib.hid (show (((coreI a b).we.lo : Int)) = 0 by rw [coreI, if_neg (by rw [HE.out]; exact c15H.out)]; (try rfl))
      have Hx114 := Lib.hid (show (((coreI a b).we.hi : Int)) = 0 by rw [coreI, if_neg (by rw [HE.out]; exact c15H.out)]; (try rfl))
      have Hx115 := Lib.hid (show (((coreI a b).sn.lo : Int)) = 0 by rw [coreI, if_neg (by rw [HE.out]; exact c15H.out)]; (try rfl))
      have Hx116 := Lib.hid (show (((coreI a b).sn.hi : Int)) = 0 by rw [coreI, if_neg (by rw [HE.out]; exact c15H.out)]; (try rfl))
      have Hx117 := Lib.hid (show ((coreE a b : Int)) = iceErr b by exact HE.out)
      have b118 := F14.bx8 0 rfl
      go_wp2_with fail
      clear b118
      have F119 := F14.pt8 (.int .i64 0) (.int .i64 0) (.int .i64 0) (.int .i64 0) (.int .i64 0) (.int .i64 0) (.int .i64 0) (.int .i64 0)
      clear F14
      have kb120 := F119.bx8 0 rfl
      go_wp2_with fail
      exact bodyPost_ret (v := .tuple #[.agg (z8), .int .i64 (iceErr b)]) (by simp [results, Try.results40, go_sem, kb120]) rfl (⟨by rw [Hx109.out, Hx110.out, Hx111.out, Hx112.out, Hx113.out, Hx114.out, Hx115.out, Hx116.out, Hx117.out] <;> rfl, F119.gb⟩)
  · skip
    have c9a : ((iceErr a) == 0) = false := beq_f c9
    have c9b : ((iceErr a) != 0) = true := bne_t c9
    have c9H := Lib.hid c9
    clear c9
    have HE : Hid (coreE a b = iceErr a) := Lib.hid (by rw [coreE, if_pos c9H.out])
    have Hx121 := Lib.hid (show (((coreI a b).bl.lo : Int)) = 0 by rw [coreI, if_neg (by rw [HE.out]; exact c9H.out)]; (try rfl))
    have Hx122 := Lib.hid (show (((coreI a b).bl.hi : Int)) = 0 by rw [coreI, if_neg (by rw [HE.out]; exact c9H.out)]; (try rfl))
    have Hx123 := Lib.hid (show (((coreI a b).wh.lo : Int)) = 0 by rw [coreI, if_neg (by rw [HE.out]; exact c9H.out)]; (try rfl))
    have Hx124 := Lib.hid (show (((coreI a b).wh.hi : Int)) = 0 by rw [coreI, if_neg (by rw [HE.out]; exact c9H.out)]; (try rfl))
    have Hx125 := Lib.hid (show (((coreI a b).we.lo : Int)) = 0 by rw [coreI, if_neg (by rw [HE.out]; exact c9H.out)]; (try rfl))
    have Hx126 := Lib.hid (show (((coreI a b).we.hi : Int)) = 0 by rw [coreI, if_neg (by rw [HE.out]; exact c9H.out)]; (try rfl))
    have Hx127 := Lib.hid (show (((coreI a b).sn.lo : Int)) = 0 by rw [coreI, if_neg (by rw [HE.out]; exact c9H.out)]; (try rfl))
    have Hx128 := Lib.hid (show (((coreI a b).sn.hi : Int)) = 0 by rw [coreI, if_neg (by rw [HE.out]; exact c9H.out)]; (try rfl))
    have Hx129 := Lib.hid (show ((coreE a b : Int)) = iceErr a by exact HE.out)
    have b130 := F8.bx8 0 rfl
    go_wp2_with fail
    clear b130
    have F131 := F8.pt8 (.int .i64 0) (.int .i64 0) (.int .i64 0) (.int .i64 0) (.int .i64 0) (.int .i64 0) (.int .i64 0) (.int .i64 0)
    clear F8
    have kb132 := F131.bx8 0 rfl
    go_wp2_with fail
    exact bodyPost_ret (v := .tuple #[.agg (z8), .int .i64 (iceErr a)]) (by simp [results, Try.results40, go_sem, kb132]) rfl (⟨by rw [Hx121.out, Hx122.out, Hx123.out, Hx124.out, Hx125.out, Hx126.out, Hx127.out, Hx128.out, Hx129.out] <;> rfl, F131.gb⟩)

end Go.Proofs.Ythblaiefalbomaa
