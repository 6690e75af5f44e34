/- the kit of frost: ice within ice; true ice. -/
import Derived.Test.YthblaiefalbomaaF18
import Derived.Test.YthblaiefalbomaaK1
import Derived.Test.YthblaiefalbomaaF23
import Derived.Test.YthblaiefalbomaaFP1
set_option linter.unusedVariables false
set_option linter.unusedSimpArgs false
set_option linter.unnecessarySimpa false
namespace Go.Proofs.Ythblaiefalbomaa
open Go.RowKit
set_option maxRecDepth 100000

/-- Ice within ice. -/
def subI (a b : Ice) : Prop := ((b.bl.lo ≤ a.bl.lo ∧ a.bl.hi ≤ b.bl.hi) ∧ b.wh.lo ≤ a.wh.lo ∧ a.wh.hi ≤ b.wh.hi) ∧ (b.we.lo ≤ a.we.lo ∧ a.we.hi ≤ b.we.hi) ∧ b.sn.lo ≤ a.sn.lo ∧ a.sn.hi ≤ b.sn.hi
theorem iceB {x : Ice} (h : iceErr x = 0) : ((0 ≤ x.bl.lo ∧ x.bl.lo ≤ x.bl.hi ∧ x.bl.hi ≤ 5000) ∧ 0 ≤ x.wh.lo ∧ x.wh.lo ≤ x.wh.hi ∧ x.wh.hi ≤ 5000) ∧ (0 ≤ x.we.lo ∧ x.we.lo ≤ x.we.hi ∧ x.we.hi ≤ 5000) ∧ 0 ≤ x.sn.lo ∧ x.sn.lo ≤ x.sn.hi ∧ x.sn.hi ≤ 5000 := by
  unfold iceErr at h
  split at h
  · contradiction
  · rename_i h1
    split at h
    · contradiction
    · rename_i h2
      split at h
      · contradiction
      · rename_i h3
        exact ⟨⟨spanErr_ok (Classical.not_not.1 h1), spanErr_ok (Classical.not_not.1 h2)⟩, spanErr_ok (Classical.not_not.1 h3), spanErr_ok h⟩
set_option maxHeartbeats 8000000 in
theorem innerIce_c (sb : Nat) (x : Ice) (w : World) (hs : SeedAt w sb) (hx : iceErr x = 0) :
    Calls Try.prog 38 #[.pointer (some ⟨sb, 0, none⟩), .agg (iceC x)] w (fun e w' => ∃ y : Ice, e = .returned (.agg (iceC y)) ∧ iceErr y = 0 ∧ subI y x ∧ SeedAt w' sb ∧ w.grownBy w' (some sb)) := by
  have F1 : Bus w sb [rseed sb] w := Bus.ofSeed hs
  have hsl := hs.lt
  clear hs
  have hxb := iceB hx
  go_enter Try.func38, Try.ntmps38
  go_wp2_with fail
  have F14 := F1.new 32 (iceC x) (n := w.heap.size) (by simp)
  clear F1
  have F15 := F14.new 32 (z8) (n := (w.heap.size + 1)) (by simp)
  clear F14
  obtain ⟨w16, hx17, F19, hxs18⟩ := (show Bus w sb [rbox (w.heap.size + 1) 32 (z8), rbox w.heap.size 32 (iceC x), rseed sb] _ from F15).name
  (try simp at hxs18)
  rw [hx17]
  clear hx17 F15
  have F20 := F19.drew
  clear F19
  refine ru_begin (fun W => W.cell? ⟨w.heap.size, 0, none⟩ = some (.int .i64 x.bl.lo) ∧ W.cell? ⟨w.heap.size, 1, none⟩ = some (.int .i64 x.bl.hi) ∧ W.cell? ⟨w.heap.size, 2, none⟩ = some (.int .i64 x.wh.lo) ∧ W.cell? ⟨w.heap.size, 3, none⟩ = some (.int .i64 x.wh.hi) ∧ W.cell? ⟨w.heap.size, 4, none⟩ = some (.int .i64 x.we.lo) ∧ W.cell? ⟨w.heap.size, 5, none⟩ = some (.int .i64 x.we.hi) ∧ W.cell? ⟨w.heap.size, 6, none⟩ = some (.int .i64 x.sn.lo) ∧ W.cell? ⟨w.heap.size, 7, none⟩ = some (.int .i64 x.sn.hi)) 17 (by kernel_rfl) ?_ ?_
  · exact ⟨F20.cl 1 0 rfl rfl, F20.cl 1 1 rfl rfl, F20.cl 1 2 rfl rfl, F20.cl 1 3 rfl rfl, F20.cl 1 4 rfl rfl, F20.cl 1 5 rfl rfl, F20.cl 1 6 rfl rfl, F20.cl 1 7 rfl rfl⟩
  obtain ⟨wd22, hwd_⟩ : ∃ x : World, w16.drew = x := ⟨_, rfl⟩
  rw [hwd_] at F20 ⊢
  have wd22s : w16.heap.size ≤ wd22.heap.size := by rw [← hwd_]; exact Nat.le_refl _
  clear hwd_
  have hS21 := (And.intro (F20.cl 1 0 rfl rfl) (And.intro (F20.cl 1 1 rfl rfl) (And.intro (F20.cl 1 2 rfl rfl) (And.intro (F20.cl 1 3 rfl rfl) (And.intro (F20.cl 1 4 rfl rfl) (And.intro (F20.cl 1 5 rfl rfl) (And.intro (F20.cl 1 6 rfl rfl) (F20.cl 1 7 rfl rfl))))))))
  refine ru_t 0 [] ?_
  refine ru_t 1 [] ?_
  refine ru_t 2 [] ?_
  refine ru_t 4 [] ?_
  refine ru_t 5 [] ?_
  refine ru_t 6 [] ?_
  refine ru_t 8 [] ?_
  refine ru_t 9 [] ?_
  refine ru_t 10 [] ?_
  refine ru_t 12 [] ?_
  refine ru_t 13 [] ?_
  refine ru_t 14 [] ?_
  (try simp only [Act.put, List.setIfInBounds_toArray, List.set_cons_zero, List.set_cons_succ])
  clear hS21
  refine ru_one 3 rfl (by kernel_rfl) (fun K hK => ?_)
  go_simp
  refine (part_c sb x.bl.lo x.bl.hi _ (F20.at 2 rfl : SeedAt _ sb) (by omega) (by omega) (by omega)).mono ?_
  rintro e w28 ⟨_, rfl, ⟨lo23, hi24, rfl, hr25a, hr25b, hr25c⟩, hs27, hg26⟩
  have hg26s := hg26.size
  (try simp at hg26s)
  have F29 := F20.seedAt 2 rfl hg26 hs27
  clear F20
  refine ru_back hK (by exact ⟨F29.cl 1 0 rfl rfl, F29.cl 1 1 rfl rfl, F29.cl 1 2 rfl rfl, F29.cl 1 3 rfl rfl, F29.cl 1 4 rfl rfl, F29.cl 1 5 rfl rfl, F29.cl 1 6 rfl rfl, F29.cl 1 7 rfl rfl⟩) (fun hHeld => ?_)
  clear hK K
  (try simp only [Act.put, List.setIfInBounds_toArray, List.set_cons_zero, List.set_cons_succ])
  refine ru_one 7 rfl (by kernel_rfl) (fun K hK => ?_)
  go_simp
  refine (part_c sb x.wh.lo x.wh.hi _ (F29.at 2 rfl : SeedAt _ sb) (by omega) (by omega) (by omega)).mono ?_
  rintro e w35 ⟨_, rfl, ⟨lo30, hi31, rfl, hr32a, hr32b, hr32c⟩, hs34, hg33⟩
  have hg33s := hg33.size
  (try simp at hg33s)
  have F36 := F29.seedAt 2 rfl hg33 hs34
  clear F29
  refine ru_back hK (by exact ⟨F36.cl 1 0 rfl rfl, F36.cl 1 1 rfl rfl, F36.cl 1 2 rfl rfl, F36.cl 1 3 rfl rfl, F36.cl 1 4 rfl rfl, F36.cl 1 5 rfl rfl, F36.cl 1 6 rfl rfl, F36.cl 1 7 rfl rfl⟩) (fun hHeld => ?_)
  clear hK K
  (try simp only [Act.put, List.setIfInBounds_toArray, List.set_cons_zero, List.set_cons_succ])
  refine ru_one 11 rfl (by kernel_rfl) (fun K hK => ?_)
  go_simp
  refine (part_c sb x.we.lo x.we.hi _ (F36.at 2 rfl : SeedAt _ sb) (by omega) (by omega) (by omega)).mono ?_
  rintro e w42 ⟨_, rfl, ⟨lo37, hi38, rfl, hr39a, hr39b, hr39c⟩, hs41, hg40⟩
  have hg40s := hg40.size
  (try simp at hg40s)
  have F43 := F36.seedAt 2 rfl hg40 hs41
  clear F36
  refine ru_back hK (by exact ⟨F43.cl 1 0 rfl rfl, F43.cl 1 1 rfl rfl, F43.cl 1 2 rfl rfl, F43.cl 1 3 rfl rfl, F43.cl 1 4 rfl rfl, F43.cl 1 5 rfl rfl, F43.cl 1 6 rfl rfl, F43.cl 1 7 rfl rfl⟩) (fun hHeld => ?_)
  clear hK K
  (try simp only [Act.put, List.setIfInBounds_toArray, List.set_cons_zero, List.set_cons_succ])
  refine ru_one 15 rfl (by kernel_rfl) (fun K hK => ?_)
  go_simp
  refine (part_c sb x.sn.lo x.sn.hi _ (F43.at 2 rfl : SeedAt _ sb) (by omega) (by omega) (by omega)).mono ?_
  rintro e w49 ⟨_, rfl, ⟨lo44, hi45, rfl, hr46a, hr46b, hr46c⟩, hs48, hg47⟩
  have hg47s := hg47.size
  (try simp at hg47s)
  have F50 := F43.seedAt 2 rfl hg47 hs48
  clear F43
  refine ru_back hK (by exact ⟨F50.cl 1 0 rfl rfl, F50.cl 1 1 rfl rfl, F50.cl 1 2 rfl rfl, F50.cl 1 3 rfl rfl, F50.cl 1 4 rfl rfl, F50.cl 1 5 rfl rfl, F50.cl 1 6 rfl rfl, F50.cl 1 7 rfl rfl⟩) (fun hHeld => ?_)
  clear hK K
  (try simp only [Act.put, List.setIfInBounds_toArray, List.set_cons_zero, List.set_cons_succ])
  refine ru_p 16 ?_
  (try simp only [Act.put, List.setIfInBounds_toArray, List.set_cons_zero, List.set_cons_succ])
  refine ru_one 17 rfl (by kernel_rfl) (fun K hK => ?_)
  have kb_ := F50.bx8 0 rfl
  go_simp
  clear kb_
  have F51 := F50.pt8 (.int .i64 lo23) (.int .i64 hi24) (.int .i64 lo30) (.int .i64 hi31) (.int .i64 lo37) (.int .i64 hi38) (.int .i64 lo44) (.int .i64 hi45)
  clear F50
  refine ru_back_late hK (by kernel_rfl) ?_
  clear hK K
  (try simp only [Act.put, List.setIfInBounds_toArray, List.set_cons_zero, List.set_cons_succ])
  refine ru_done (by kernel_rfl) ?_
  obtain ⟨w52, hx53, F55, hxs54⟩ := (show Bus w sb [rbox (w.heap.size + 1) 32 #[.int .i64 lo23, .int .i64 hi24, .int .i64 lo30, .int .i64 hi31, .int .i64 lo37, .int .i64 hi38, .int .i64 lo44, .int .i64 hi45], rseed sb] _ from (F51.drop 1 rfl)).name
  (try simp at hxs54)
  rw [hx53]
  clear hx53 F51
  go_wp2_with fail
  have kb56 := F55.bx8 0 rfl
  go_wp2_with fail
  exact bodyPost_ret (v := .agg #[.int .i64 lo23, .int .i64 hi24, .int .i64 lo30, .int .i64 hi31, .int .i64 lo37, .int .i64 hi38, .int .i64 lo44, .int .i64 hi45]) (by simp [results, Try.results38, go_sem, kb56]) rfl (⟨⟨⟨lo23, hi24⟩, ⟨lo30, hi31⟩, ⟨lo37, hi38⟩, ⟨lo44, hi45⟩⟩, rfl, by unfold iceErr spanErr; simp only; (repeat' split) <;> first | rfl | (exfalso; omega) | omega, by unfold subI; simp only; omega, (F55.at 1 rfl : SeedAt _ sb), F55.gb⟩)

set_option maxHeartbeats 8000000 in
theorem trueIce_c (sb : Nat) (x : Ice) (w : World) (hs : SeedAt w sb) (hx : iceErr x = 0) :
    Calls Try.prog 41 #[.pointer (some ⟨sb, 0, none⟩), .agg (iceC x)] w (fun e w' => ∃ t : Tr, e = .returned (.agg #[.int .i64 t.bl, .int .i64 t.wh, .int .i64 t.we, .int .i64 t.sn]) ∧ inI t x ∧ SeedAt w' sb ∧ w.grownBy w' (some sb)) := by
  have F1 : Bus w sb [rseed sb] w := Bus.ofSeed hs
  have hsl := hs.lt
  clear hs
  have hxb := iceB hx
  go_enter Try.func41, Try.ntmps41
  go_wp2_with fail
  have F10 := F1.new 32 (iceC x) (n := w.heap.size) (by simp)
  clear F1
  have F11 := F10.new 48 #[.int .i64 0, .int .i64 0, .int .i64 0, .int .i64 0] (n := (w.heap.size + 1)) (by simp)
  clear F10
  obtain ⟨w12, hx13, F15, hxs14⟩ := (show Bus w sb [rbox (w.heap.size + 1) 48 #[.int .i64 0, .int .i64 0, .int .i64 0, .int .i64 0], rbox w.heap.size 32 (iceC x), rseed sb] _ from F11).name
  (try simp at hxs14)
  rw [hx13]
  clear hx13 F11
  have F16 := F15.drew
  clear F15
  refine ru_begin (fun W => W.cell? ⟨w.heap.size, 0, none⟩ = some (.int .i64 x.bl.lo) ∧ W.cell? ⟨w.heap.size, 1, none⟩ = some (.int .i64 x.bl.hi) ∧ W.cell? ⟨w.heap.size, 2, none⟩ = some (.int .i64 x.wh.lo) ∧ W.cell? ⟨w.heap.size, 3, none⟩ = some (.int .i64 x.wh.hi) ∧ W.cell? ⟨w.heap.size, 4, none⟩ = some (.int .i64 x.we.lo) ∧ W.cell? ⟨w.heap.size, 5, none⟩ = some (.int .i64 x.we.hi) ∧ W.cell? ⟨w.heap.size, 6, none⟩ = some (.int .i64 x.sn.lo) ∧ W.cell? ⟨w.heap.size, 7, none⟩ = some (.int .i64 x.sn.hi)) 17 (by kernel_rfl) ?_ ?_
  · exact ⟨F16.cl 1 0 rfl rfl, F16.cl 1 1 rfl rfl, F16.cl 1 2 rfl rfl, F16.cl 1 3 rfl rfl, F16.cl 1 4 rfl rfl, F16.cl 1 5 rfl rfl, F16.cl 1 6 rfl rfl, F16.cl 1 7 rfl rfl⟩
  obtain ⟨wd18, hwd_⟩ : ∃ x : World, w12.drew = x := ⟨_, rfl⟩
  rw [hwd_] at F16 ⊢
  have wd18s : w12.heap.size ≤ wd18.heap.size := by rw [← hwd_]; exact Nat.le_refl _
  clear hwd_
  have hS17 := (And.intro (F16.cl 1 0 rfl rfl) (And.intro (F16.cl 1 1 rfl rfl) (And.intro (F16.cl 1 2 rfl rfl) (And.intro (F16.cl 1 3 rfl rfl) (And.intro (F16.cl 1 4 rfl rfl) (And.intro (F16.cl 1 5 rfl rfl) (And.intro (F16.cl 1 6 rfl rfl) (F16.cl 1 7 rfl rfl))))))))
  refine ru_t 0 [] ?_
  refine ru_t 1 [] ?_
  refine ru_t 2 [] ?_
  refine ru_t 4 [] ?_
  refine ru_t 5 [] ?_
  refine ru_t 6 [] ?_
  refine ru_t 8 [] ?_
  refine ru_t 9 [] ?_
  refine ru_t 10 [] ?_
  refine ru_t 12 [] ?_
  refine ru_t 13 [] ?_
  refine ru_t 14 [] ?_
  (try simp only [Act.put, List.setIfInBounds_toArray, List.set_cons_zero, List.set_cons_succ])
  clear hS17
  refine ru_one 3 rfl (by kernel_rfl) (fun K hK => ?_)
  go_simp
  refine (inside_c sb x.bl.lo x.bl.hi _ (F16.at 2 rfl : SeedAt _ sb) (by omega) (by omega) (by omega) (by omega)).mono ?_
  rintro e w23 ⟨r19, rfl, hr20, hs22, hg21⟩
  unfold insideR fromR at hr20; have hr20b : x.bl.lo ≤ r19 ∧ r19 ≤ x.bl.hi := (by omega); clear hr20
  have hg21s := hg21.size
  (try simp at hg21s)
  have F24 := F16.seedAt 2 rfl hg21 hs22
  clear F16
  refine ru_back hK (by exact ⟨F24.cl 1 0 rfl rfl, F24.cl 1 1 rfl rfl, F24.cl 1 2 rfl rfl, F24.cl 1 3 rfl rfl, F24.cl 1 4 rfl rfl, F24.cl 1 5 rfl rfl, F24.cl 1 6 rfl rfl, F24.cl 1 7 rfl rfl⟩) (fun hHeld => ?_)
  clear hK K
  (try simp only [Act.put, List.setIfInBounds_toArray, List.set_cons_zero, List.set_cons_succ])
  refine ru_one 7 rfl (by kernel_rfl) (fun K hK => ?_)
  go_simp
  refine (inside_c sb x.wh.lo x.wh.hi _ (F24.at 2 rfl : SeedAt _ sb) (by omega) (by omega) (by omega) (by omega)).mono ?_
  rintro e w29 ⟨r25, rfl, hr26, hs28, hg27⟩
  unfold insideR fromR at hr26; have hr26b : x.wh.lo ≤ r25 ∧ r25 ≤ x.wh.hi := (by omega); clear hr26
  have hg27s := hg27.size
  (try simp at hg27s)
  have F30 := F24.seedAt 2 rfl hg27 hs28
  clear F24
  refine ru_back hK (by exact ⟨F30.cl 1 0 rfl rfl, F30.cl 1 1 rfl rfl, F30.cl 1 2 rfl rfl, F30.cl 1 3 rfl rfl, F30.cl 1 4 rfl rfl, F30.cl 1 5 rfl rfl, F30.cl 1 6 rfl rfl, F30.cl 1 7 rfl rfl⟩) (fun hHeld => ?_)
  clear hK K
  (try simp only [Act.put, List.setIfInBounds_toArray, List.set_cons_zero, List.set_cons_succ])
  refine ru_one 11 rfl (by kernel_rfl) (fun K hK => ?_)
  go_simp
  refine (inside_c sb x.we.lo x.we.hi _ (F30.at 2 rfl : SeedAt _ sb) (by omega) (by omega) (by omega) (by omega)).mono ?_
  rintro e w35 ⟨r31, rfl, hr32, hs34, hg33⟩
  unfold insideR fromR at hr32; have hr32b : x.we.lo ≤ r31 ∧ r31 ≤ x.we.hi := (by omega); clear hr32
  have hg33s := hg33.size
  (try simp at hg33s)
  have F36 := F30.seedAt 2 rfl hg33 hs34
  clear F30
  refine ru_back hK (by exact ⟨F36.cl 1 0 rfl rfl, F36.cl 1 1 rfl rfl, F36.cl 1 2 rfl rfl, F36.cl 1 3 rfl rfl, F36.cl 1 4 rfl rfl, F36.cl 1 5 rfl rfl, F36.cl 1 6 rfl rfl, F36.cl 1 7 rfl rfl⟩) (fun hHeld => ?_)
  clear hK K
  (try simp only [Act.put, List.setIfInBounds_toArray, List.set_cons_zero, List.set_cons_succ])
  refine ru_one 15 rfl (by kernel_rfl) (fun K hK => ?_)
  go_simp
  refine (inside_c sb x.sn.lo x.sn.hi _ (F36.at 2 rfl : SeedAt _ sb) (by omega) (by omega) (by omega) (by omega)).mono ?_
  rintro e w41 ⟨r37, rfl, hr38, hs40, hg39⟩
  unfold insideR fromR at hr38; have hr38b : x.sn.lo ≤ r37 ∧ r37 ≤ x.sn.hi := (by omega); clear hr38
  have hg39s := hg39.size
  (try simp at hg39s)
  have F42 := F36.seedAt 2 rfl hg39 hs40
  clear F36
  refine ru_back hK (by exact ⟨F42.cl 1 0 rfl rfl, F42.cl 1 1 rfl rfl, F42.cl 1 2 rfl rfl, F42.cl 1 3 rfl rfl, F42.cl 1 4 rfl rfl, F42.cl 1 5 rfl rfl, F42.cl 1 6 rfl rfl, F42.cl 1 7 rfl rfl⟩) (fun hHeld => ?_)
  clear hK K
  (try simp only [Act.put, List.setIfInBounds_toArray, List.set_cons_zero, List.set_cons_succ])
  refine ru_p 16 ?_
  (try simp only [Act.put, List.setIfInBounds_toArray, List.set_cons_zero, List.set_cons_succ])
  refine ru_one 17 rfl (by kernel_rfl) (fun K hK => ?_)
  have kb_ := F42.bx4 0 rfl
  go_simp
  clear kb_
  have F43 := F42.pt4 (.int .i64 r19) (.int .i64 r25) (.int .i64 r31) (.int .i64 r37)
  clear F42
  refine ru_back_late hK (by kernel_rfl) ?_
  clear hK K
  (try simp only [Act.put, List.setIfInBounds_toArray, List.set_cons_zero, List.set_cons_succ])
  refine ru_done (by kernel_rfl) ?_
  obtain ⟨w44, hx45, F47, hxs46⟩ := (show Bus w sb [rbox (w.heap.size + 1) 48 #[.int .i64 r19, .int .i64 r25, .int .i64 r31, .int .i64 r37], rseed sb] _ from (F43.drop 1 rfl)).name
  (try simp at hxs46)
  rw [hx45]
  clear hx45 F43
  go_wp2_with fail
  have kb48 := F47.bx4 0 rfl
  go_wp2_with fail
  exact bodyPost_ret (v := .agg #[.int .i64 r19, .int .i64 r25, .int .i64 r31, .int .i64 r37]) (by simp [results, Try.results41, go_sem, kb48]) rfl (⟨⟨r19, r25, r31, r37⟩, rfl, by unfold inI; simp only; omega, (F47.at 1 rfl : SeedAt _ sb), F47.gb⟩)

end Go.Proofs.Ythblaiefalbomaa
