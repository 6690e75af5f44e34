/- frost: awake. -/
import Derived.Test.YtgkjicejaalijaaDoorF25
set_option linter.unusedVariables false
set_option linter.unusedSimpArgs false
set_option linter.unnecessarySimpa false
namespace Go.Proofs.YtgkjicejaalijaaDoor
open Go.RowKit
set_option maxRecDepth 100000

set_option maxHeartbeats 8000000 in
theorem awake_c  (w : World)  :
    Calls Tryd.prog 8 #[] w (Ret (.bool true) w) := by
  have F1 : Bun w [] w := Bun.nil _
  go_enter Tryd.func8, Tryd.ntmps8
  go_wp2_with fail
  refine (law_c _).mono ?_
  rintro e w5 ⟨acs2, lcs2, hcs2, rfl, hxcs2, hycs2, hl2, hg3⟩
  have hg3s := hg3.size
  (try simp at hg3s)
  have F6 := F1.add (rsl covEnc 3 lcs2 hcs2 (.slice (some ⟨acs2, 0, none⟩) 2 2) lawF.cov) hg3 (hl2) (fun g e => ⟨Nat.le_trans hxcs2 e.1, Nat.lt_of_lt_of_le e.2 hycs2⟩)
  clear F1
  clear hg3
  go_wp2_with fail
  refine (black_c _).mono ?_
  rintro e w9 ⟨rfl, hg7⟩
  have hg7s := hg7.size
  (try simp at hg7s)
  have F10 := F6.gn hg7
  clear F6
  clear hg7
  go_wp2_with fail
  refine (day_c 160 0 0 _).mono ?_
  rintro e w13 ⟨rfl, hg11⟩
  have hg11s := hg11.size
  (try simp at hg11s)
  have F14 := F10.gn hg11
  clear F10
  clear hg11
  go_wp2_with fail
  refine (step_ex lcs2 hcs2 _ _ (F14.at 0 rfl : Sl covEnc 3 lcs2 hcs2 _ (.slice (some ⟨acs2, 0, none⟩) 2 2) lawF.cov) (by first | omega | (simp; omega))).mono ?_
  rintro e w17 ⟨rfl, hg15⟩
  have hg15s := hg15.size
  (try simp at hg15s)
  have F18 := F14.gn hg15
  clear F14
  clear hg15
  go_wp2_with fail
  have F20 := F18.new 37 #[.int .i64 325, .int .i64 326, .int .i64 0, .int .i64 0, .int .i64 0, .int .i64 0, .int .i64 0, .int .i64 0] (n := w17.heap.size) (by simp)
  clear F18
  refine (law_c _).mono ?_
  rintro e w23 ⟨acs19, lcs19, hcs19, rfl, hxcs19, hycs19, hl19, hg21⟩
  have hg21s := hg21.size
  (try simp at hg21s)
  have F24 := F20.add (rsl covEnc 3 lcs19 hcs19 (.slice (some ⟨acs19, 0, none⟩) 2 2) lawF.cov) hg21 (hl19) (fun g e => ⟨Nat.le_trans hxcs19 e.1, Nat.lt_of_lt_of_le e.2 hycs19⟩)
  clear F20
  clear hg21
  go_wp2_with fail
  refine (black_c _).mono ?_
  rintro e w27 ⟨rfl, hg25⟩
  have hg25s := hg25.size
  (try simp at hg25s)
  have F28 := F24.gn hg25
  clear F24
  clear hg25
  go_wp2_with fail
  refine (day_c 160 0 0 _).mono ?_
  rintro e w31 ⟨rfl, hg29⟩
  have hg29s := hg29.size
  (try simp at hg29s)
  have F32 := F28.gn hg29
  clear F28
  clear hg29
  go_wp2_with fail
  refine (day_c 160 0 0 _).mono ?_
  rintro e w35 ⟨rfl, hg33⟩
  have hg33s := hg33.size
  (try simp at hg33s)
  have F36 := F32.gn hg33
  clear F32
  clear hg33
  go_wp2_with fail
  refine (day_c 160 0 0 _).mono ?_
  rintro e w39 ⟨rfl, hg37⟩
  have hg37s := hg37.size
  (try simp at hg37s)
  have F40 := F36.gn hg37
  clear F36
  clear hg37
  go_wp2_with fail
  have F41 := F40.new 42 #[.int .i64 160, .int .i64 160, .int .i64 0, .int .i64 0, .int .i64 0, .bool false, .int .i64 160, .int .i64 160, .int .i64 0, .int .i64 0, .int .i64 0, .bool false, .int .i64 160, .int .i64 160, .int .i64 0, .int .i64 0, .int .i64 0, .bool false] (n := w39.heap.size) (by simp)
  clear F40
  refine (ready_ex lcs19 hcs19 w39.heap.size (w39.heap.size + 1) _ _ _ (F41.at 1 rfl : Sl covEnc 3 lcs19 hcs19 _ (.slice (some ⟨acs19, 0, none⟩) 2 2) lawF.cov) (by first | omega | (simp; omega)) (Sl.of_bk (enc := weaEnc) (sz := 6) (l := [d160, d160, d160]) (F41.at 0 rfl : Bk _ w39.heap.size 42 #[.int .i64 160, .int .i64 160, .int .i64 0, .int .i64 0, .int .i64 0, .bool false, .int .i64 160, .int .i64 160, .int .i64 0, .int .i64 0, .int .i64 0, .bool false, .int .i64 160, .int .i64 160, .int .i64 0, .int .i64 0, .int .i64 0, .bool false]) (fun _ => rfl) rfl (by show (3 : Nat) ≤ maxLen; unfold maxLen; omega) 3) ((F41.at 0 rfl : Bk _ w39.heap.size 42 #[.int .i64 160, .int .i64 160, .int .i64 0, .int .i64 0, .int .i64 0, .bool false, .int .i64 160, .int .i64 160, .int .i64 0, .int .i64 0, .int .i64 0, .bool false, .int .i64 160, .int .i64 160, .int .i64 0, .int .i64 0, .int .i64 0, .bool false])).lt).mono ?_
  rintro e w44 ⟨rfl, hg42⟩
  have hg42s := hg42.size
  (try simp at hg42s)
  have F45 := F41.gn hg42
  clear F41
  clear hg42
  go_wp2_with fail
  have F46 := F45.drew
  clear F45
  refine ru_begin (fun W => W.cell? ⟨w17.heap.size, 0, none⟩ = some (.int .i64 325) ∧ W.cell? ⟨w17.heap.size, 1, none⟩ = some (.int .i64 326) ∧ W.cell? ⟨w17.heap.size, 2, none⟩ = some (.int .i64 0) ∧ W.cell? ⟨w17.heap.size, 3, none⟩ = some (.int .i64 0) ∧ W.cell? ⟨w17.heap.size, 4, none⟩ = some (.int .i64 0) ∧ W.cell? ⟨w17.heap.size, 5, none⟩ = some (.int .i64 0) ∧ W.cell? ⟨w17.heap.size, 6, none⟩ = some (.int .i64 0) ∧ W.cell? ⟨w17.heap.size, 7, none⟩ = some (.int .i64 0)) 24 (by kernel_rfl) ?_ ?_
  · exact ⟨F46.cl 2 0 rfl rfl, F46.cl 2 1 rfl rfl, F46.cl 2 2 rfl rfl, F46.cl 2 3 rfl rfl, F46.cl 2 4 rfl rfl, F46.cl 2 5 rfl rfl, F46.cl 2 6 rfl rfl, F46.cl 2 7 rfl rfl⟩
  obtain ⟨wd48, hwd_⟩ : ∃ x : World, w44.drew = x := ⟨_, rfl⟩
  rw [hwd_] at F46 ⊢
  have wd48s : w44.heap.size ≤ wd48.heap.size := by rw [← hwd_]; exact Nat.le_refl _
  clear hwd_
  have hS47 := (And.intro (F46.cl 2 0 rfl rfl) (And.intro (F46.cl 2 1 rfl rfl) (And.intro (F46.cl 2 2 rfl rfl) (And.intro (F46.cl 2 3 rfl rfl) (And.intro (F46.cl 2 4 rfl rfl) (And.intro (F46.cl 2 5 rfl rfl) (And.intro (F46.cl 2 6 rfl rfl) (F46.cl 2 7 rfl rfl))))))))
  refine ru_t 0 [] ?_
  refine ru_t 1 [] ?_
  refine ru_t 2 [] ?_
  refine ru_t 3 [] ?_
  refine ru_t 4 [] ?_
  refine ru_t 5 [] ?_
  refine ru_t 6 [] ?_
  refine ru_t 7 [] ?_
  (try simp only [Act.put, List.setIfInBounds_toArray, List.set_cons_zero, List.set_cons_succ])
  clear hS47
  refine ru_one 8 rfl (by kernel_rfl) (fun K hK => ?_)
  go_simp
  refine (span_c 325 326 _).mono ?_
  rintro e w51 ⟨rfl, hg49⟩
  have hg49s := hg49.size
  (try simp at hg49s)
  have F52 := F46.gn hg49
  clear F46
  refine ru_back hK (by exact ⟨F52.cl 2 0 rfl rfl, F52.cl 2 1 rfl rfl, F52.cl 2 2 rfl rfl, F52.cl 2 3 rfl rfl, F52.cl 2 4 rfl rfl, F52.cl 2 5 rfl rfl, F52.cl 2 6 rfl rfl, F52.cl 2 7 rfl rfl⟩) (fun hHeld => ?_)
  clear hK K
  (try simp only [Act.put, List.setIfInBounds_toArray, List.set_cons_zero, List.set_cons_succ])
  refine ru_p 9 ?_
  (try simp only [Act.put, List.setIfInBounds_toArray, List.set_cons_zero, List.set_cons_succ])
  refine ru_p 10 ?_
  (try simp only [Act.put, List.setIfInBounds_toArray, List.set_cons_zero, List.set_cons_succ])
  refine ru_p 11 ?_
  (try simp only [Act.put, List.setIfInBounds_toArray, List.set_cons_zero, List.set_cons_succ])
  refine ru_p 12 ?_
  (try simp only [Act.put, List.setIfInBounds_toArray, List.set_cons_zero, List.set_cons_succ])
  refine ru_p 13 ?_
  (try simp only [Act.put, List.setIfInBounds_toArray, List.set_cons_zero, List.set_cons_succ])
  refine ru_p 14 ?_
  (try simp only [Act.put, List.setIfInBounds_toArray, List.set_cons_zero, List.set_cons_succ])
  refine ru_p 15 ?_
  (try simp only [Act.put, List.setIfInBounds_toArray, List.set_cons_zero, List.set_cons_succ])
  refine ru_p 16 ?_
  (try simp only [Act.put, List.setIfInBounds_toArray, List.set_cons_zero, List.set_cons_succ])
  refine ru_p 17 ?_
  (try simp only [Act.put, List.setIfInBounds_toArray, List.set_cons_zero, List.set_cons_succ])
  refine ru_p 18 ?_
  (try simp only [Act.put, List.setIfInBounds_toArray, List.set_cons_zero, List.set_cons_succ])
  refine ru_p 19 ?_
  (try simp only [Act.put, List.setIfInBounds_toArray, List.set_cons_zero, List.set_cons_succ])
  refine ru_p 20 ?_
  (try simp only [Act.put, List.setIfInBounds_toArray, List.set_cons_zero, List.set_cons_succ])
  refine ru_one 21 rfl (by kernel_rfl) (fun K hK => ?_)
  go_simp
  refine (root_x99 _).mono ?_
  rintro e _ ⟨rfl, rfl⟩
  refine ru_back hK (by exact ⟨F52.cl 2 0 rfl rfl, F52.cl 2 1 rfl rfl, F52.cl 2 2 rfl rfl, F52.cl 2 3 rfl rfl, F52.cl 2 4 rfl rfl, F52.cl 2 5 rfl rfl, F52.cl 2 6 rfl rfl, F52.cl 2 7 rfl rfl⟩) (fun hHeld => ?_)
  clear hK K
  (try simp only [Act.put, List.setIfInBounds_toArray, List.set_cons_zero, List.set_cons_succ])
  refine ru_p 22 ?_
  (try simp only [Act.put, List.setIfInBounds_toArray, List.set_cons_zero, List.set_cons_succ])
  refine ru_p 23 ?_
  (try simp only [Act.put, List.setIfInBounds_toArray, List.set_cons_zero, List.set_cons_succ])
  refine ru_one 24 rfl (by kernel_rfl) (fun K hK => ?_)
  go_simp
  refine ru_back_late hK (by kernel_rfl) ?_
  clear hK K
  (try simp only [Act.put, List.setIfInBounds_toArray, List.set_cons_zero, List.set_cons_succ])
  refine ru_done (by kernel_rfl) ?_
  obtain ⟨w53, hx54, F56, hxs55⟩ := (show Bun w [rsl covEnc 3 lcs19 hcs19 (.slice (some ⟨acs19, 0, none⟩) 2 2) lawF.cov, rsl covEnc 3 lcs2 hcs2 (.slice (some ⟨acs2, 0, none⟩) 2 2) lawF.cov] _ from ((F52.drop 0 rfl).drop 1 rfl)).name
  (try simp at hxs55)
  rw [hx54]
  clear hx54 F52
  go_wp2_with fail
  go_ret
  exact ⟨rfl, F56.gb⟩

end Go.Proofs.YtgkjicejaalijaaDoor
