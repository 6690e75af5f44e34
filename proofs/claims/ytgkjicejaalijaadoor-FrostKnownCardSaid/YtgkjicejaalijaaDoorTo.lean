/- frost: the chapter's other examples. -/
import Derived.Test.YtgkjicejaalijaaDoorTk
import Derived.Test.YtgkjicejaalijaaDoorF11
set_option linter.unusedVariables false
set_option linter.unusedSimpArgs false
set_option linter.unnecessarySimpa false
namespace Go.Proofs.YtgkjicejaalijaaDoor
open Go.RowKit Go.Shelf
set_option maxRecDepth 100000

theorem bear_x (lo hi : Nat) (v : Value) (w : World) (hl : Sl covEnc 3 lo hi w v lawF.cov) (h2 : hi ≤ w.heap.size) : Calls Tryd.prog 38 #[.agg (froC lawF v), .agg (iceC (ice4 300 310 41 43 0 1 0 0))] w (Ret (.tuple #[.agg #[.int .i64 320, .int .i64 336], .int .i64 3, .int .i64 0]) w) := by
  have h := bearing_c lo hi v lawF (ice4 300 310 41 43 0 1 0 0) w hl h2
  obtain ⟨e1, e2, e3⟩ := bear_is
  unfold bearE at e3
  rw [e1, e2, e3] at h
  exact h
theorem flood_x (lo hi lo2 hi2 : Nat) (v vd : Value) (w : World) (hl : Sl covEnc 3 lo hi w v lawF.cov) (h2 : hi ≤ w.heap.size) (hl2 : Sl weaEnc 6 lo2 hi2 w vd [wDay 100 0 0, wDay 50 0 0]) (h22 : hi2 ≤ w.heap.size) : Calls Tryd.prog 39 #[.agg (froC lawF v), .agg (iceC (ice4 300 300 0 0 0 0 0 0)), vd, .int .i64 1, .int .i64 50] w (Ret (.tuple #[.int .i64 15, .int .i64 0]) w) := by
  have h := flood_c lo hi v lawF (ice4 300 300 0 0 0 0 0 0) lo2 hi2 vd [wDay 100 0 0, wDay 50 0 0] 1 50 w hl h2 hl2 h22
  rw [flood_is.1, flood_is.2] at h
  exact h
theorem core_x1 (w : World) : Calls Tryd.prog 40 #[.agg (iceC (ice4 300 310 0 0 0 0 0 0)), .agg (iceC (ice4 305 320 0 0 0 0 0 0))] w (Ret (.tuple #[.agg (iceC (ice4 305 310 0 0 0 0 0 0)), .int .i64 0]) w) := by
  have h := core_c (ice4 300 310 0 0 0 0 0 0) (ice4 305 320 0 0 0 0 0 0) w
  rw [core_1.1, core_1.2] at h
  exact h
theorem core_x2 (w : World) : Calls Tryd.prog 40 #[.agg (iceC (ice4 300 310 0 0 0 0 0 0)), .agg (iceC (ice4 305 320 0 0 0 0 1 2))] w (Ret (.tuple #[.agg (iceC ice0), .int .i64 12]) w) := by
  have h := core_c (ice4 300 310 0 0 0 0 0 0) (ice4 305 320 0 0 0 0 1 2) w
  rw [coreI, if_neg (by rw [core_2]; decide), core_2] at h
  exact h
theorem index_x (lo hi : Nat) (v : Value) (w : World) (hl : Sl weaEnc 6 lo hi w v [wDay 160 0 0, wCold]) (h2 : hi ≤ w.heap.size) : Calls Tryd.prog 41 #[v] w (Ret (.tuple #[.agg #[.int .i64 10, .int .i64 60], .int .i64 0]) w) := by
  have h := index_c lo hi v [wDay 160 0 0, wCold] w hl h2
  rw [index_is.1, index_is.2] at h
  exact h
theorem write_x (lo hi : Nat) (v : Value) (w : World) (hl : Sl weaEnc 6 lo hi w v [wDay 160 0 20, wClear]) (h2 : hi ≤ w.heap.size) (ht : Lib.TabIs Tryd.prog w powName .u64 Lib.pow10Tab) (hg : ∀ g, Tryd.prog.globalNamed powName = some g → g < w.heap.size) : Calls Tryd.prog 42 #[v] w (Ret (.tuple #[.string ⟨#[100, 97, 121, 32, 49, 54, 48, 32, 49, 54, 48, 32, 48, 32, 48, 32, 50, 48, 32, 115, 110, 111, 119, 10, 100, 97, 121, 32, 45, 53, 32, 53, 32, 49, 32, 50, 32, 48, 32, 99, 108, 101, 97, 114, 10]⟩, .int .i64 0]) w) := by
  have h := fwrite_c lo hi v [wDay 160 0 20, wClear] w hl h2 ht hg
  rw [text_is.1, text_is.2] at h
  exact h
set_option maxHeartbeats 32000000 in
theorem others_c  (w : World) (ht : Lib.TabIs Tryd.prog w powName .u64 Lib.pow10Tab) (hg : ∀ g, Tryd.prog.globalNamed powName = some g → g < w.heap.size) :
    Calls Tryd.prog 15 #[] w (Ret (.bool true) w) := by
  have F1 : Bun w [] w := Bun.nil _
  have HTB := Lib.hid ht
  clear ht
  have F2 := Bun.tab0 F1 HTB.out hg
  clear F1
  go_enter Tryd.func15, Tryd.ntmps15
  go_wp2_with fail
  refine (law_c _).mono ?_
  rintro e w6 ⟨acs3, lcs3, hcs3, rfl, hxcs3, hycs3, hl3, hg4⟩
  have hg4s := hg4.size
  (try simp at hg4s)
  have F7 := F2.add (rsl covEnc 3 lcs3 hcs3 (.slice (some ⟨acs3, 0, none⟩) 2 2) lawF.cov) hg4 (hl3) (fun g e => ⟨Nat.le_trans hxcs3 e.1, Nat.lt_of_lt_of_le e.2 hycs3⟩)
  clear F2
  clear hg4
  go_wp2_with fail
  refine (span_c 300 310 _).mono ?_
  rintro e w10 ⟨rfl, hg8⟩
  have hg8s := hg8.size
  (try simp at hg8s)
  have F11 := F7.gn hg8
  clear F7
  clear hg8
  go_wp2_with fail
  refine (span_c 41 43 _).mono ?_
  rintro e w14 ⟨rfl, hg12⟩
  have hg12s := hg12.size
  (try simp at hg12s)
  have F15 := F11.gn hg12
  clear F11
  clear hg12
  go_wp2_with fail
  refine (span_c 0 1 _).mono ?_
  rintro e w18 ⟨rfl, hg16⟩
  have hg16s := hg16.size
  (try simp at hg16s)
  have F19 := F15.gn hg16
  clear F15
  clear hg16
  go_wp2_with fail
  refine (bear_x _ _ _ _ (F19.at 0 rfl : Sl covEnc 3 lcs3 hcs3 _ (.slice (some ⟨acs3, 0, none⟩) 2 2) lawF.cov) (by first | omega | (simp; omega))).mono ?_
  rintro e w22 ⟨rfl, hg20⟩
  have hg20s := hg20.size
  (try simp at hg20s)
  have F23 := F19.gn hg20
  clear F19
  clear hg20
  go_wp2_with fail
  have F25 := F23.new 24 #[.int .i64 320, .int .i64 336] (n := w22.heap.size) (by simp)
  clear F23
  refine (law_c _).mono ?_
  rintro e w28 ⟨acs24, lcs24, hcs24, rfl, hxcs24, hycs24, hl24, hg26⟩
  have hg26s := hg26.size
  (try simp at hg26s)
  have F29 := F25.add (rsl covEnc 3 lcs24 hcs24 (.slice (some ⟨acs24, 0, none⟩) 2 2) lawF.cov) hg26 (hl24) (fun g e => ⟨Nat.le_trans hxcs24 e.1, Nat.lt_of_lt_of_le e.2 hycs24⟩)
  clear F25
  clear hg26
  go_wp2_with fail
  refine (black_c _).mono ?_
  rintro e w32 ⟨rfl, hg30⟩
  have hg30s := hg30.size
  (try simp at hg30s)
  have F33 := F29.gn hg30
  clear F29
  clear hg30
  go_wp2_with fail
  refine (day_c 100 0 0 _).mono ?_
  rintro e w36 ⟨rfl, hg34⟩
  have hg34s := hg34.size
  (try simp at hg34s)
  have F37 := F33.gn hg34
  clear F33
  clear hg34
  go_wp2_with fail
  refine (day_c 50 0 0 _).mono ?_
  rintro e w40 ⟨rfl, hg38⟩
  have hg38s := hg38.size
  (try simp at hg38s)
  have F41 := F37.gn hg38
  clear F37
  clear hg38
  go_wp2_with fail
  have F42 := F41.new 42 #[.int .i64 100, .int .i64 100, .int .i64 0, .int .i64 0, .int .i64 0, .bool false, .int .i64 50, .int .i64 50, .int .i64 0, .int .i64 0, .int .i64 0, .bool false] (n := w40.heap.size) (by simp)
  clear F41
  refine (flood_x _ _ _ _ _ _ _ (F42.at 1 rfl : Sl covEnc 3 lcs24 hcs24 _ (.slice (some ⟨acs24, 0, none⟩) 2 2) lawF.cov) (by first | omega | (simp; omega)) (Sl.of_bk (enc := weaEnc) (sz := 6) (l := [wDay 100 0 0, wDay 50 0 0]) (F42.at 0 rfl : Bk _ w40.heap.size 42 #[.int .i64 100, .int .i64 100, .int .i64 0, .int .i64 0, .int .i64 0, .bool false, .int .i64 50, .int .i64 50, .int .i64 0, .int .i64 0, .int .i64 0, .bool false]) (fun _ => rfl) rfl (by show (2 : Nat) ≤ maxLen; unfold maxLen; omega) 2) ((F42.at 0 rfl : Bk _ w40.heap.size 42 #[.int .i64 100, .int .i64 100, .int .i64 0, .int .i64 0, .int .i64 0, .bool false, .int .i64 50, .int .i64 50, .int .i64 0, .int .i64 0, .int .i64 0, .bool false])).lt).mono ?_
  rintro e w45 ⟨rfl, hg43⟩
  have hg43s := hg43.size
  (try simp at hg43s)
  have F46 := F42.gn hg43
  clear F42
  clear hg43
  go_wp2_with fail
  refine (span_c 300 310 _).mono ?_
  rintro e w49 ⟨rfl, hg47⟩
  have hg47s := hg47.size
  (try simp at hg47s)
  have F50 := F46.gn hg47
  clear F46
  clear hg47
  go_wp2_with fail
  refine (span_c 305 320 _).mono ?_
  rintro e w53 ⟨rfl, hg51⟩
  have hg51s := hg51.size
  (try simp at hg51s)
  have F54 := F50.gn hg51
  clear F50
  clear hg51
  go_wp2_with fail
  refine (core_x1 _).mono ?_
  rintro e w57 ⟨rfl, hg55⟩
  have hg55s := hg55.size
  (try simp at hg55s)
  have F58 := F54.gn hg55
  clear F54
  clear hg55
  go_wp2_with fail
  have F59 := F58.new 37 #[.int .i64 305, .int .i64 310, .int .i64 0, .int .i64 0, .int .i64 0, .int .i64 0, .int .i64 0, .int .i64 0] (n := w57.heap.size) (by simp)
  clear F58
  refine (span_c 300 310 _).mono ?_
  rintro e w62 ⟨rfl, hg60⟩
  have hg60s := hg60.size
  (try simp at hg60s)
  have F63 := F59.gn hg60
  clear F59
  clear hg60
  go_wp2_with fail
  refine (span_c 305 320 _).mono ?_
  rintro e w66 ⟨rfl, hg64⟩
  have hg64s := hg64.size
  (try simp at hg64s)
  have F67 := F63.gn hg64
  clear F63
  clear hg64
  go_wp2_with fail
  refine (span_c 1 2 _).mono ?_
  rintro e w70 ⟨rfl, hg68⟩
  have hg68s := hg68.size
  (try simp at hg68s)
  have F71 := F67.gn hg68
  clear F67
  clear hg68
  go_wp2_with fail
  refine (core_x2 _).mono ?_
  rintro e w74 ⟨rfl, hg72⟩
  have hg72s := hg72.size
  (try simp at hg72s)
  have F75 := F71.gn hg72
  clear F71
  clear hg72
  go_wp2_with fail
  have F76 := F75.new 37 (z8) (n := w74.heap.size) (by simp)
  clear F75
  refine (day_c 160 0 0 _).mono ?_
  rintro e w79 ⟨rfl, hg77⟩
  have hg77s := hg77.size
  (try simp at hg77s)
  have F80 := F76.gn hg77
  clear F76
  clear hg77
  go_wp2_with fail
  refine (span_c (-150) (-100) _).mono ?_
  rintro e w83 ⟨rfl, hg81⟩
  have hg81s := hg81.size
  (try simp at hg81s)
  have F84 := F80.gn hg81
  clear F80
  clear hg81
  go_wp2_with fail
  have F85 := F84.new 42 #[.int .i64 160, .int .i64 160, .int .i64 0, .int .i64 0, .int .i64 0, .bool false, .int .i64 (-150), .int .i64 (-100), .int .i64 0, .int .i64 0, .int .i64 0, .bool false] (n := w83.heap.size) (by simp)
  clear F84
  refine (index_x _ _ _ _ (Sl.of_bk (enc := weaEnc) (sz := 6) (l := [wDay 160 0 0, wCold]) (F85.at 0 rfl : Bk _ w83.heap.size 42 #[.int .i64 160, .int .i64 160, .int .i64 0, .int .i64 0, .int .i64 0, .bool false, .int .i64 (-150), .int .i64 (-100), .int .i64 0, .int .i64 0, .int .i64 0, .bool false]) (fun _ => rfl) rfl (by show (2 : Nat) ≤ maxLen; unfold maxLen; omega) 2) ((F85.at 0 rfl : Bk _ w83.heap.size 42 #[.int .i64 160, .int .i64 160, .int .i64 0, .int .i64 0, .int .i64 0, .bool false, .int .i64 (-150), .int .i64 (-100), .int .i64 0, .int .i64 0, .int .i64 0, .bool false])).lt).mono ?_
  rintro e w88 ⟨rfl, hg86⟩
  have hg86s := hg86.size
  (try simp at hg86s)
  have F89 := F85.gn hg86
  clear F85
  clear hg86
  go_wp2_with fail
  have F90 := F89.new 24 #[.int .i64 10, .int .i64 60] (n := w88.heap.size) (by simp)
  clear F89
  refine (day_c 160 0 20 _).mono ?_
  rintro e w93 ⟨rfl, hg91⟩
  have hg91s := hg91.size
  (try simp at hg91s)
  have F94 := F90.gn hg91
  clear F90
  clear hg91
  go_wp2_with fail
  refine (span_c (-5) 5 _).mono ?_
  rintro e w97 ⟨rfl, hg95⟩
  have hg95s := hg95.size
  (try simp at hg95s)
  have F98 := F94.gn hg95
  clear F94
  clear hg95
  go_wp2_with fail
  refine (span_c 1 2 _).mono ?_
  rintro e w101 ⟨rfl, hg99⟩
  have hg99s := hg99.size
  (try simp at hg99s)
  have F102 := F98.gn hg99
  clear F98
  clear hg99
  go_wp2_with fail
  have F103 := F102.new 42 #[.int .i64 160, .int .i64 160, .int .i64 0, .int .i64 0, .int .i64 20, .bool false, .int .i64 (-5), .int .i64 5, .int .i64 1, .int .i64 2, .int .i64 0, .bool true] (n := w101.heap.size) (by simp)
  clear F102
  refine (write_x _ _ _ _ (Sl.of_bk (enc := weaEnc) (sz := 6) (l := [wDay 160 0 20, wClear]) (F103.at 0 rfl : Bk _ w101.heap.size 42 #[.int .i64 160, .int .i64 160, .int .i64 0, .int .i64 0, .int .i64 20, .bool false, .int .i64 (-5), .int .i64 5, .int .i64 1, .int .i64 2, .int .i64 0, .bool true]) (fun _ => rfl) rfl (by show (2 : Nat) ≤ maxLen; unfold maxLen; omega) 2) ((F103.at 0 rfl : Bk _ w101.heap.size 42 #[.int .i64 160, .int .i64 160, .int .i64 0, .int .i64 0, .int .i64 20, .bool false, .int .i64 (-5), .int .i64 5, .int .i64 1, .int .i64 2, .int .i64 0, .bool true])).lt (F103.at 9 rfl : _ ∧ Lib.TabIs Tryd.prog _ powName .u64 Lib.pow10Tab).2 (fun g_ e_ => Nat.lt_of_lt_of_le (hg g_ e_) F103.gb.size)).mono ?_
  rintro e w106 ⟨rfl, hg104⟩
  have hg104s := hg104.size
  (try simp at hg104s)
  have F107 := F103.gn hg104
  clear F103
  clear hg104
  go_wp2_with fail
  have F108 := F107.drew
  clear F107
  refine ru_begin (fun W => W.cell? ⟨w22.heap.size, 0, none⟩ = some (.int .i64 320) ∧ W.cell? ⟨w22.heap.size, 1, none⟩ = some (.int .i64 336) ∧ W.cell? ⟨w57.heap.size, 0, none⟩ = some (.int .i64 305) ∧ W.cell? ⟨w57.heap.size, 1, none⟩ = some (.int .i64 310) ∧ W.cell? ⟨w57.heap.size, 2, none⟩ = some (.int .i64 0) ∧ W.cell? ⟨w57.heap.size, 3, none⟩ = some (.int .i64 0) ∧ W.cell? ⟨w57.heap.size, 4, none⟩ = some (.int .i64 0) ∧ W.cell? ⟨w57.heap.size, 5, none⟩ = some (.int .i64 0) ∧ W.cell? ⟨w57.heap.size, 6, none⟩ = some (.int .i64 0) ∧ W.cell? ⟨w57.heap.size, 7, none⟩ = some (.int .i64 0) ∧ W.cell? ⟨w88.heap.size, 0, none⟩ = some (.int .i64 10) ∧ W.cell? ⟨w88.heap.size, 1, none⟩ = some (.int .i64 60)) 50 (by kernel_rfl) ?_ ?_
  · exact ⟨F108.cl 7 0 rfl rfl, F108.cl 7 1 rfl rfl, F108.cl 4 0 rfl rfl, F108.cl 4 1 rfl rfl, F108.cl 4 2 rfl rfl, F108.cl 4 3 rfl rfl, F108.cl 4 4 rfl rfl, F108.cl 4 5 rfl rfl, F108.cl 4 6 rfl rfl, F108.cl 4 7 rfl rfl, F108.cl 1 0 rfl rfl, F108.cl 1 1 rfl rfl⟩
  obtain ⟨wd110, hwd_⟩ : ∃ x : World, w106.drew = x := ⟨_, rfl⟩
  rw [hwd_] at F108 ⊢
  have wd110s : w106.heap.size ≤ wd110.heap.size := by rw [← hwd_]; exact Nat.le_refl _
  clear hwd_
  have hS109 := (And.intro (F108.cl 7 0 rfl rfl) (And.intro (F108.cl 7 1 rfl rfl) (And.intro (F108.cl 4 0 rfl rfl) (And.intro (F108.cl 4 1 rfl rfl) (And.intro (F108.cl 4 2 rfl rfl) (And.intro (F108.cl 4 3 rfl rfl) (And.intro (F108.cl 4 4 rfl rfl) (And.intro (F108.cl 4 5 rfl rfl) (And.intro (F108.cl 4 6 rfl rfl) (And.intro (F108.cl 4 7 rfl rfl) (And.intro (F108.cl 1 0 rfl rfl) (F108.cl 1 1 rfl rfl))))))))))))
  refine ru_t 0 [] ?_
  refine ru_t 1 [] ?_
  refine ru_t 2 [] ?_
  refine ru_t 3 [] ?_
  refine ru_t 4 [] ?_
  refine ru_t 5 [] ?_
  refine ru_t 6 [] ?_
  refine ru_t 7 [] ?_
  refine ru_t 8 [] ?_
  refine ru_t 9 [] ?_
  refine ru_t 10 [] ?_
  refine ru_t 11 [] ?_
  refine ru_t 12 [] ?_
  refine ru_t 13 [] ?_
  refine ru_t 14 [] ?_
  refine ru_t 15 [] ?_
  refine ru_t 16 [] ?_
  refine ru_t 17 [] ?_
  refine ru_t 18 [] ?_
  refine ru_t 19 [] ?_
  refine ru_t 20 [] ?_
  refine ru_t 21 [] ?_
  refine ru_t 22 [] ?_
  refine ru_t 23 [] ?_
  (try simp only [Act.put, List.setIfInBounds_toArray, List.set_cons_zero, List.set_cons_succ])
  clear hS109
  refine ru_one 24 rfl (by kernel_rfl) (fun K hK => ?_)
  go_simp
  refine (span_c 320 336 _).mono ?_
  rintro e w113 ⟨rfl, hg111⟩
  have hg111s := hg111.size
  (try simp at hg111s)
  have F114 := F108.gn hg111
  clear F108
  refine ru_back hK (by exact ⟨F114.cl 7 0 rfl rfl, F114.cl 7 1 rfl rfl, F114.cl 4 0 rfl rfl, F114.cl 4 1 rfl rfl, F114.cl 4 2 rfl rfl, F114.cl 4 3 rfl rfl, F114.cl 4 4 rfl rfl, F114.cl 4 5 rfl rfl, F114.cl 4 6 rfl rfl, F114.cl 4 7 rfl rfl, F114.cl 1 0 rfl rfl, F114.cl 1 1 rfl rfl⟩) (fun hHeld => ?_)
  clear hK K
  (try simp only [Act.put, List.setIfInBounds_toArray, List.set_cons_zero, List.set_cons_succ])
  refine ru_p 25 ?_
  (try simp only [Act.put, List.setIfInBounds_toArray, List.set_cons_zero, List.set_cons_succ])
  refine ru_p 26 ?_
  (try simp only [Act.put, List.setIfInBounds_toArray, List.set_cons_zero, List.set_cons_succ])
  refine ru_p 27 ?_
  (try simp only [Act.put, List.setIfInBounds_toArray, List.set_cons_zero, List.set_cons_succ])
  refine ru_p 28 ?_
  (try simp only [Act.put, List.setIfInBounds_toArray, List.set_cons_zero, List.set_cons_succ])
  refine ru_p 29 ?_
  (try simp only [Act.put, List.setIfInBounds_toArray, List.set_cons_zero, List.set_cons_succ])
  refine ru_p 30 ?_
  (try simp only [Act.put, List.setIfInBounds_toArray, List.set_cons_zero, List.set_cons_succ])
  refine ru_p 31 ?_
  (try simp only [Act.put, List.setIfInBounds_toArray, List.set_cons_zero, List.set_cons_succ])
  refine ru_p 32 ?_
  (try simp only [Act.put, List.setIfInBounds_toArray, List.set_cons_zero, List.set_cons_succ])
  refine ru_p 33 ?_
  (try simp only [Act.put, List.setIfInBounds_toArray, List.set_cons_zero, List.set_cons_succ])
  refine ru_p 34 ?_
  (try simp only [Act.put, List.setIfInBounds_toArray, List.set_cons_zero, List.set_cons_succ])
  refine ru_p 35 ?_
  (try simp only [Act.put, List.setIfInBounds_toArray, List.set_cons_zero, List.set_cons_succ])
  refine ru_t 36 [] ?_
  (try simp only [Act.put, List.setIfInBounds_toArray, List.set_cons_zero, List.set_cons_succ])
  refine ru_one 37 rfl (by kernel_rfl) (fun K hK => ?_)
  go_simp
  refine (span_c 305 310 _).mono ?_
  rintro e w117 ⟨rfl, hg115⟩
  have hg115s := hg115.size
  (try simp at hg115s)
  have F118 := F114.gn hg115
  clear F114
  refine ru_back hK (by exact ⟨F118.cl 7 0 rfl rfl, F118.cl 7 1 rfl rfl, F118.cl 4 0 rfl rfl, F118.cl 4 1 rfl rfl, F118.cl 4 2 rfl rfl, F118.cl 4 3 rfl rfl, F118.cl 4 4 rfl rfl, F118.cl 4 5 rfl rfl, F118.cl 4 6 rfl rfl, F118.cl 4 7 rfl rfl, F118.cl 1 0 rfl rfl, F118.cl 1 1 rfl rfl⟩) (fun hHeld => ?_)
  clear hK K
  (try simp only [Act.put, List.setIfInBounds_toArray, List.set_cons_zero, List.set_cons_succ])
  refine ru_p 38 ?_
  (try simp only [Act.put, List.setIfInBounds_toArray, List.set_cons_zero, List.set_cons_succ])
  refine ru_p 39 ?_
  (try simp only [Act.put, List.setIfInBounds_toArray, List.set_cons_zero, List.set_cons_succ])
  refine ru_p 40 ?_
  (try simp only [Act.put, List.setIfInBounds_toArray, List.set_cons_zero, List.set_cons_succ])
  refine ru_p 41 ?_
  (try simp only [Act.put, List.setIfInBounds_toArray, List.set_cons_zero, List.set_cons_succ])
  refine ru_t 42 [] ?_
  (try simp only [Act.put, List.setIfInBounds_toArray, List.set_cons_zero, List.set_cons_succ])
  refine ru_one 43 rfl (by kernel_rfl) (fun K hK => ?_)
  go_simp
  refine (span_c 10 60 _).mono ?_
  rintro e w121 ⟨rfl, hg119⟩
  have hg119s := hg119.size
  (try simp at hg119s)
  have F122 := F118.gn hg119
  clear F118
  refine ru_back hK (by exact ⟨F122.cl 7 0 rfl rfl, F122.cl 7 1 rfl rfl, F122.cl 4 0 rfl rfl, F122.cl 4 1 rfl rfl, F122.cl 4 2 rfl rfl, F122.cl 4 3 rfl rfl, F122.cl 4 4 rfl rfl, F122.cl 4 5 rfl rfl, F122.cl 4 6 rfl rfl, F122.cl 4 7 rfl rfl, F122.cl 1 0 rfl rfl, F122.cl 1 1 rfl rfl⟩) (fun hHeld => ?_)
  clear hK K
  (try simp only [Act.put, List.setIfInBounds_toArray, List.set_cons_zero, List.set_cons_succ])
  refine ru_p 44 ?_
  (try simp only [Act.put, List.setIfInBounds_toArray, List.set_cons_zero, List.set_cons_succ])
  refine ru_p 45 ?_
  (try simp only [Act.put, List.setIfInBounds_toArray, List.set_cons_zero, List.set_cons_succ])
  refine ru_p 46 ?_
  (try simp only [Act.put, List.setIfInBounds_toArray, List.set_cons_zero, List.set_cons_succ])
  refine ru_p 47 ?_
  (try simp only [Act.put, List.setIfInBounds_toArray, List.set_cons_zero, List.set_cons_succ])
  refine ru_p 48 ?_
  (try simp only [Act.put, List.setIfInBounds_toArray, List.set_cons_zero, List.set_cons_succ])
  refine ru_p 49 ?_
  (try simp only [Act.put, List.setIfInBounds_toArray, List.set_cons_zero, List.set_cons_succ])
  refine ru_one 50 rfl (by kernel_rfl) (fun K hK => ?_)
  go_simp
  refine ru_back_late hK (by kernel_rfl) ?_
  clear hK K
  (try simp only [Act.put, List.setIfInBounds_toArray, List.set_cons_zero, List.set_cons_succ])
  refine ru_done (by kernel_rfl) ?_
  have Fn_ := (((((((F122.drop 0 rfl).drop 0 rfl).drop 0 rfl).drop 0 rfl).drop 0 rfl).drop 0 rfl).drop 1 rfl)
  (try dsimp only [List.eraseIdx_cons_succ, List.eraseIdx_cons_zero] at Fn_)
  obtain ⟨w123, hx124, F126, hxs125⟩ := Fn_.name
  (try simp at hxs125)
  rw [hx124]
  clear hx124 F122 Fn_
  go_wp2_with fail
  go_ret
  exact ⟨rfl, F126.gb⟩

end Go.Proofs.YtgkjicejaalijaaDoor
