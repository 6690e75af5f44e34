/- FuelKnown walked. -/
import Derived.Test.YtcndphefomigeaaDoorPKn4
import Derived.Test.YtcndphefomigeaaDoorPG2
set_option linter.unusedVariables false
set_option linter.unusedSimpArgs false
set_option linter.unnecessarySimpa false
namespace Go.Proofs.YtcndphefomigeaaDoor
open Go.RowKit Go.Shelf
set_option maxRecDepth 100000
attribute [local go_sem] Oper.semAt_some

set_option maxHeartbeats 64000000 in
theorem known_walk  (w : World) (ht : Lib.TabIs Tryd.prog w powName .u64 Lib.pow10Tab) (hg : ∀ g, Tryd.prog.globalNamed powName = some g → g < w.heap.size) (hk : Gv w.heap.size w 0 kndC) :
    Calls Tryd.prog 3 #[] w (Ret (.bool true) w) := by
  have F1 : Bun w [] w := Bun.nil _
  have HTB := Lib.hid ht
  have HKN := Lib.hid hk
  clear ht hk
  have F2 := F1.gv0 HKN.out rfl
  clear F1
  have F3 := Bun.tab0 F2 HTB.out hg
  clear F2
  go_enter Tryd.func3, Tryd.ntmps3
  go_wp2_with fail
  refine (tank_b _).mono ?_
  rintro e w4 ⟨tA15, tM15, rfl, hB5⟩
  have hB5s := hB5.gb.size
  (try simp at hB5s)
  have F6 := F3.joinN (L2 := [rbox tA15 3 #[.int .i64 0, .int .i64 1000, .int .i64 2000], rbox tM15 3 #[.int .i64 0, .int .i64 5000, .int .i64 12000]]) hB5 rfl
  clear F3
  clear hB5
  (try dsimp only [List.cons_append, List.nil_append] at F6)
  go_wp2_with fail
  refine (one_c 1 _).mono ?_
  rintro e w9 ⟨rfl, hg7⟩
  have hg7s := hg7.size
  (try simp at hg7s)
  have F10 := F6.gn hg7
  clear F6
  clear hg7
  go_wp2_with fail
  refine (vol_x (Sl.ofB [0, 1000, 2000] (F10.at 0 rfl : Bk _ tA15 3 #[.int .i64 0, .int .i64 1000, .int .i64 2000]) rfl (fun _ => rfl) rfl (by decide)) (Sl.ofB [0, 5000, 12000] (F10.at 1 rfl : Bk _ tM15 3 #[.int .i64 0, .int .i64 5000, .int .i64 12000]) rfl (fun _ => rfl) rfl (by decide)) vol_1).mono ?_
  rintro e w13 ⟨rfl, hg11⟩
  have hg11s := hg11.size
  (try simp at hg11s)
  have F14 := F10.gn hg11
  clear F10
  clear hg11
  go_wp2_with fail
  have F15 := F14.new 23 #[.int .i64 5, .int .i64 5] (n := w13.heap.size) (by simp)
  clear F14
  refine (tank_b _).mono ?_
  rintro e w16 ⟨tA21, tM21, rfl, hB17⟩
  have hB17s := hB17.gb.size
  (try simp at hB17s)
  have F18 := F15.joinN (L2 := [rbox tA21 3 #[.int .i64 0, .int .i64 1000, .int .i64 2000], rbox tM21 3 #[.int .i64 0, .int .i64 5000, .int .i64 12000]]) hB17 rfl
  clear F15
  clear hB17
  (try dsimp only [List.cons_append, List.nil_append] at F18)
  go_wp2_with fail
  refine (span_c 0 2001 _).mono ?_
  rintro e w21 ⟨rfl, hg19⟩
  have hg19s := hg19.size
  (try simp at hg19s)
  have F22 := F18.gn hg19
  clear F18
  clear hg19
  go_wp2_with fail
  refine (vol_x (Sl.ofB [0, 1000, 2000] (F22.at 0 rfl : Bk _ tA21 3 #[.int .i64 0, .int .i64 1000, .int .i64 2000]) rfl (fun _ => rfl) rfl (by decide)) (Sl.ofB [0, 5000, 12000] (F22.at 1 rfl : Bk _ tM21 3 #[.int .i64 0, .int .i64 5000, .int .i64 12000]) rfl (fun _ => rfl) rfl (by decide)) vol_2).mono ?_
  rintro e w25 ⟨rfl, hg23⟩
  have hg23s := hg23.size
  (try simp at hg23s)
  have F26 := F22.gn hg23
  clear F22
  clear hg23
  go_wp2_with fail
  have F27 := F26.new 23 #[.int .i64 0, .int .i64 0] (n := w25.heap.size) (by simp)
  clear F26
  have F28 := F27.new 3 #[.int .i64 0, .int .i64 3] (n := (w25.heap.size + 1)) (by simp)
  clear F27
  have F29 := F28.new 3 #[.int .i64 0, .int .i64 10] (n := (w25.heap.size + 2)) (by simp)
  clear F28
  refine (one_c 1 _).mono ?_
  rintro e w32 ⟨rfl, hg30⟩
  have hg30s := hg30.size
  (try simp at hg30s)
  have F33 := F29.gn hg30
  clear F29
  clear hg30
  go_wp2_with fail
  refine (vol_x (Sl.ofB [0, 3] (F33.at 1 rfl : Bk _ (w25.heap.size + 1) 3 #[.int .i64 0, .int .i64 3]) rfl (fun _ => rfl) rfl (by decide)) (Sl.ofB [0, 10] (F33.at 0 rfl : Bk _ (w25.heap.size + 2) 3 #[.int .i64 0, .int .i64 10]) rfl (fun _ => rfl) rfl (by decide)) vol_3).mono ?_
  rintro e w36 ⟨rfl, hg34⟩
  have hg34s := hg34.size
  (try simp at hg34s)
  have F37 := F33.gn hg34
  clear F33
  clear hg34
  go_wp2_with fail
  have F38 := F37.new 23 #[.int .i64 3, .int .i64 4] (n := w36.heap.size) (by simp)
  clear F37
  refine (one_c 10000 _).mono ?_
  rintro e w41 ⟨rfl, hg39⟩
  have hg39s := hg39.size
  (try simp at hg39s)
  have F42 := F38.gn hg39
  clear F38
  clear hg39
  go_wp2_with fail
  refine (span_c 80 84 _).mono ?_
  rintro e w45 ⟨rfl, hg43⟩
  have hg43s := hg43.size
  (try simp at hg43s)
  have F46 := F42.gn hg43
  clear F42
  clear hg43
  go_wp2_with fail
  refine (one_c 250 _).mono ?_
  rintro e w49 ⟨rfl, hg47⟩
  have hg47s := hg47.size
  (try simp at hg47s)
  have F50 := F46.gn hg47
  clear F46
  clear hg47
  go_wp2_with fail
  refine (std_x std_1).mono ?_
  rintro e w53 ⟨rfl, hg51⟩
  have hg51s := hg51.size
  (try simp at hg51s)
  have F54 := F50.gn hg51
  clear F50
  clear hg51
  go_wp2_with fail
  have F55 := F54.new 23 #[.int .i64 9916, .int .i64 9920] (n := w53.heap.size) (by simp)
  clear F54
  refine (one_c 10000 _).mono ?_
  rintro e w58 ⟨rfl, hg56⟩
  have hg56s := hg56.size
  (try simp at hg56s)
  have F59 := F55.gn hg56
  clear F55
  clear hg56
  go_wp2_with fail
  refine (span_c 80 84 _).mono ?_
  rintro e w62 ⟨rfl, hg60⟩
  have hg60s := hg60.size
  (try simp at hg60s)
  have F63 := F59.gn hg60
  clear F59
  clear hg60
  go_wp2_with fail
  refine (one_c (-100) _).mono ?_
  rintro e w66 ⟨rfl, hg64⟩
  have hg64s := hg64.size
  (try simp at hg64s)
  have F67 := F63.gn hg64
  clear F63
  clear hg64
  go_wp2_with fail
  refine (std_x std_2).mono ?_
  rintro e w70 ⟨rfl, hg68⟩
  have hg68s := hg68.size
  (try simp at hg68s)
  have F71 := F67.gn hg68
  clear F67
  clear hg68
  go_wp2_with fail
  have F72 := F71.new 23 #[.int .i64 10200, .int .i64 10210] (n := w70.heap.size) (by simp)
  clear F71
  have Fn_ := (((((((F72.drop 3 rfl).drop 3 rfl).drop 3 rfl).drop 3 rfl).drop 3 rfl).drop 4 rfl).drop 4 rfl)
  (try dsimp only [List.eraseIdx_cons_succ, List.eraseIdx_cons_zero] at Fn_)
  obtain ⟨w73, hx74, F76, hxs75⟩ := Fn_.name
  (try simp at hxs75)
  rw [hx74]
  clear hx74 F72 Fn_
  have F77 := F76.drew
  clear F76
  refine ru_begin (fun W => W.cell? ⟨w13.heap.size, 0, none⟩ = some (.int .i64 5) ∧ W.cell? ⟨w13.heap.size, 1, none⟩ = some (.int .i64 5) ∧ W.cell? ⟨w36.heap.size, 0, none⟩ = some (.int .i64 3) ∧ W.cell? ⟨w36.heap.size, 1, none⟩ = some (.int .i64 4) ∧ W.cell? ⟨w53.heap.size, 0, none⟩ = some (.int .i64 9916) ∧ W.cell? ⟨w53.heap.size, 1, none⟩ = some (.int .i64 9920) ∧ W.cell? ⟨w70.heap.size, 0, none⟩ = some (.int .i64 10200) ∧ W.cell? ⟨w70.heap.size, 1, none⟩ = some (.int .i64 10210)) 41 (by kernel_rfl) ?_ ?_
  · exact ⟨F77.cl 3 0 rfl rfl, F77.cl 3 1 rfl rfl, F77.cl 2 0 rfl rfl, F77.cl 2 1 rfl rfl, F77.cl 1 0 rfl rfl, F77.cl 1 1 rfl rfl, F77.cl 0 0 rfl rfl, F77.cl 0 1 rfl rfl⟩
  obtain ⟨wd79, hwd_⟩ : ∃ x : World, w73.drew = x := ⟨_, rfl⟩
  rw [hwd_] at F77 ⊢
  have wd79s : w73.heap.size ≤ wd79.heap.size := by rw [← hwd_]; exact Nat.le_refl _
  clear hwd_
  refine ru_one 0 rfl (by kernel_rfl) (fun K hK => ?_)
  go_simp
  refine (awake_c _).mono ?_
  rintro e w82 ⟨rfl, hg80⟩
  have hg80s := hg80.size
  (try simp at hg80s)
  have F83 := F77.gn hg80
  clear F77
  refine ru_back hK (by exact ⟨F83.cl 3 0 rfl rfl, F83.cl 3 1 rfl rfl, F83.cl 2 0 rfl rfl, F83.cl 2 1 rfl rfl, F83.cl 1 0 rfl rfl, F83.cl 1 1 rfl rfl, F83.cl 0 0 rfl rfl, F83.cl 0 1 rfl rfl⟩) (fun hHeld => ?_)
  clear hK K
  (try simp only [Act.put, List.setIfInBounds_toArray, List.set_cons_zero, List.set_cons_succ])
  refine ru_p 1 ?_
  (try simp only [Act.put, List.setIfInBounds_toArray, List.set_cons_zero, List.set_cons_succ])
  refine ru_p 2 ?_
  (try simp only [Act.put, List.setIfInBounds_toArray, List.set_cons_zero, List.set_cons_succ])
  refine ru_p 3 ?_
  (try simp only [Act.put, List.setIfInBounds_toArray, List.set_cons_zero, List.set_cons_succ])
  refine ru_p 4 ?_
  (try simp only [Act.put, List.setIfInBounds_toArray, List.set_cons_zero, List.set_cons_succ])
  refine ru_p 5 ?_
  (try simp only [Act.put, List.setIfInBounds_toArray, List.set_cons_zero, List.set_cons_succ])
  refine ru_p 6 ?_
  (try simp only [Act.put, List.setIfInBounds_toArray, List.set_cons_zero, List.set_cons_succ])
  refine ru_p 7 ?_
  (try simp only [Act.put, List.setIfInBounds_toArray, List.set_cons_zero, List.set_cons_succ])
  refine ru_p 8 ?_
  (try simp only [Act.put, List.setIfInBounds_toArray, List.set_cons_zero, List.set_cons_succ])
  refine ru_p 9 ?_
  (try simp only [Act.put, List.setIfInBounds_toArray, List.set_cons_zero, List.set_cons_succ])
  refine ru_p 10 ?_
  (try simp only [Act.put, List.setIfInBounds_toArray, List.set_cons_zero, List.set_cons_succ])
  refine ru_p 11 ?_
  (try simp only [Act.put, List.setIfInBounds_toArray, List.set_cons_zero, List.set_cons_succ])
  refine ru_p 12 ?_
  (try simp only [Act.put, List.setIfInBounds_toArray, List.set_cons_zero, List.set_cons_succ])
  refine ru_p 13 ?_
  (try simp only [Act.put, List.setIfInBounds_toArray, List.set_cons_zero, List.set_cons_succ])
  refine ru_p 14 ?_
  (try simp only [Act.put, List.setIfInBounds_toArray, List.set_cons_zero, List.set_cons_succ])
  refine ru_p 15 ?_
  (try simp only [Act.put, List.setIfInBounds_toArray, List.set_cons_zero, List.set_cons_succ])
  refine ru_p 16 ?_
  (try simp only [Act.put, List.setIfInBounds_toArray, List.set_cons_zero, List.set_cons_succ])
  refine ru_p 17 ?_
  (try simp only [Act.put, List.setIfInBounds_toArray, List.set_cons_zero, List.set_cons_succ])
  refine ru_p 18 ?_
  (try simp only [Act.put, List.setIfInBounds_toArray, List.set_cons_zero, List.set_cons_succ])
  refine ru_p 19 ?_
  (try simp only [Act.put, List.setIfInBounds_toArray, List.set_cons_zero, List.set_cons_succ])
  refine ru_p 20 ?_
  (try simp only [Act.put, List.setIfInBounds_toArray, List.set_cons_zero, List.set_cons_succ])
  refine ru_p 21 ?_
  (try simp only [Act.put, List.setIfInBounds_toArray, List.set_cons_zero, List.set_cons_succ])
  refine ru_p 22 ?_
  (try simp only [Act.put, List.setIfInBounds_toArray, List.set_cons_zero, List.set_cons_succ])
  refine ru_t 23 [37, 34, 32, 29, 27, 26, 25] ?_
  (try simp only [Act.put, List.setIfInBounds_toArray, List.set_cons_zero, List.set_cons_succ])
  refine ru_one 24 rfl (by kernel_rfl) (fun K hK => ?_)
  go_simp
  refine (one_c 5 _).mono ?_
  rintro e w86 ⟨rfl, hg84⟩
  have hg84s := hg84.size
  (try simp at hg84s)
  have F87 := F83.gn hg84
  clear F83
  refine ru_back hK (by exact ⟨F87.cl 3 0 rfl rfl, F87.cl 3 1 rfl rfl, F87.cl 2 0 rfl rfl, F87.cl 2 1 rfl rfl, F87.cl 1 0 rfl rfl, F87.cl 1 1 rfl rfl, F87.cl 0 0 rfl rfl, F87.cl 0 1 rfl rfl⟩) (fun hHeld => ?_)
  clear hK K
  (try simp only [Act.put, List.setIfInBounds_toArray, List.set_cons_zero, List.set_cons_succ])
  refine ru_p 25 ?_
  (try simp only [Act.put, List.setIfInBounds_toArray, List.set_cons_zero, List.set_cons_succ])
  refine ru_p 26 ?_
  (try simp only [Act.put, List.setIfInBounds_toArray, List.set_cons_zero, List.set_cons_succ])
  refine ru_p 27 ?_
  (try simp only [Act.put, List.setIfInBounds_toArray, List.set_cons_zero, List.set_cons_succ])
  refine ru_t 28 [37, 34, 32, 31, 30] ?_
  (try simp only [Act.put, List.setIfInBounds_toArray, List.set_cons_zero, List.set_cons_succ])
  refine ru_one 29 rfl (by kernel_rfl) (fun K hK => ?_)
  go_simp
  refine (span_c 3 4 _).mono ?_
  rintro e w90 ⟨rfl, hg88⟩
  have hg88s := hg88.size
  (try simp at hg88s)
  have F91 := F87.gn hg88
  clear F87
  refine ru_back hK (by exact ⟨F91.cl 3 0 rfl rfl, F91.cl 3 1 rfl rfl, F91.cl 2 0 rfl rfl, F91.cl 2 1 rfl rfl, F91.cl 1 0 rfl rfl, F91.cl 1 1 rfl rfl, F91.cl 0 0 rfl rfl, F91.cl 0 1 rfl rfl⟩) (fun hHeld => ?_)
  clear hK K
  (try simp only [Act.put, List.setIfInBounds_toArray, List.set_cons_zero, List.set_cons_succ])
  refine ru_p 30 ?_
  (try simp only [Act.put, List.setIfInBounds_toArray, List.set_cons_zero, List.set_cons_succ])
  refine ru_p 31 ?_
  (try simp only [Act.put, List.setIfInBounds_toArray, List.set_cons_zero, List.set_cons_succ])
  refine ru_p 32 ?_
  (try simp only [Act.put, List.setIfInBounds_toArray, List.set_cons_zero, List.set_cons_succ])
  refine ru_t 33 [37, 36, 35] ?_
  (try simp only [Act.put, List.setIfInBounds_toArray, List.set_cons_zero, List.set_cons_succ])
  refine ru_one 34 rfl (by kernel_rfl) (fun K hK => ?_)
  go_simp
  refine (span_c 9916 9920 _).mono ?_
  rintro e w94 ⟨rfl, hg92⟩
  have hg92s := hg92.size
  (try simp at hg92s)
  have F95 := F91.gn hg92
  clear F91
  refine ru_back hK (by exact ⟨F95.cl 3 0 rfl rfl, F95.cl 3 1 rfl rfl, F95.cl 2 0 rfl rfl, F95.cl 2 1 rfl rfl, F95.cl 1 0 rfl rfl, F95.cl 1 1 rfl rfl, F95.cl 0 0 rfl rfl, F95.cl 0 1 rfl rfl⟩) (fun hHeld => ?_)
  clear hK K
  (try simp only [Act.put, List.setIfInBounds_toArray, List.set_cons_zero, List.set_cons_succ])
  refine ru_p 35 ?_
  (try simp only [Act.put, List.setIfInBounds_toArray, List.set_cons_zero, List.set_cons_succ])
  refine ru_p 36 ?_
  (try simp only [Act.put, List.setIfInBounds_toArray, List.set_cons_zero, List.set_cons_succ])
  refine ru_p 37 ?_
  (try simp only [Act.put, List.setIfInBounds_toArray, List.set_cons_zero, List.set_cons_succ])
  refine ru_t 38 [40] ?_
  (try simp only [Act.put, List.setIfInBounds_toArray, List.set_cons_zero, List.set_cons_succ])
  refine ru_one 39 rfl (by kernel_rfl) (fun K hK => ?_)
  go_simp
  refine (span_c 10200 10210 _).mono ?_
  rintro e w98 ⟨rfl, hg96⟩
  have hg96s := hg96.size
  (try simp at hg96s)
  have F99 := F95.gn hg96
  clear F95
  refine ru_back hK (by exact ⟨F99.cl 3 0 rfl rfl, F99.cl 3 1 rfl rfl, F99.cl 2 0 rfl rfl, F99.cl 2 1 rfl rfl, F99.cl 1 0 rfl rfl, F99.cl 1 1 rfl rfl, F99.cl 0 0 rfl rfl, F99.cl 0 1 rfl rfl⟩) (fun hHeld => ?_)
  clear hK K
  (try simp only [Act.put, List.setIfInBounds_toArray, List.set_cons_zero, List.set_cons_succ])
  refine ru_p 40 ?_
  (try simp only [Act.put, List.setIfInBounds_toArray, List.set_cons_zero, List.set_cons_succ])
  refine ru_one 41 rfl (by kernel_rfl) (fun K hK => ?_)
  go_simp
  refine ru_back_late hK (by kernel_rfl) ?_
  clear hK K
  (try simp only [Act.put, List.setIfInBounds_toArray, List.set_cons_zero, List.set_cons_succ])
  refine ru_done (by kernel_rfl) ?_
  have Fn_ := ((((F99.drop 0 rfl).drop 0 rfl).drop 0 rfl).drop 0 rfl)
  (try dsimp only [List.eraseIdx_cons_succ, List.eraseIdx_cons_zero] at Fn_)
  obtain ⟨w100, hx101, F103, hxs102⟩ := Fn_.name
  (try simp at hxs102)
  rw [hx101]
  clear hx101 F99 Fn_
  go_wp2_with fail
  refine (book_b _).mono ?_
  rintro e w104 ⟨gA90, gM90, rfl, hB105⟩
  have hB105s := hB105.gb.size
  (try simp at hB105s)
  have F106 := F103.joinN (L2 := [rbox gA90 41 #[.string ⟨#[114, 97, 99, 107]⟩, .int .i64 1, .int .i64 1000, .int .i64 1000, .int .i64 600, .int .i64 610, .string ⟨#[99, 97, 109, 112]⟩, .int .i64 1, .int .i64 100, .int .i64 110, .int .i64 480, .int .i64 490, .string ⟨#[103, 114, 111, 117, 110, 100]⟩, .int .i64 2, .int .i64 0, .int .i64 0, .int .i64 0, .int .i64 5], rbox gM90 43 #[.int .i64 0, .int .i64 1, .int .i64 390, .int .i64 400]]) hB105 rfl
  clear F103
  clear hB105
  (try dsimp only [List.cons_append, List.nil_append] at F106)
  go_wp2_with fail
  refine (book_b _).mono ?_
  rintro e w107 ⟨gA91, gM91, rfl, hB108⟩
  have hB108s := hB108.gb.size
  (try simp at hB108s)
  have F109 := F106.joinN (L2 := [rbox gA91 41 #[.string ⟨#[114, 97, 99, 107]⟩, .int .i64 1, .int .i64 1000, .int .i64 1000, .int .i64 600, .int .i64 610, .string ⟨#[99, 97, 109, 112]⟩, .int .i64 1, .int .i64 100, .int .i64 110, .int .i64 480, .int .i64 490, .string ⟨#[103, 114, 111, 117, 110, 100]⟩, .int .i64 2, .int .i64 0, .int .i64 0, .int .i64 0, .int .i64 5], rbox gM91 43 #[.int .i64 0, .int .i64 1, .int .i64 390, .int .i64 400]]) hB108 rfl
  clear F106
  clear hB108
  (try dsimp only [List.cons_append, List.nil_append] at F109)
  go_wp2_with fail
  refine (book_b _).mono ?_
  rintro e w110 ⟨gA92, gM92, rfl, hB111⟩
  have hB111s := hB111.gb.size
  (try simp at hB111s)
  have F112 := F109.joinN (L2 := [rbox gA92 41 #[.string ⟨#[114, 97, 99, 107]⟩, .int .i64 1, .int .i64 1000, .int .i64 1000, .int .i64 600, .int .i64 610, .string ⟨#[99, 97, 109, 112]⟩, .int .i64 1, .int .i64 100, .int .i64 110, .int .i64 480, .int .i64 490, .string ⟨#[103, 114, 111, 117, 110, 100]⟩, .int .i64 2, .int .i64 0, .int .i64 0, .int .i64 0, .int .i64 5], rbox gM92 43 #[.int .i64 0, .int .i64 1, .int .i64 390, .int .i64 400]]) hB111 rfl
  clear F109
  clear hB111
  (try dsimp only [List.cons_append, List.nil_append] at F112)
  go_wp2_with fail
  have F113 := F112.new 38 #[.slice (some ⟨gA90, 0, none⟩) 3 3, .slice (some ⟨gM90, 0, none⟩) 1 1] (n := w110.heap.size) (by simp)
  clear F112
  have F114 := F113.new 38 #[.slice (some ⟨gA91, 0, none⟩) 3 3, .slice (some ⟨gM91, 0, none⟩) 1 1] (n := (w110.heap.size + 1)) (by simp)
  clear F113
  have F115 := F114.new 38 #[.slice (some ⟨gA92, 0, none⟩) 3 3, .slice (some ⟨gM92, 0, none⟩) 1 1] (n := (w110.heap.size + 2)) (by simp)
  clear F114
  have Fn_ := F115
  (try dsimp only [List.eraseIdx_cons_succ, List.eraseIdx_cons_zero] at Fn_)
  obtain ⟨w116, hx117, F119, hxs118⟩ := Fn_.name
  (try simp at hxs118)
  rw [hx117]
  clear hx117 F115 Fn_
  have F120 := F119.drew
  clear F119
  refine ru_begin (fun W => W.cell? ⟨w110.heap.size, 0, none⟩ = some (.slice (some ⟨gA90, 0, none⟩) 3 3) ∧ W.cell? ⟨(w110.heap.size + 1), 0, none⟩ = some (.slice (some ⟨gA91, 0, none⟩) 3 3) ∧ W.cell? ⟨(w110.heap.size + 2), 1, none⟩ = some (.slice (some ⟨gM92, 0, none⟩) 1 1)) 15 (by kernel_rfl) ?_ ?_
  · exact ⟨F120.cl 2 0 rfl rfl, F120.cl 1 0 rfl rfl, F120.cl 0 1 rfl rfl⟩
  obtain ⟨wd122, hwd_⟩ : ∃ x : World, w116.drew = x := ⟨_, rfl⟩
  rw [hwd_] at F120 ⊢
  have wd122s : w116.heap.size ≤ wd122.heap.size := by rw [← hwd_]; exact Nat.le_refl _
  clear hwd_
  have hS121 := (And.intro (F120.cl 2 0 rfl rfl) (And.intro (F120.cl 1 0 rfl rfl) (F120.cl 0 1 rfl rfl)))
  refine ru_t 0 [] ?_
  refine ru_t 1 [] ?_
  refine ru_t 2 [] ?_
  refine ru_t 3 [] ?_
  refine ru_t 4 [] ?_
  refine ru_t 5 [] ?_
  (try simp only [Act.put, List.setIfInBounds_toArray, List.set_cons_zero, List.set_cons_succ])
  clear hS121
  refine ru_one 6 rfl (by kernel_rfl) (fun K hK => ?_)
  go_simp
  refine (span_c 515 520 _).mono ?_
  rintro e w125 ⟨rfl, hg123⟩
  have hg123s := hg123.size
  (try simp at hg123s)
  have F126 := F120.gn hg123
  clear F120
  refine ru_back hK (by exact ⟨F126.cl 2 0 rfl rfl, F126.cl 1 0 rfl rfl, F126.cl 0 1 rfl rfl⟩) (fun hHeld => ?_)
  clear hK K
  (try simp only [Act.put, List.setIfInBounds_toArray, List.set_cons_zero, List.set_cons_succ])
  refine ru_p 7 ?_
  (try simp only [Act.put, List.setIfInBounds_toArray, List.set_cons_zero, List.set_cons_succ])
  refine ru_p 8 ?_
  (try simp only [Act.put, List.setIfInBounds_toArray, List.set_cons_zero, List.set_cons_succ])
  refine ru_one 9 rfl (by kernel_rfl) (fun K hK => ?_)
  have kb_ := F126.bx18 7 rfl
  go_simp
  clear kb_
  have F127 := ((F126.front 7 rfl rfl).set 10 (.int .i64 515)).nf #[.string ⟨#[114, 97, 99, 107]⟩, .int .i64 1, .int .i64 1000, .int .i64 1000, .int .i64 600, .int .i64 610, .string ⟨#[99, 97, 109, 112]⟩, .int .i64 1, .int .i64 100, .int .i64 110, .int .i64 515, .int .i64 490, .string ⟨#[103, 114, 111, 117, 110, 100]⟩, .int .i64 2, .int .i64 0, .int .i64 0, .int .i64 0, .int .i64 5] rfl
  clear F126
  have F128 := (F127.set 11 (.int .i64 520)).nf #[.string ⟨#[114, 97, 99, 107]⟩, .int .i64 1, .int .i64 1000, .int .i64 1000, .int .i64 600, .int .i64 610, .string ⟨#[99, 97, 109, 112]⟩, .int .i64 1, .int .i64 100, .int .i64 110, .int .i64 515, .int .i64 520, .string ⟨#[103, 114, 111, 117, 110, 100]⟩, .int .i64 2, .int .i64 0, .int .i64 0, .int .i64 0, .int .i64 5] rfl
  clear F127
  refine ru_back hK (by exact ⟨F128.cl 3 0 rfl rfl, F128.cl 2 0 rfl rfl, F128.cl 1 1 rfl rfl⟩) (fun hHeld => ?_)
  clear hK K
  (try simp only [Act.put, List.setIfInBounds_toArray, List.set_cons_zero, List.set_cons_succ])
  refine ru_p 10 ?_
  (try simp only [Act.put, List.setIfInBounds_toArray, List.set_cons_zero, List.set_cons_succ])
  refine ru_p 11 ?_
  (try simp only [Act.put, List.setIfInBounds_toArray, List.set_cons_zero, List.set_cons_succ])
  refine ru_one 12 rfl (by kernel_rfl) (fun K hK => ?_)
  have kb_ := F128.bx18 6 rfl
  go_simp
  clear kb_
  have F129 := ((F128.front 6 rfl rfl).set 6 (.string ⟨#[114, 97, 99, 107]⟩)).nf #[.string ⟨#[114, 97, 99, 107]⟩, .int .i64 1, .int .i64 1000, .int .i64 1000, .int .i64 600, .int .i64 610, .string ⟨#[114, 97, 99, 107]⟩, .int .i64 1, .int .i64 100, .int .i64 110, .int .i64 480, .int .i64 490, .string ⟨#[103, 114, 111, 117, 110, 100]⟩, .int .i64 2, .int .i64 0, .int .i64 0, .int .i64 0, .int .i64 5] rfl
  clear F128
  refine ru_back hK (by exact ⟨F129.cl 4 0 rfl rfl, F129.cl 3 0 rfl rfl, F129.cl 2 1 rfl rfl⟩) (fun hHeld => ?_)
  clear hK K
  (try simp only [Act.put, List.setIfInBounds_toArray, List.set_cons_zero, List.set_cons_succ])
  refine ru_p 13 ?_
  (try simp only [Act.put, List.setIfInBounds_toArray, List.set_cons_zero, List.set_cons_succ])
  refine ru_p 14 ?_
  (try simp only [Act.put, List.setIfInBounds_toArray, List.set_cons_zero, List.set_cons_succ])
  refine ru_one 15 rfl (by kernel_rfl) (fun K hK => ?_)
  have kb_ := F129.bx4 6 rfl
  go_simp
  clear kb_
  have F130 := ((F129.front 6 rfl rfl).set 0 (.int .i64 1)).nf #[.int .i64 1, .int .i64 1, .int .i64 390, .int .i64 400] rfl
  clear F129
  refine ru_back_late hK (by kernel_rfl) ?_
  clear hK K
  (try simp only [Act.put, List.setIfInBounds_toArray, List.set_cons_zero, List.set_cons_succ])
  refine ru_done (by kernel_rfl) ?_
  have Fn_ := F130
  (try dsimp only [List.eraseIdx_cons_succ, List.eraseIdx_cons_zero] at Fn_)
  obtain ⟨w131, hx132, F134, hxs133⟩ := Fn_.name
  (try simp at hxs133)
  rw [hx132]
  clear hx132 F130 Fn_
  go_wp2_with fail
  refine (book_b _).mono ?_
  rintro e w135 ⟨gA106, gM106, rfl, hB136⟩
  have hB136s := hB136.gb.size
  (try simp at hB136s)
  have F137 := F134.joinN (L2 := [rbox gA106 41 #[.string ⟨#[114, 97, 99, 107]⟩, .int .i64 1, .int .i64 1000, .int .i64 1000, .int .i64 600, .int .i64 610, .string ⟨#[99, 97, 109, 112]⟩, .int .i64 1, .int .i64 100, .int .i64 110, .int .i64 480, .int .i64 490, .string ⟨#[103, 114, 111, 117, 110, 100]⟩, .int .i64 2, .int .i64 0, .int .i64 0, .int .i64 0, .int .i64 5], rbox gM106 43 #[.int .i64 0, .int .i64 1, .int .i64 390, .int .i64 400]]) hB136 rfl
  clear F134
  clear hB136
  (try dsimp only [List.cons_append, List.nil_append] at F137)
  go_wp2_with fail
  refine (check_x (b := bookB) (hasB_of (b := bookB) (F137.at 0 rfl : Bk _ gA106 41 #[.string ⟨#[114, 97, 99, 107]⟩, .int .i64 1, .int .i64 1000, .int .i64 1000, .int .i64 600, .int .i64 610, .string ⟨#[99, 97, 109, 112]⟩, .int .i64 1, .int .i64 100, .int .i64 110, .int .i64 480, .int .i64 490, .string ⟨#[103, 114, 111, 117, 110, 100]⟩, .int .i64 2, .int .i64 0, .int .i64 0, .int .i64 0, .int .i64 5]) (F137.at 1 rfl : Bk _ gM106 43 #[.int .i64 0, .int .i64 1, .int .i64 390, .int .i64 400]) rfl rfl rfl rfl (by decide) (by decide)) (by decide) bookB_check).mono ?_
  rintro e w140 ⟨rfl, hg138⟩
  have hg138s := hg138.size
  (try simp at hg138s)
  have F141 := F137.gn hg138
  clear F137
  clear hg138
  have b142 := F141.bx2 7 rfl
  go_wp2_with fail
  clear b142
  refine (check_x (b := bookK) (hasB_of (b := bookK) (F141.at 4 rfl : Bk _ gA90 41 #[.string ⟨#[114, 97, 99, 107]⟩, .int .i64 1, .int .i64 1000, .int .i64 1000, .int .i64 600, .int .i64 610, .string ⟨#[99, 97, 109, 112]⟩, .int .i64 1, .int .i64 100, .int .i64 110, .int .i64 515, .int .i64 520, .string ⟨#[103, 114, 111, 117, 110, 100]⟩, .int .i64 2, .int .i64 0, .int .i64 0, .int .i64 0, .int .i64 5]) (F141.at 10 rfl : Bk _ gM90 43 #[.int .i64 0, .int .i64 1, .int .i64 390, .int .i64 400]) rfl rfl rfl rfl (by decide) (by decide)) (by decide) bookK_e).mono ?_
  rintro e w145 ⟨rfl, hg143⟩
  have hg143s := hg143.size
  (try simp at hg143s)
  have F146 := F141.gn hg143
  clear F141
  clear hg143
  have b147 := F146.bx2 6 rfl
  go_wp2_with fail
  clear b147
  refine (check_x (b := bookW) (hasB_of (b := bookW) (F146.at 3 rfl : Bk _ gA91 41 #[.string ⟨#[114, 97, 99, 107]⟩, .int .i64 1, .int .i64 1000, .int .i64 1000, .int .i64 600, .int .i64 610, .string ⟨#[114, 97, 99, 107]⟩, .int .i64 1, .int .i64 100, .int .i64 110, .int .i64 480, .int .i64 490, .string ⟨#[103, 114, 111, 117, 110, 100]⟩, .int .i64 2, .int .i64 0, .int .i64 0, .int .i64 0, .int .i64 5]) (F146.at 9 rfl : Bk _ gM91 43 #[.int .i64 0, .int .i64 1, .int .i64 390, .int .i64 400]) rfl rfl rfl rfl (by decide) (by decide)) (by decide) bookW_e).mono ?_
  rintro e w150 ⟨rfl, hg148⟩
  have hg148s := hg148.size
  (try simp at hg148s)
  have F151 := F146.gn hg148
  clear F146
  clear hg148
  have b152 := F151.bx2 5 rfl
  go_wp2_with fail
  clear b152
  refine (check_x (b := bookS) (hasB_of (b := bookS) (F151.at 8 rfl : Bk _ gA92 41 #[.string ⟨#[114, 97, 99, 107]⟩, .int .i64 1, .int .i64 1000, .int .i64 1000, .int .i64 600, .int .i64 610, .string ⟨#[99, 97, 109, 112]⟩, .int .i64 1, .int .i64 100, .int .i64 110, .int .i64 480, .int .i64 490, .string ⟨#[103, 114, 111, 117, 110, 100]⟩, .int .i64 2, .int .i64 0, .int .i64 0, .int .i64 0, .int .i64 5]) (F151.at 2 rfl : Bk _ gM92 43 #[.int .i64 1, .int .i64 1, .int .i64 390, .int .i64 400]) rfl rfl rfl rfl (by decide) (by decide)) (by decide) bookS_e).mono ?_
  rintro e w155 ⟨rfl, hg153⟩
  have hg153s := hg153.size
  (try simp at hg153s)
  have F156 := F151.gn hg153
  clear F151
  clear hg153
  go_wp2_with fail
  refine (balanced_c _).mono ?_
  rintro e w159 ⟨rfl, hg157⟩
  have hg157s := hg157.size
  (try simp at hg157s)
  have F160 := F156.gn hg157
  clear F156
  clear hg157
  go_wp2_with fail
  refine (posted_c _ (F160.at 11 rfl : _ ∧ Lib.TabIs Tryd.prog _ powName .u64 Lib.pow10Tab).2 (fun g_ e_ => Nat.lt_of_lt_of_le (hg g_ e_) F160.gb.size) (F160.at 12 rfl : Gv w.heap.size _ 0 kndC).now).mono ?_
  rintro e w163 ⟨rfl, hg161⟩
  have hg161s := hg161.size
  (try simp at hg161s)
  have F164 := F160.gn hg161
  clear F160
  clear hg161
  go_wp2_with fail
  go_ret
  exact ⟨rfl, F164.gb⟩

end Go.Proofs.YtcndphefomigeaaDoor
