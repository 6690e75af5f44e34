/- fuel: the chapter's examples of truths and of what is missing. -/
import Derived.Test.YtcndphefomigeaaDoorPKn2
import Derived.Test.YtcndphefomigeaaDoorPK1
set_option linter.unusedVariables false
set_option linter.unusedSimpArgs false
set_option linter.unnecessarySimpa false
namespace Go.Proofs.YtcndphefomigeaaDoor
open Go.RowKit Go.Shelf
set_option maxRecDepth 100000
attribute [local go_sem] Oper.semAt_some

set_option maxHeartbeats 32000000 in
theorem balanced_c  (w : World)  :
    Calls Tryd.prog 13 #[] w (Ret (.bool true) w) := by
  have F1 : Bun w [] w := Bun.nil _
  go_enter Tryd.func13, Tryd.ntmps13
  go_wp2_with fail
  have F2 := F1.new 3 #[.int .i64 1000, .int .i64 100, .int .i64 0] (n := w.heap.size) (by simp)
  clear F1
  have F3 := F2.new 3 #[.int .i64 605, .int .i64 485, .int .i64 0] (n := (w.heap.size + 1)) (by simp)
  clear F2
  have F4 := F3.new 3 #[.int .i64 392] (n := (w.heap.size + 2)) (by simp)
  clear F3
  have F5 := F4.new 46 #[.slice (some ⟨w.heap.size, 0, none⟩) 3 3, .slice (some ⟨w.heap.size + 1, 0, none⟩) 3 3, .slice (some ⟨w.heap.size + 2, 0, none⟩) 1 1] (n := (w.heap.size + 3)) (by simp)
  clear F4
  have Fn_ := F5
  (try dsimp only [List.eraseIdx_cons_succ, List.eraseIdx_cons_zero] at Fn_)
  obtain ⟨w6, hx7, F9, hxs8⟩ := Fn_.name
  (try simp at hxs8)
  rw [hx7]
  clear hx7 F5 Fn_
  have F10 := F9.drew
  clear F9
  refine ru_begin (fun W => W.cell? ⟨(w.heap.size + 3), 0, none⟩ = some (.slice (some ⟨w.heap.size, 0, none⟩) 3 3) ∧ W.cell? ⟨(w.heap.size + 3), 1, none⟩ = some (.slice (some ⟨w.heap.size + 1, 0, none⟩) 3 3) ∧ W.cell? ⟨(w.heap.size + 3), 2, none⟩ = some (.slice (some ⟨w.heap.size + 2, 0, none⟩) 1 1)) 7 (by kernel_rfl) ?_ ?_
  · exact ⟨F10.cl 0 0 rfl rfl, F10.cl 0 1 rfl rfl, F10.cl 0 2 rfl rfl⟩
  obtain ⟨wd12, hwd_⟩ : ∃ x : World, w6.drew = x := ⟨_, rfl⟩
  rw [hwd_] at F10 ⊢
  have wd12s : w6.heap.size ≤ wd12.heap.size := by rw [← hwd_]; exact Nat.le_refl _
  clear hwd_
  have hS11 := (And.intro (F10.cl 0 0 rfl rfl) (And.intro (F10.cl 0 1 rfl rfl) (F10.cl 0 2 rfl rfl)))
  refine ru_t 1 [] ?_
  (try simp only [Act.put, List.setIfInBounds_toArray, List.set_cons_zero, List.set_cons_succ])
  clear hS11
  refine ru_one 0 rfl (by kernel_rfl) (fun K hK => ?_)
  go_simp
  refine (book_b _).mono ?_
  rintro e w13 ⟨gA16, gM16, rfl, hB14⟩
  have hB14s := hB14.gb.size
  (try simp at hB14s)
  have F15 := F10.joinN (L2 := [rbox gA16 41 #[.string ⟨#[114, 97, 99, 107]⟩, .int .i64 1, .int .i64 1000, .int .i64 1000, .int .i64 600, .int .i64 610, .string ⟨#[99, 97, 109, 112]⟩, .int .i64 1, .int .i64 100, .int .i64 110, .int .i64 480, .int .i64 490, .string ⟨#[103, 114, 111, 117, 110, 100]⟩, .int .i64 2, .int .i64 0, .int .i64 0, .int .i64 0, .int .i64 5], rbox gM16 43 #[.int .i64 0, .int .i64 1, .int .i64 390, .int .i64 400]]) hB14 rfl
  clear F10
  clear hB14
  (try dsimp only [List.cons_append, List.nil_append] at F15)
  refine ru_back hK (by exact ⟨F15.cl 2 0 rfl rfl, F15.cl 2 1 rfl rfl, F15.cl 2 2 rfl rfl⟩) (fun hHeld => ?_)
  clear hK K
  (try simp only [Act.put, List.setIfInBounds_toArray, List.set_cons_zero, List.set_cons_succ])
  refine ru_one 2 rfl (by kernel_rfl) (fun K hK => ?_)
  go_simp
  refine (bal_x1 (hasB_of (b := bookB) (F15.at 0 rfl : Bk _ gA16 41 #[.string ⟨#[114, 97, 99, 107]⟩, .int .i64 1, .int .i64 1000, .int .i64 1000, .int .i64 600, .int .i64 610, .string ⟨#[99, 97, 109, 112]⟩, .int .i64 1, .int .i64 100, .int .i64 110, .int .i64 480, .int .i64 490, .string ⟨#[103, 114, 111, 117, 110, 100]⟩, .int .i64 2, .int .i64 0, .int .i64 0, .int .i64 0, .int .i64 5]) (F15.at 1 rfl : Bk _ gM16 43 #[.int .i64 0, .int .i64 1, .int .i64 390, .int .i64 400]) rfl rfl rfl rfl (by decide) (by decide)) (Sl.ofB [1000, 100, 0] (F15.at 5 rfl : Bk _ w.heap.size 3 #[.int .i64 1000, .int .i64 100, .int .i64 0]) rfl (fun _ => rfl) rfl (by decide)) (Sl.ofB [605, 485, 0] (F15.at 4 rfl : Bk _ (w.heap.size + 1) 3 #[.int .i64 605, .int .i64 485, .int .i64 0]) rfl (fun _ => rfl) rfl (by decide)) (Sl.ofB [392] (F15.at 3 rfl : Bk _ (w.heap.size + 2) 3 #[.int .i64 392]) rfl (fun _ => rfl) rfl (by decide))).mono ?_
  rintro e w18 ⟨av1, cv1, lv1, hv1, rfl, ⟨xv1, yv1⟩, zv1, hg16⟩
  have hg16s := hg16.size
  (try simp at hg16s)
  have F19 := F15.add (rsl intEnc 1 lv1 hv1 (.slice av1 3 cv1) ([3, 7, 0])) hg16 (zv1) (fun g e => ⟨Nat.le_trans xv1 e.1, Nat.lt_of_lt_of_le e.2 yv1⟩)
  clear F15
  refine ru_back hK (by exact ⟨F19.cl 3 0 rfl rfl, F19.cl 3 1 rfl rfl, F19.cl 3 2 rfl rfl⟩) (fun hHeld => ?_)
  clear hK K
  (try simp only [Act.put, List.setIfInBounds_toArray, List.set_cons_zero, List.set_cons_succ])
  refine ru_p 3 ?_
  (try simp only [Act.put, List.setIfInBounds_toArray, List.set_cons_zero, List.set_cons_succ])
  refine ru_p 4 ?_
  refine ru_p 5 ?_
  (try simp only [Act.put, List.setIfInBounds_toArray, List.set_cons_zero, List.set_cons_succ])
  refine ru_p 6 ?_
  (try simp only [Act.put, List.setIfInBounds_toArray, List.set_cons_zero, List.set_cons_succ])
  refine ru_one 7 rfl (by kernel_rfl) (fun K hK => ?_)
  go_simp
  refine ru_back_late hK (by kernel_rfl) ?_
  clear hK K
  (try simp only [Act.put, List.setIfInBounds_toArray, List.set_cons_zero, List.set_cons_succ])
  refine ru_done (by kernel_rfl) ?_
  have Fn_ := ((F19.drop 1 rfl).drop 1 rfl)
  (try dsimp only [List.eraseIdx_cons_succ, List.eraseIdx_cons_zero] at Fn_)
  obtain ⟨w20, hx21, F23, hxs22⟩ := Fn_.name
  (try simp at hxs22)
  rw [hx21]
  clear hx21 F19 Fn_
  have b24 := F23.bx3 1 rfl
  have b25 := F23.bx1 2 rfl
  go_wp2_with fail
  clear b24 b25
  have F26 := ((F23.front 2 rfl rfl).set 0 (.int .i64 397)).nf #[.int .i64 397] rfl
  clear F23
  have Fn_ := F26
  (try dsimp only [List.eraseIdx_cons_succ, List.eraseIdx_cons_zero] at Fn_)
  obtain ⟨w27, hx28, F30, hxs29⟩ := Fn_.name
  (try simp at hxs29)
  rw [hx28]
  clear hx28 F26 Fn_
  have F31 := F30.drew
  clear F30
  refine ru_begin (fun W => W.cell? ⟨(w.heap.size + 3), 0, none⟩ = some (.slice (some ⟨w.heap.size, 0, none⟩) 3 3) ∧ W.cell? ⟨(w.heap.size + 3), 1, none⟩ = some (.slice (some ⟨w.heap.size + 1, 0, none⟩) 3 3) ∧ W.cell? ⟨(w.heap.size + 3), 2, none⟩ = some (.slice (some ⟨w.heap.size + 2, 0, none⟩) 1 1)) 7 (by kernel_rfl) ?_ ?_
  · exact ⟨F31.cl 2 0 rfl rfl, F31.cl 2 1 rfl rfl, F31.cl 2 2 rfl rfl⟩
  obtain ⟨wd33, hwd_⟩ : ∃ x : World, w27.drew = x := ⟨_, rfl⟩
  rw [hwd_] at F31 ⊢
  have wd33s : w27.heap.size ≤ wd33.heap.size := by rw [← hwd_]; exact Nat.le_refl _
  clear hwd_
  have hS32 := (And.intro (F31.cl 2 0 rfl rfl) (And.intro (F31.cl 2 1 rfl rfl) (F31.cl 2 2 rfl rfl)))
  refine ru_t 1 [] ?_
  (try simp only [Act.put, List.setIfInBounds_toArray, List.set_cons_zero, List.set_cons_succ])
  clear hS32
  refine ru_one 0 rfl (by kernel_rfl) (fun K hK => ?_)
  go_simp
  refine (book_b _).mono ?_
  rintro e w34 ⟨gA25, gM25, rfl, hB35⟩
  have hB35s := hB35.gb.size
  (try simp at hB35s)
  have F36 := F31.joinN (L2 := [rbox gA25 41 #[.string ⟨#[114, 97, 99, 107]⟩, .int .i64 1, .int .i64 1000, .int .i64 1000, .int .i64 600, .int .i64 610, .string ⟨#[99, 97, 109, 112]⟩, .int .i64 1, .int .i64 100, .int .i64 110, .int .i64 480, .int .i64 490, .string ⟨#[103, 114, 111, 117, 110, 100]⟩, .int .i64 2, .int .i64 0, .int .i64 0, .int .i64 0, .int .i64 5], rbox gM25 43 #[.int .i64 0, .int .i64 1, .int .i64 390, .int .i64 400]]) hB35 rfl
  clear F31
  clear hB35
  (try dsimp only [List.cons_append, List.nil_append] at F36)
  refine ru_back hK (by exact ⟨F36.cl 4 0 rfl rfl, F36.cl 4 1 rfl rfl, F36.cl 4 2 rfl rfl⟩) (fun hHeld => ?_)
  clear hK K
  (try simp only [Act.put, List.setIfInBounds_toArray, List.set_cons_zero, List.set_cons_succ])
  refine ru_one 2 rfl (by kernel_rfl) (fun K hK => ?_)
  go_simp
  refine (bal_x2 (hasB_of (b := bookB) (F36.at 0 rfl : Bk _ gA25 41 #[.string ⟨#[114, 97, 99, 107]⟩, .int .i64 1, .int .i64 1000, .int .i64 1000, .int .i64 600, .int .i64 610, .string ⟨#[99, 97, 109, 112]⟩, .int .i64 1, .int .i64 100, .int .i64 110, .int .i64 480, .int .i64 490, .string ⟨#[103, 114, 111, 117, 110, 100]⟩, .int .i64 2, .int .i64 0, .int .i64 0, .int .i64 0, .int .i64 5]) (F36.at 1 rfl : Bk _ gM25 43 #[.int .i64 0, .int .i64 1, .int .i64 390, .int .i64 400]) rfl rfl rfl rfl (by decide) (by decide)) (Sl.ofB [1000, 100, 0] (F36.at 6 rfl : Bk _ w.heap.size 3 #[.int .i64 1000, .int .i64 100, .int .i64 0]) rfl (fun _ => rfl) rfl (by decide)) (Sl.ofB [605, 485, 0] (F36.at 5 rfl : Bk _ (w.heap.size + 1) 3 #[.int .i64 605, .int .i64 485, .int .i64 0]) rfl (fun _ => rfl) rfl (by decide)) (Sl.ofB [397] (F36.at 2 rfl : Bk _ (w.heap.size + 2) 3 #[.int .i64 397]) rfl (fun _ => rfl) rfl (by decide))).mono ?_
  rintro e w39 ⟨vb, rfl, hg37⟩
  have hg37s := hg37.size
  (try simp at hg37s)
  have F40 := F36.gn hg37
  clear F36
  refine ru_back hK (by exact ⟨F40.cl 4 0 rfl rfl, F40.cl 4 1 rfl rfl, F40.cl 4 2 rfl rfl⟩) (fun hHeld => ?_)
  clear hK K
  (try simp only [Act.put, List.setIfInBounds_toArray, List.set_cons_zero, List.set_cons_succ])
  refine ru_p 3 ?_
  (try simp only [Act.put, List.setIfInBounds_toArray, List.set_cons_zero, List.set_cons_succ])
  refine ru_p 4 ?_
  refine ru_p 5 ?_
  (try simp only [Act.put, List.setIfInBounds_toArray, List.set_cons_zero, List.set_cons_succ])
  refine ru_p 6 ?_
  (try simp only [Act.put, List.setIfInBounds_toArray, List.set_cons_zero, List.set_cons_succ])
  refine ru_one 7 rfl (by kernel_rfl) (fun K hK => ?_)
  go_simp
  refine ru_back_late hK (by kernel_rfl) ?_
  clear hK K
  (try simp only [Act.put, List.setIfInBounds_toArray, List.set_cons_zero, List.set_cons_succ])
  refine ru_done (by kernel_rfl) ?_
  have Fn_ := ((((((F40.drop 0 rfl).drop 0 rfl).drop 0 rfl).drop 1 rfl).drop 1 rfl).drop 1 rfl)
  (try dsimp only [List.eraseIdx_cons_succ, List.eraseIdx_cons_zero] at Fn_)
  obtain ⟨w41, hx42, F44, hxs43⟩ := Fn_.name
  (try simp at hxs43)
  rw [hx42]
  clear hx42 F40 Fn_
  go_wp2_with fail
  refine (book_b _).mono ?_
  rintro e w45 ⟨gA30, gM30, rfl, hB46⟩
  have hB46s := hB46.gb.size
  (try simp at hB46s)
  have F47 := F44.joinN (L2 := [rbox gA30 41 #[.string ⟨#[114, 97, 99, 107]⟩, .int .i64 1, .int .i64 1000, .int .i64 1000, .int .i64 600, .int .i64 610, .string ⟨#[99, 97, 109, 112]⟩, .int .i64 1, .int .i64 100, .int .i64 110, .int .i64 480, .int .i64 490, .string ⟨#[103, 114, 111, 117, 110, 100]⟩, .int .i64 2, .int .i64 0, .int .i64 0, .int .i64 0, .int .i64 5], rbox gM30 43 #[.int .i64 0, .int .i64 1, .int .i64 390, .int .i64 400]]) hB46 rfl
  clear F44
  clear hB46
  (try dsimp only [List.cons_append, List.nil_append] at F47)
  go_wp2_with fail
  have F48 := F47.new 38 #[.slice (some ⟨gA30, 0, none⟩) 3 3, .slice (some ⟨gM30, 0, none⟩) 1 1] (n := w45.heap.size) (by simp)
  clear F47
  have Fn_ := F48
  (try dsimp only [List.eraseIdx_cons_succ, List.eraseIdx_cons_zero] at Fn_)
  obtain ⟨w49, hx50, F52, hxs51⟩ := Fn_.name
  (try simp at hxs51)
  rw [hx50]
  clear hx50 F48 Fn_
  have F53 := F52.drew
  clear F52
  refine ru_begin (fun W => W.cell? ⟨w45.heap.size, 0, none⟩ = some (.slice (some ⟨gA30, 0, none⟩) 3 3)) 5 (by kernel_rfl) ?_ ?_
  · exact F53.cl 0 0 rfl rfl
  obtain ⟨wd55, hwd_⟩ : ∃ x : World, w49.drew = x := ⟨_, rfl⟩
  rw [hwd_] at F53 ⊢
  have wd55s : w49.heap.size ≤ wd55.heap.size := by rw [← hwd_]; exact Nat.le_refl _
  clear hwd_
  have hS54 := (F53.cl 0 0 rfl rfl)
  refine ru_t 0 [] ?_
  refine ru_t 1 [] ?_
  (try simp only [Act.put, List.setIfInBounds_toArray, List.set_cons_zero, List.set_cons_succ])
  clear hS54
  refine ru_one 2 rfl (by kernel_rfl) (fun K hK => ?_)
  go_simp
  refine (span_c 590 599 _).mono ?_
  rintro e w58 ⟨rfl, hg56⟩
  have hg56s := hg56.size
  (try simp at hg56s)
  have F59 := F53.gn hg56
  clear F53
  refine ru_back hK (by exact F59.cl 0 0 rfl rfl) (fun hHeld => ?_)
  clear hK K
  (try simp only [Act.put, List.setIfInBounds_toArray, List.set_cons_zero, List.set_cons_succ])
  refine ru_p 3 ?_
  (try simp only [Act.put, List.setIfInBounds_toArray, List.set_cons_zero, List.set_cons_succ])
  refine ru_p 4 ?_
  (try simp only [Act.put, List.setIfInBounds_toArray, List.set_cons_zero, List.set_cons_succ])
  refine ru_one 5 rfl (by kernel_rfl) (fun K hK => ?_)
  have kb_ := F59.bx18 1 rfl
  go_simp
  clear kb_
  have F60 := ((F59.front 1 rfl rfl).set 4 (.int .i64 590)).nf #[.string ⟨#[114, 97, 99, 107]⟩, .int .i64 1, .int .i64 1000, .int .i64 1000, .int .i64 590, .int .i64 610, .string ⟨#[99, 97, 109, 112]⟩, .int .i64 1, .int .i64 100, .int .i64 110, .int .i64 480, .int .i64 490, .string ⟨#[103, 114, 111, 117, 110, 100]⟩, .int .i64 2, .int .i64 0, .int .i64 0, .int .i64 0, .int .i64 5] rfl
  clear F59
  have F61 := (F60.set 5 (.int .i64 599)).nf #[.string ⟨#[114, 97, 99, 107]⟩, .int .i64 1, .int .i64 1000, .int .i64 1000, .int .i64 590, .int .i64 599, .string ⟨#[99, 97, 109, 112]⟩, .int .i64 1, .int .i64 100, .int .i64 110, .int .i64 480, .int .i64 490, .string ⟨#[103, 114, 111, 117, 110, 100]⟩, .int .i64 2, .int .i64 0, .int .i64 0, .int .i64 0, .int .i64 5] rfl
  clear F60
  refine ru_back_late hK (by kernel_rfl) ?_
  clear hK K
  (try simp only [Act.put, List.setIfInBounds_toArray, List.set_cons_zero, List.set_cons_succ])
  refine ru_done (by kernel_rfl) ?_
  have Fn_ := F61
  (try dsimp only [List.eraseIdx_cons_succ, List.eraseIdx_cons_zero] at Fn_)
  obtain ⟨w62, hx63, F65, hxs64⟩ := Fn_.name
  (try simp at hxs64)
  rw [hx63]
  clear hx63 F61 Fn_
  go_wp2_with fail
  refine (book_b _).mono ?_
  rintro e w66 ⟨gA37, gM37, rfl, hB67⟩
  have hB67s := hB67.gb.size
  (try simp at hB67s)
  have F68 := F65.joinN (L2 := [rbox gA37 41 #[.string ⟨#[114, 97, 99, 107]⟩, .int .i64 1, .int .i64 1000, .int .i64 1000, .int .i64 600, .int .i64 610, .string ⟨#[99, 97, 109, 112]⟩, .int .i64 1, .int .i64 100, .int .i64 110, .int .i64 480, .int .i64 490, .string ⟨#[103, 114, 111, 117, 110, 100]⟩, .int .i64 2, .int .i64 0, .int .i64 0, .int .i64 0, .int .i64 5], rbox gM37 43 #[.int .i64 0, .int .i64 1, .int .i64 390, .int .i64 400]]) hB67 rfl
  clear F65
  clear hB67
  (try dsimp only [List.cons_append, List.nil_append] at F68)
  go_wp2_with fail
  refine (mis_x (b := bookB) (l := [3, 3, 2]) (hasB_of (b := bookB) (F68.at 0 rfl : Bk _ gA37 41 #[.string ⟨#[114, 97, 99, 107]⟩, .int .i64 1, .int .i64 1000, .int .i64 1000, .int .i64 600, .int .i64 610, .string ⟨#[99, 97, 109, 112]⟩, .int .i64 1, .int .i64 100, .int .i64 110, .int .i64 480, .int .i64 490, .string ⟨#[103, 114, 111, 117, 110, 100]⟩, .int .i64 2, .int .i64 0, .int .i64 0, .int .i64 0, .int .i64 5]) (F68.at 1 rfl : Bk _ gM37 43 #[.int .i64 0, .int .i64 1, .int .i64 390, .int .i64 400]) rfl rfl rfl rfl (by decide) (by decide)) (by decide) bookB_check bookB_m rfl).mono ?_
  rintro e w71 ⟨avB, cvB, lvB, hvB, rfl, ⟨xvB, yvB⟩, zvB, hg69⟩
  have hg69s := hg69.size
  (try simp at hg69s)
  have F72 := F68.add (rsl intEnc 1 lvB hvB (.slice avB 3 cvB) ([3, 3, 2])) hg69 (zvB) (fun g e => ⟨Nat.le_trans xvB e.1, Nat.lt_of_lt_of_le e.2 yvB⟩)
  clear F68
  clear hg69
  have b73 := F72.bx2 4 rfl
  go_wp2_with fail
  clear b73
  refine (mis_x (b := bookL) (l := [1, 3, 2]) (hasB_of (b := bookL) (F72.at 3 rfl : Bk _ gA30 41 #[.string ⟨#[114, 97, 99, 107]⟩, .int .i64 1, .int .i64 1000, .int .i64 1000, .int .i64 590, .int .i64 599, .string ⟨#[99, 97, 109, 112]⟩, .int .i64 1, .int .i64 100, .int .i64 110, .int .i64 480, .int .i64 490, .string ⟨#[103, 114, 111, 117, 110, 100]⟩, .int .i64 2, .int .i64 0, .int .i64 0, .int .i64 0, .int .i64 5]) (F72.at 5 rfl : Bk _ gM30 43 #[.int .i64 0, .int .i64 1, .int .i64 390, .int .i64 400]) rfl rfl rfl rfl (by decide) (by decide)) (by decide) bookL_e bookL_m rfl).mono ?_
  rintro e w76 ⟨avL, cvL, lvL, hvL, rfl, ⟨xvL, yvL⟩, zvL, hg74⟩
  have hg74s := hg74.size
  (try simp at hg74s)
  have F77 := F72.add (rsl intEnc 1 lvL hvL (.slice avL 3 cvL) ([1, 3, 2])) hg74 (zvL) (fun g e => ⟨Nat.le_trans xvL e.1, Nat.lt_of_lt_of_le e.2 yvL⟩)
  clear F72
  clear hg74
  go_wp2_with fail
  have F78 := F77.new 3 #[.int .i64 3, .int .i64 7, .int .i64 0] (n := w76.heap.size) (by simp)
  clear F77
  refine (same_x (l := [3, 7, 0]) (l' := [3, 7, 0]) (F78.at 8 rfl : Sl intEnc 1 lv1 hv1 _ (.slice av1 3 cv1) ([3, 7, 0])) (Sl.ofB [3, 7, 0] (F78.at 0 rfl : Bk _ w76.heap.size 3 #[.int .i64 3, .int .i64 7, .int .i64 0]) rfl (fun _ => rfl) rfl (by decide)) (by decide +kernel)).mono ?_
  rintro e w81 ⟨rfl, hg79⟩
  have hg79s := hg79.size
  (try simp at hg79s)
  have F82 := F78.gn hg79
  clear F78
  clear hg79
  go_wp2_with fail
  have F83 := F82.new 3 #[.int .i64 3, .int .i64 3, .int .i64 2] (n := w81.heap.size) (by simp)
  clear F82
  refine (same_x (l := [3, 3, 2]) (l' := [3, 3, 2]) (F83.at 3 rfl : Sl intEnc 1 lvB hvB _ (.slice avB 3 cvB) ([3, 3, 2])) (Sl.ofB [3, 3, 2] (F83.at 0 rfl : Bk _ w81.heap.size 3 #[.int .i64 3, .int .i64 3, .int .i64 2]) rfl (fun _ => rfl) rfl (by decide)) (by decide +kernel)).mono ?_
  rintro e w86 ⟨rfl, hg84⟩
  have hg84s := hg84.size
  (try simp at hg84s)
  have F87 := F83.gn hg84
  clear F83
  clear hg84
  go_wp2_with fail
  have F88 := F87.new 3 #[.int .i64 1, .int .i64 3, .int .i64 2] (n := w86.heap.size) (by simp)
  clear F87
  refine (same_x (l := [1, 3, 2]) (l' := [1, 3, 2]) (F88.at 3 rfl : Sl intEnc 1 lvL hvL _ (.slice avL 3 cvL) ([1, 3, 2])) (Sl.ofB [1, 3, 2] (F88.at 0 rfl : Bk _ w86.heap.size 3 #[.int .i64 1, .int .i64 3, .int .i64 2]) rfl (fun _ => rfl) rfl (by decide)) (by decide +kernel)).mono ?_
  rintro e w91 ⟨rfl, hg89⟩
  have hg89s := hg89.size
  (try simp at hg89s)
  have F92 := F88.gn hg89
  clear F88
  clear hg89
  go_wp2_with fail
  go_ret
  exact ⟨rfl, F92.gb⟩

end Go.Proofs.YtcndphefomigeaaDoor
