/- frost: Bearing. -/
import Derived.Test.YtgkjicejaalijaaDoorF10
set_option linter.unusedVariables false
set_option linter.unusedSimpArgs false
set_option linter.unnecessarySimpa false
namespace Go.Proofs.YtgkjicejaalijaaDoor
open Go.RowKit
set_option maxRecDepth 100000

set_option maxHeartbeats 8000000 in
theorem bearing_c (lo hi : Nat) (v : Value) (l : Fro) (x : Ice) (w : World) (hl : Sl covEnc 3 lo hi w v l.cov) (h2 : hi ≤ w.heap.size) :
    Calls Tryd.prog 38 #[.agg (froC l v), .agg (iceC x)] w (Ret (.tuple #[.agg #[.int .i64 ((bearT l x).lo), .int .i64 ((bearT l x).hi)], .int .i64 (bearS l x), .int .i64 (allE l x [])]) w) := by
  have F1 : Bun w [] w := Bun.nil _
  have hm_cs := hl.len
  unfold maxLen at hm_cs
  obtain ⟨sa, sc, rfl⟩ := hl.any
  have F2 := F1.sl0 hl h2 rfl
  clear F1
  clear hl
  go_enter Tryd.func38, Tryd.ntmps38
  go_wp2_with fail
  have F3 := F2.new 26 (froC l (.slice sa l.cov.length sc)) (n := w.heap.size) (by simp)
  clear F2
  have F4 := F3.new 37 (iceC x) (n := (w.heap.size + 1)) (by simp)
  clear F3
  have F5 := F4.new 24 #[.int .i64 0, .int .i64 0] (n := (w.heap.size + 2)) (by simp)
  clear F4
  refine (checkAll_c lo hi _ l x 0 0 (.slice none 0 0) [] _ (F5.at 3 rfl : Sl covEnc 3 lo hi _ (.slice sa l.cov.length sc) l.cov) (Nat.le_trans h2 F5.gb.size) (Sl.of_nil _ _) (Nat.zero_le _)).mono ?_
  rintro e w8 ⟨rfl, hg6⟩
  have hg6s := hg6.size
  (try simp at hg6s)
  have F9 := F5.gn hg6
  clear F5
  clear hg6
  by_cases c10 : allE l x [] = 0
  · skip
    have c10a : ((allE l x []) == 0) = true := beq_t c10
    have c10b : ((allE l x []) != 0) = false := bne_f c10
    have c10H := Lib.hid c10
    clear c10
    have HOK := Lib.hid (allOk c10H.out)
    by_cases c11 : x.we.hi = 0
    · skip
      have c11a : (x.we.hi == 0) = true := beq_t c11
      have c11b : (x.we.hi != 0) = false := bne_f c11
      have c11H := Lib.hid c11
      clear c11
      have b12 := F9.bx8 1 rfl
      go_wp2_with fail
      clear b12
      have F13 := F9.drew
      clear F9
      refine ru_begin (fun W => W.cell? ⟨w.heap.size, 0, none⟩ = some (.int .i64 l.gr) ∧ W.cell? ⟨w.heap.size, 1, none⟩ = some (.int .i64 l.la) ∧ W.cell? ⟨w.heap.size, 2, none⟩ = some (.slice sa l.cov.length sc) ∧ W.cell? ⟨w.heap.size, 3, none⟩ = some (.int .i64 l.melt.lo) ∧ W.cell? ⟨w.heap.size, 4, none⟩ = some (.int .i64 l.melt.hi) ∧ W.cell? ⟨w.heap.size, 5, none⟩ = some (.int .i64 l.soak) ∧ W.cell? ⟨w.heap.size, 6, none⟩ = some (.int .i64 l.white.lo) ∧ W.cell? ⟨w.heap.size, 7, none⟩ = some (.int .i64 l.white.hi) ∧ W.cell? ⟨(w.heap.size + 1), 0, none⟩ = some (.int .i64 x.bl.lo) ∧ W.cell? ⟨(w.heap.size + 1), 1, none⟩ = some (.int .i64 x.bl.hi) ∧ W.cell? ⟨(w.heap.size + 1), 2, none⟩ = some (.int .i64 x.wh.lo) ∧ W.cell? ⟨(w.heap.size + 1), 3, none⟩ = some (.int .i64 x.wh.hi) ∧ W.cell? ⟨(w.heap.size + 1), 4, none⟩ = some (.int .i64 x.we.lo) ∧ W.cell? ⟨(w.heap.size + 1), 5, none⟩ = some (.int .i64 x.we.hi) ∧ W.cell? ⟨(w.heap.size + 1), 6, none⟩ = some (.int .i64 x.sn.lo) ∧ W.cell? ⟨(w.heap.size + 1), 7, none⟩ = some (.int .i64 x.sn.hi)) 6 (by kernel_rfl) ?_ ?_
      · exact ⟨F13.cl 2 0 rfl rfl, F13.cl 2 1 rfl rfl, F13.cl 2 2 rfl rfl, F13.cl 2 3 rfl rfl, F13.cl 2 4 rfl rfl, F13.cl 2 5 rfl rfl, F13.cl 2 6 rfl rfl, F13.cl 2 7 rfl rfl, F13.cl 1 0 rfl rfl, F13.cl 1 1 rfl rfl, F13.cl 1 2 rfl rfl, F13.cl 1 3 rfl rfl, F13.cl 1 4 rfl rfl, F13.cl 1 5 rfl rfl, F13.cl 1 6 rfl rfl, F13.cl 1 7 rfl rfl⟩
      obtain ⟨wd15, hwd_⟩ : ∃ x : World, w8.drew = x := ⟨_, rfl⟩
      rw [hwd_] at F13 ⊢
      have wd15s : w8.heap.size ≤ wd15.heap.size := by rw [← hwd_]; exact Nat.le_refl _
      clear hwd_
      have hS14 := (And.intro (F13.cl 2 0 rfl rfl) (And.intro (F13.cl 2 1 rfl rfl) (And.intro (F13.cl 2 2 rfl rfl) (And.intro (F13.cl 2 3 rfl rfl) (And.intro (F13.cl 2 4 rfl rfl) (And.intro (F13.cl 2 5 rfl rfl) (And.intro (F13.cl 2 6 rfl rfl) (And.intro (F13.cl 2 7 rfl rfl) (And.intro (F13.cl 1 0 rfl rfl) (And.intro (F13.cl 1 1 rfl rfl) (And.intro (F13.cl 1 2 rfl rfl) (And.intro (F13.cl 1 3 rfl rfl) (And.intro (F13.cl 1 4 rfl rfl) (And.intro (F13.cl 1 5 rfl rfl) (And.intro (F13.cl 1 6 rfl rfl) (F13.cl 1 7 rfl rfl))))))))))))))))
      refine ru_t 0 [] ?_
      refine ru_t 1 [] ?_
      refine ru_t 2 [] ?_
      (try simp only [Act.put, List.setIfInBounds_toArray, List.set_cons_zero, List.set_cons_succ])
      refine ru_p 5 ?_
      (try simp only [Act.put, List.setIfInBounds_toArray, List.set_cons_zero, List.set_cons_succ])
      clear hS14
      refine ru_one 3 rfl (by kernel_rfl) (fun K hK => ?_)
      go_simp
      refine (layersOf_c x _).mono ?_
      rintro e w18 ⟨rfl, hg16⟩
      have hg16s := hg16.size
      (try simp at hg16s)
      have F19 := F13.gn hg16
      clear F13
      refine ru_back hK (by exact ⟨F19.cl 2 0 rfl rfl, F19.cl 2 1 rfl rfl, F19.cl 2 2 rfl rfl, F19.cl 2 3 rfl rfl, F19.cl 2 4 rfl rfl, F19.cl 2 5 rfl rfl, F19.cl 2 6 rfl rfl, F19.cl 2 7 rfl rfl, F19.cl 1 0 rfl rfl, F19.cl 1 1 rfl rfl, F19.cl 1 2 rfl rfl, F19.cl 1 3 rfl rfl, F19.cl 1 4 rfl rfl, F19.cl 1 5 rfl rfl, F19.cl 1 6 rfl rfl, F19.cl 1 7 rfl rfl⟩) (fun hHeld => ?_)
      clear hK K
      (try simp only [Act.put, List.setIfInBounds_toArray, List.set_cons_zero, List.set_cons_succ])
      refine ru_one 4 rfl (by kernel_rfl) (fun K hK => ?_)
      go_simp
      refine (bears_c lo hi _ l x 0 0 _ (F19.at 3 rfl : Sl covEnc 3 lo hi _ (.slice sa l.cov.length sc) l.cov) (Nat.le_trans h2 F19.gb.size) HOK.out.1 HOK.out.2.2.1 (by omega)).mono ?_
      rintro e w22 ⟨rfl, hg20⟩
      have hg20s := hg20.size
      (try simp at hg20s)
      have F23 := F19.gn hg20
      clear F19
      refine ru_back hK (by exact ⟨F23.cl 2 0 rfl rfl, F23.cl 2 1 rfl rfl, F23.cl 2 2 rfl rfl, F23.cl 2 3 rfl rfl, F23.cl 2 4 rfl rfl, F23.cl 2 5 rfl rfl, F23.cl 2 6 rfl rfl, F23.cl 2 7 rfl rfl, F23.cl 1 0 rfl rfl, F23.cl 1 1 rfl rfl, F23.cl 1 2 rfl rfl, F23.cl 1 3 rfl rfl, F23.cl 1 4 rfl rfl, F23.cl 1 5 rfl rfl, F23.cl 1 6 rfl rfl, F23.cl 1 7 rfl rfl⟩) (fun hHeld => ?_)
      clear hK K
      (try simp only [Act.put, List.setIfInBounds_toArray, List.set_cons_zero, List.set_cons_succ])
      refine ru_one 6 rfl (by kernel_rfl) (fun K hK => ?_)
      have kb_ := F23.bx2 0 rfl
      go_simp
      clear kb_
      have F24 := F23.pt2 (.int .i64 ((brs l x).lo)) (.int .i64 ((brs l x).hi))
      clear F23
      refine ru_back_late hK (by kernel_rfl) ?_
      clear hK K
      (try simp only [Act.put, List.setIfInBounds_toArray, List.set_cons_zero, List.set_cons_succ])
      refine ru_one 7 rfl (by kernel_rfl) (fun K hK => ?_)
      go_simp
      refine ru_back_late hK (by kernel_rfl) ?_
      clear hK K
      (try simp only [Act.put, List.setIfInBounds_toArray, List.set_cons_zero, List.set_cons_succ])
      refine ru_one 8 rfl (by kernel_rfl) (fun K hK => ?_)
      go_simp
      refine ru_back_late hK (by kernel_rfl) ?_
      clear hK K
      (try simp only [Act.put, List.setIfInBounds_toArray, List.set_cons_zero, List.set_cons_succ])
      refine ru_done (by kernel_rfl) ?_
      obtain ⟨w25, hx26, F28, hxs27⟩ := (show Bun w [rbox (w.heap.size + 2) 24 #[.int .i64 ((brs l x).lo), .int .i64 ((brs l x).hi)], rsl covEnc 3 lo hi (.slice sa l.cov.length sc) l.cov] _ from ((F24.drop 1 rfl).drop 1 rfl)).name
      (try simp at hxs27)
      rw [hx26]
      clear hx26 F24
      have Hx29 := Lib.hid (show (((bearT l x).lo : Int)) = (brs l x).lo by rw [bearT, if_pos c10H.out]; (try rfl))
      have Hx30 := Lib.hid (show (((bearT l x).hi : Int)) = (brs l x).hi by rw [bearT, if_pos c10H.out]; (try rfl))
      have Hx31 := Lib.hid (show ((bearS l x : Int)) = 1 by rw [bearS, if_pos c10H.out]; unfold soundV; (repeat' split) <;> first | rfl | (exfalso; have := c11H.out; omega))
      have Hx32 := Lib.hid (show ((allE l x [] : Int)) = 0 by exact c10H.out)
      go_wp2_with fail
      have kb33 := F28.bx2 0 rfl
      go_wp2_with fail
      exact bodyPost_ret (v := .tuple #[.agg #[.int .i64 ((brs l x).lo), .int .i64 ((brs l x).hi)], .int .i64 1, .int .i64 0]) (by simp [results, Tryd.results38, go_sem, kb33]) rfl (⟨by rw [Hx29.out, Hx30.out, Hx31.out, Hx32.out] <;> rfl, F28.gb⟩)
    · skip
      have c11a : (x.we.hi == 0) = false := beq_f c11
      have c11b : (x.we.hi != 0) = true := bne_t c11
      have c11H := Lib.hid c11
      clear c11
      by_cases c34 : 0 < x.we.lo
      · skip
        have c34H := Lib.hid c34
        have b35 := F9.bx8 1 rfl
        go_wp2_with fail
        clear b35
        have F36 := F9.drew
        clear F9
        refine ru_begin (fun W => W.cell? ⟨w.heap.size, 0, none⟩ = some (.int .i64 l.gr) ∧ W.cell? ⟨w.heap.size, 1, none⟩ = some (.int .i64 l.la) ∧ W.cell? ⟨w.heap.size, 2, none⟩ = some (.slice sa l.cov.length sc) ∧ W.cell? ⟨w.heap.size, 3, none⟩ = some (.int .i64 l.melt.lo) ∧ W.cell? ⟨w.heap.size, 4, none⟩ = some (.int .i64 l.melt.hi) ∧ W.cell? ⟨w.heap.size, 5, none⟩ = some (.int .i64 l.soak) ∧ W.cell? ⟨w.heap.size, 6, none⟩ = some (.int .i64 l.white.lo) ∧ W.cell? ⟨w.heap.size, 7, none⟩ = some (.int .i64 l.white.hi) ∧ W.cell? ⟨(w.heap.size + 1), 0, none⟩ = some (.int .i64 x.bl.lo) ∧ W.cell? ⟨(w.heap.size + 1), 1, none⟩ = some (.int .i64 x.bl.hi) ∧ W.cell? ⟨(w.heap.size + 1), 2, none⟩ = some (.int .i64 x.wh.lo) ∧ W.cell? ⟨(w.heap.size + 1), 3, none⟩ = some (.int .i64 x.wh.hi) ∧ W.cell? ⟨(w.heap.size + 1), 4, none⟩ = some (.int .i64 x.we.lo) ∧ W.cell? ⟨(w.heap.size + 1), 5, none⟩ = some (.int .i64 x.we.hi) ∧ W.cell? ⟨(w.heap.size + 1), 6, none⟩ = some (.int .i64 x.sn.lo) ∧ W.cell? ⟨(w.heap.size + 1), 7, none⟩ = some (.int .i64 x.sn.hi)) 6 (by kernel_rfl) ?_ ?_
        · exact ⟨F36.cl 2 0 rfl rfl, F36.cl 2 1 rfl rfl, F36.cl 2 2 rfl rfl, F36.cl 2 3 rfl rfl, F36.cl 2 4 rfl rfl, F36.cl 2 5 rfl rfl, F36.cl 2 6 rfl rfl, F36.cl 2 7 rfl rfl, F36.cl 1 0 rfl rfl, F36.cl 1 1 rfl rfl, F36.cl 1 2 rfl rfl, F36.cl 1 3 rfl rfl, F36.cl 1 4 rfl rfl, F36.cl 1 5 rfl rfl, F36.cl 1 6 rfl rfl, F36.cl 1 7 rfl rfl⟩
        obtain ⟨wd38, hwd_⟩ : ∃ x : World, w8.drew = x := ⟨_, rfl⟩
        rw [hwd_] at F36 ⊢
        have wd38s : w8.heap.size ≤ wd38.heap.size := by rw [← hwd_]; exact Nat.le_refl _
        clear hwd_
        have hS37 := (And.intro (F36.cl 2 0 rfl rfl) (And.intro (F36.cl 2 1 rfl rfl) (And.intro (F36.cl 2 2 rfl rfl) (And.intro (F36.cl 2 3 rfl rfl) (And.intro (F36.cl 2 4 rfl rfl) (And.intro (F36.cl 2 5 rfl rfl) (And.intro (F36.cl 2 6 rfl rfl) (And.intro (F36.cl 2 7 rfl rfl) (And.intro (F36.cl 1 0 rfl rfl) (And.intro (F36.cl 1 1 rfl rfl) (And.intro (F36.cl 1 2 rfl rfl) (And.intro (F36.cl 1 3 rfl rfl) (And.intro (F36.cl 1 4 rfl rfl) (And.intro (F36.cl 1 5 rfl rfl) (And.intro (F36.cl 1 6 rfl rfl) (F36.cl 1 7 rfl rfl))))))))))))))))
        refine ru_t 0 [] ?_
        refine ru_t 1 [] ?_
        refine ru_t 2 [] ?_
        (try simp only [Act.put, List.setIfInBounds_toArray, List.set_cons_zero, List.set_cons_succ])
        refine ru_p 5 ?_
        (try simp only [Act.put, List.setIfInBounds_toArray, List.set_cons_zero, List.set_cons_succ])
        clear hS37
        refine ru_one 3 rfl (by kernel_rfl) (fun K hK => ?_)
        go_simp
        refine (layersOf_c x _).mono ?_
        rintro e w41 ⟨rfl, hg39⟩
        have hg39s := hg39.size
        (try simp at hg39s)
        have F42 := F36.gn hg39
        clear F36
        refine ru_back hK (by exact ⟨F42.cl 2 0 rfl rfl, F42.cl 2 1 rfl rfl, F42.cl 2 2 rfl rfl, F42.cl 2 3 rfl rfl, F42.cl 2 4 rfl rfl, F42.cl 2 5 rfl rfl, F42.cl 2 6 rfl rfl, F42.cl 2 7 rfl rfl, F42.cl 1 0 rfl rfl, F42.cl 1 1 rfl rfl, F42.cl 1 2 rfl rfl, F42.cl 1 3 rfl rfl, F42.cl 1 4 rfl rfl, F42.cl 1 5 rfl rfl, F42.cl 1 6 rfl rfl, F42.cl 1 7 rfl rfl⟩) (fun hHeld => ?_)
        clear hK K
        (try simp only [Act.put, List.setIfInBounds_toArray, List.set_cons_zero, List.set_cons_succ])
        refine ru_one 4 rfl (by kernel_rfl) (fun K hK => ?_)
        go_simp
        refine (bears_c lo hi _ l x 0 0 _ (F42.at 3 rfl : Sl covEnc 3 lo hi _ (.slice sa l.cov.length sc) l.cov) (Nat.le_trans h2 F42.gb.size) HOK.out.1 HOK.out.2.2.1 (by omega)).mono ?_
        rintro e w45 ⟨rfl, hg43⟩
        have hg43s := hg43.size
        (try simp at hg43s)
        have F46 := F42.gn hg43
        clear F42
        refine ru_back hK (by exact ⟨F46.cl 2 0 rfl rfl, F46.cl 2 1 rfl rfl, F46.cl 2 2 rfl rfl, F46.cl 2 3 rfl rfl, F46.cl 2 4 rfl rfl, F46.cl 2 5 rfl rfl, F46.cl 2 6 rfl rfl, F46.cl 2 7 rfl rfl, F46.cl 1 0 rfl rfl, F46.cl 1 1 rfl rfl, F46.cl 1 2 rfl rfl, F46.cl 1 3 rfl rfl, F46.cl 1 4 rfl rfl, F46.cl 1 5 rfl rfl, F46.cl 1 6 rfl rfl, F46.cl 1 7 rfl rfl⟩) (fun hHeld => ?_)
        clear hK K
        (try simp only [Act.put, List.setIfInBounds_toArray, List.set_cons_zero, List.set_cons_succ])
        refine ru_one 6 rfl (by kernel_rfl) (fun K hK => ?_)
        have kb_ := F46.bx2 0 rfl
        go_simp
        clear kb_
        have F47 := F46.pt2 (.int .i64 ((brs l x).lo)) (.int .i64 ((brs l x).hi))
        clear F46
        refine ru_back_late hK (by kernel_rfl) ?_
        clear hK K
        (try simp only [Act.put, List.setIfInBounds_toArray, List.set_cons_zero, List.set_cons_succ])
        refine ru_one 7 rfl (by kernel_rfl) (fun K hK => ?_)
        go_simp
        refine ru_back_late hK (by kernel_rfl) ?_
        clear hK K
        (try simp only [Act.put, List.setIfInBounds_toArray, List.set_cons_zero, List.set_cons_succ])
        refine ru_one 8 rfl (by kernel_rfl) (fun K hK => ?_)
        go_simp
        refine ru_back_late hK (by kernel_rfl) ?_
        clear hK K
        (try simp only [Act.put, List.setIfInBounds_toArray, List.set_cons_zero, List.set_cons_succ])
        refine ru_done (by kernel_rfl) ?_
        obtain ⟨w48, hx49, F51, hxs50⟩ := (show Bun w [rbox (w.heap.size + 2) 24 #[.int .i64 ((brs l x).lo), .int .i64 ((brs l x).hi)], rsl covEnc 3 lo hi (.slice sa l.cov.length sc) l.cov] _ from ((F47.drop 1 rfl).drop 1 rfl)).name
        (try simp at hxs50)
        rw [hx49]
        clear hx49 F47
        have Hx52 := Lib.hid (show (((bearT l x).lo : Int)) = (brs l x).lo by rw [bearT, if_pos c10H.out]; (try rfl))
        have Hx53 := Lib.hid (show (((bearT l x).hi : Int)) = (brs l x).hi by rw [bearT, if_pos c10H.out]; (try rfl))
        have Hx54 := Lib.hid (show ((bearS l x : Int)) = 2 by rw [bearS, if_pos c10H.out]; unfold soundV; (repeat' split) <;> first | rfl | (exfalso; have := c11H.out; have := c34H.out; omega))
        have Hx55 := Lib.hid (show ((allE l x [] : Int)) = 0 by exact c10H.out)
        go_wp2_with fail
        have kb56 := F51.bx2 0 rfl
        go_wp2_with fail
        exact bodyPost_ret (v := .tuple #[.agg #[.int .i64 ((brs l x).lo), .int .i64 ((brs l x).hi)], .int .i64 2, .int .i64 0]) (by simp [results, Tryd.results38, go_sem, kb56]) rfl (⟨by rw [Hx52.out, Hx53.out, Hx54.out, Hx55.out] <;> rfl, F51.gb⟩)
      · skip
        have c34H := Lib.hid c34
        have c34a : decide (0 < x.we.lo) = false := dec_f c34
        have b57 := F9.bx8 1 rfl
        go_wp2_with fail
        clear b57
        have F58 := F9.drew
        clear F9
        refine ru_begin (fun W => W.cell? ⟨w.heap.size, 0, none⟩ = some (.int .i64 l.gr) ∧ W.cell? ⟨w.heap.size, 1, none⟩ = some (.int .i64 l.la) ∧ W.cell? ⟨w.heap.size, 2, none⟩ = some (.slice sa l.cov.length sc) ∧ W.cell? ⟨w.heap.size, 3, none⟩ = some (.int .i64 l.melt.lo) ∧ W.cell? ⟨w.heap.size, 4, none⟩ = some (.int .i64 l.melt.hi) ∧ W.cell? ⟨w.heap.size, 5, none⟩ = some (.int .i64 l.soak) ∧ W.cell? ⟨w.heap.size, 6, none⟩ = some (.int .i64 l.white.lo) ∧ W.cell? ⟨w.heap.size, 7, none⟩ = some (.int .i64 l.white.hi) ∧ W.cell? ⟨(w.heap.size + 1), 0, none⟩ = some (.int .i64 x.bl.lo) ∧ W.cell? ⟨(w.heap.size + 1), 1, none⟩ = some (.int .i64 x.bl.hi) ∧ W.cell? ⟨(w.heap.size + 1), 2, none⟩ = some (.int .i64 x.wh.lo) ∧ W.cell? ⟨(w.heap.size + 1), 3, none⟩ = some (.int .i64 x.wh.hi) ∧ W.cell? ⟨(w.heap.size + 1), 4, none⟩ = some (.int .i64 x.we.lo) ∧ W.cell? ⟨(w.heap.size + 1), 5, none⟩ = some (.int .i64 x.we.hi) ∧ W.cell? ⟨(w.heap.size + 1), 6, none⟩ = some (.int .i64 x.sn.lo) ∧ W.cell? ⟨(w.heap.size + 1), 7, none⟩ = some (.int .i64 x.sn.hi)) 6 (by kernel_rfl) ?_ ?_
        · exact ⟨F58.cl 2 0 rfl rfl, F58.cl 2 1 rfl rfl, F58.cl 2 2 rfl rfl, F58.cl 2 3 rfl rfl, F58.cl 2 4 rfl rfl, F58.cl 2 5 rfl rfl, F58.cl 2 6 rfl rfl, F58.cl 2 7 rfl rfl, F58.cl 1 0 rfl rfl, F58.cl 1 1 rfl rfl, F58.cl 1 2 rfl rfl, F58.cl 1 3 rfl rfl, F58.cl 1 4 rfl rfl, F58.cl 1 5 rfl rfl, F58.cl 1 6 rfl rfl, F58.cl 1 7 rfl rfl⟩
        obtain ⟨wd60, hwd_⟩ : ∃ x : World, w8.drew = x := ⟨_, rfl⟩
        rw [hwd_] at F58 ⊢
        have wd60s : w8.heap.size ≤ wd60.heap.size := by rw [← hwd_]; exact Nat.le_refl _
        clear hwd_
        have hS59 := (And.intro (F58.cl 2 0 rfl rfl) (And.intro (F58.cl 2 1 rfl rfl) (And.intro (F58.cl 2 2 rfl rfl) (And.intro (F58.cl 2 3 rfl rfl) (And.intro (F58.cl 2 4 rfl rfl) (And.intro (F58.cl 2 5 rfl rfl) (And.intro (F58.cl 2 6 rfl rfl) (And.intro (F58.cl 2 7 rfl rfl) (And.intro (F58.cl 1 0 rfl rfl) (And.intro (F58.cl 1 1 rfl rfl) (And.intro (F58.cl 1 2 rfl rfl) (And.intro (F58.cl 1 3 rfl rfl) (And.intro (F58.cl 1 4 rfl rfl) (And.intro (F58.cl 1 5 rfl rfl) (And.intro (F58.cl 1 6 rfl rfl) (F58.cl 1 7 rfl rfl))))))))))))))))
        refine ru_t 0 [] ?_
        refine ru_t 1 [] ?_
        refine ru_t 2 [] ?_
        (try simp only [Act.put, List.setIfInBounds_toArray, List.set_cons_zero, List.set_cons_succ])
        refine ru_p 5 ?_
        (try simp only [Act.put, List.setIfInBounds_toArray, List.set_cons_zero, List.set_cons_succ])
        clear hS59
        refine ru_one 3 rfl (by kernel_rfl) (fun K hK => ?_)
        go_simp
        refine (layersOf_c x _).mono ?_
        rintro e w63 ⟨rfl, hg61⟩
        have hg61s := hg61.size
        (try simp at hg61s)
        have F64 := F58.gn hg61
        clear F58
        refine ru_back hK (by exact ⟨F64.cl 2 0 rfl rfl, F64.cl 2 1 rfl rfl, F64.cl 2 2 rfl rfl, F64.cl 2 3 rfl rfl, F64.cl 2 4 rfl rfl, F64.cl 2 5 rfl rfl, F64.cl 2 6 rfl rfl, F64.cl 2 7 rfl rfl, F64.cl 1 0 rfl rfl, F64.cl 1 1 rfl rfl, F64.cl 1 2 rfl rfl, F64.cl 1 3 rfl rfl, F64.cl 1 4 rfl rfl, F64.cl 1 5 rfl rfl, F64.cl 1 6 rfl rfl, F64.cl 1 7 rfl rfl⟩) (fun hHeld => ?_)
        clear hK K
        (try simp only [Act.put, List.setIfInBounds_toArray, List.set_cons_zero, List.set_cons_succ])
        refine ru_one 4 rfl (by kernel_rfl) (fun K hK => ?_)
        go_simp
        refine (bears_c lo hi _ l x 0 0 _ (F64.at 3 rfl : Sl covEnc 3 lo hi _ (.slice sa l.cov.length sc) l.cov) (Nat.le_trans h2 F64.gb.size) HOK.out.1 HOK.out.2.2.1 (by omega)).mono ?_
        rintro e w67 ⟨rfl, hg65⟩
        have hg65s := hg65.size
        (try simp at hg65s)
        have F68 := F64.gn hg65
        clear F64
        refine ru_back hK (by exact ⟨F68.cl 2 0 rfl rfl, F68.cl 2 1 rfl rfl, F68.cl 2 2 rfl rfl, F68.cl 2 3 rfl rfl, F68.cl 2 4 rfl rfl, F68.cl 2 5 rfl rfl, F68.cl 2 6 rfl rfl, F68.cl 2 7 rfl rfl, F68.cl 1 0 rfl rfl, F68.cl 1 1 rfl rfl, F68.cl 1 2 rfl rfl, F68.cl 1 3 rfl rfl, F68.cl 1 4 rfl rfl, F68.cl 1 5 rfl rfl, F68.cl 1 6 rfl rfl, F68.cl 1 7 rfl rfl⟩) (fun hHeld => ?_)
        clear hK K
        (try simp only [Act.put, List.setIfInBounds_toArray, List.set_cons_zero, List.set_cons_succ])
        refine ru_one 6 rfl (by kernel_rfl) (fun K hK => ?_)
        have kb_ := F68.bx2 0 rfl
        go_simp
        clear kb_
        have F69 := F68.pt2 (.int .i64 ((brs l x).lo)) (.int .i64 ((brs l x).hi))
        clear F68
        refine ru_back_late hK (by kernel_rfl) ?_
        clear hK K
        (try simp only [Act.put, List.setIfInBounds_toArray, List.set_cons_zero, List.set_cons_succ])
        refine ru_one 7 rfl (by kernel_rfl) (fun K hK => ?_)
        go_simp
        refine ru_back_late hK (by kernel_rfl) ?_
        clear hK K
        (try simp only [Act.put, List.setIfInBounds_toArray, List.set_cons_zero, List.set_cons_succ])
        refine ru_one 8 rfl (by kernel_rfl) (fun K hK => ?_)
        go_simp
        refine ru_back_late hK (by kernel_rfl) ?_
        clear hK K
        (try simp only [Act.put, List.setIfInBounds_toArray, List.set_cons_zero, List.set_cons_succ])
        refine ru_done (by kernel_rfl) ?_
        obtain ⟨w70, hx71, F73, hxs72⟩ := (show Bun w [rbox (w.heap.size + 2) 24 #[.int .i64 ((brs l x).lo), .int .i64 ((brs l x).hi)], rsl covEnc 3 lo hi (.slice sa l.cov.length sc) l.cov] _ from ((F69.drop 1 rfl).drop 1 rfl)).name
        (try simp at hxs72)
        rw [hx71]
        clear hx71 F69
        have Hx74 := Lib.hid (show (((bearT l x).lo : Int)) = (brs l x).lo by rw [bearT, if_pos c10H.out]; (try rfl))
        have Hx75 := Lib.hid (show (((bearT l x).hi : Int)) = (brs l x).hi by rw [bearT, if_pos c10H.out]; (try rfl))
        have Hx76 := Lib.hid (show ((bearS l x : Int)) = 3 by rw [bearS, if_pos c10H.out]; unfold soundV; (repeat' split) <;> first | rfl | (exfalso; have := c11H.out; have := c34H.out; omega))
        have Hx77 := Lib.hid (show ((allE l x [] : Int)) = 0 by exact c10H.out)
        go_wp2_with fail
        have kb78 := F73.bx2 0 rfl
        go_wp2_with fail
        exact bodyPost_ret (v := .tuple #[.agg #[.int .i64 ((brs l x).lo), .int .i64 ((brs l x).hi)], .int .i64 3, .int .i64 0]) (by simp [results, Tryd.results38, go_sem, kb78]) rfl (⟨by rw [Hx74.out, Hx75.out, Hx76.out, Hx77.out] <;> rfl, F73.gb⟩)
  · skip
    have c10a : ((allE l x []) == 0) = false := beq_f c10
    have c10b : ((allE l x []) != 0) = true := bne_t c10
    have c10H := Lib.hid c10
    clear c10
    have Hx79 := Lib.hid (show (((bearT l x).lo : Int)) = 0 by rw [bearT, if_neg c10H.out]; (try rfl))
    have Hx80 := Lib.hid (show (((bearT l x).hi : Int)) = 0 by rw [bearT, if_neg c10H.out]; (try rfl))
    have Hx81 := Lib.hid (show ((bearS l x : Int)) = 0 by rw [bearS, if_neg c10H.out])
    have b82 := F9.bx2 0 rfl
    go_wp2_with fail
    clear b82
    have F83 := F9.pt2 (.int .i64 0) (.int .i64 0)
    clear F9
    have kb84 := F83.bx2 0 rfl
    go_wp2_with fail
    exact bodyPost_ret (v := .tuple #[.agg #[.int .i64 0, .int .i64 0], .int .i64 0, .int .i64 (allE l x [])]) (by simp [results, Tryd.results38, go_sem, kb84]) rfl (⟨by rw [Hx79.out, Hx80.out, Hx81.out] <;> rfl, F83.gb⟩)

end Go.Proofs.YtgkjicejaalijaaDoor
