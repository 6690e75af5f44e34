/- frost: what is known with true ice more. -/
import Derived.Test.YthblaiefalbomaaFP3
import Derived.Test.YthblaiefalbomaaF33
import Derived.Test.YthblaiefalbomaaF37
import Derived.Test.YthblaiefalbomaaF25
import Derived.Test.YthblaiefalbomaaHs
set_option linter.unusedVariables false
set_option linter.unusedSimpArgs false
set_option linter.unnecessarySimpa false
namespace Go.Proofs.Ythblaiefalbomaa
open Go.RowKit
set_option maxRecDepth 100000

set_option maxHeartbeats 16000000 in
theorem wider_c (x : Ice) (t : Tr) (fi : Bool) (w : World)  :
    Calls Try.prog 23 #[.agg (iceC x), .agg #[.int .i64 t.bl, .int .i64 t.wh, .int .i64 t.we, .int .i64 t.sn], .bool fi] w (Ret (.agg #[.int .i64 ((widI x t fi).bl.lo), .int .i64 ((widI x t fi).bl.hi), .int .i64 ((widI x t fi).wh.lo), .int .i64 ((widI x t fi).wh.hi), .int .i64 ((widI x t fi).we.lo), .int .i64 ((widI x t fi).we.hi), .int .i64 ((widI x t fi).sn.lo), .int .i64 ((widI x t fi).sn.hi)]) w) := by
  have F1 : Bun w [] w := Bun.nil _
  go_enter Try.func23, Try.ntmps23
  cases c2 : fi
  · skip
    have c2H := Lib.hid c2
    go_wp2_with fail
    have F3 := F1.new 32 (iceC x) (n := w.heap.size) (by simp)
    clear F1
    have F4 := F3.new 48 #[.int .i64 t.bl, .int .i64 t.wh, .int .i64 t.we, .int .i64 t.sn] (n := (w.heap.size + 1)) (by simp)
    clear F3
    have F5 := F4.new 32 (z8) (n := (w.heap.size + 2)) (by simp)
    clear F4
    have F6 := F5.new 3 #[.int .i64 t.bl, .int .i64 t.wh, .int .i64 t.we, .int .i64 t.sn] (n := (w.heap.size + 3)) (by simp)
    clear F5
    have F7 := F6.new 108 #[.pointer (some ⟨w.heap.size, 0, none⟩), .pointer (some ⟨w.heap.size, 2, none⟩), .pointer (some ⟨w.heap.size, 4, none⟩), .pointer (some ⟨w.heap.size, 6, none⟩)] (n := (w.heap.size + 4)) (by simp)
    clear F6
    refine wp_loop_rounds 5 ?_
    rw [rounds_succ]
    go_wp2_with fail
    obtain ⟨w8, hx9, F11, hxs10⟩ := (show Bun w [rbox (w.heap.size + 4) 108 #[.pointer (some ⟨w.heap.size, 0, none⟩), .pointer (some ⟨w.heap.size, 2, none⟩), .pointer (some ⟨w.heap.size, 4, none⟩), .pointer (some ⟨w.heap.size, 6, none⟩)], rbox (w.heap.size + 3) 3 #[.int .i64 t.bl, .int .i64 t.wh, .int .i64 t.we, .int .i64 t.sn], rbox (w.heap.size + 2) 32 (z8), rbox w.heap.size 32 (iceC x)] _ from (F7.drop 3 rfl)).name
    (try simp at hxs10)
    rw [hx9]
    clear hx9 F7
    have F12 := F11.drew
    clear F11
    refine ru_begin (fun W => W.cell? ⟨(w.heap.size + 4), 0, none⟩ = some (.pointer (some ⟨w.heap.size, 0, none⟩)) ∧ W.cell? ⟨(w.heap.size + 3), 0, none⟩ = some (.int .i64 t.bl) ∧ W.cell? ⟨w.heap.size, 1, none⟩ = some (.int .i64 x.bl.hi)) 37 (by kernel_rfl) ?_ ?_
    · exact ⟨F12.cl 0 0 rfl rfl, F12.cl 1 0 rfl rfl, F12.cl 3 1 rfl rfl⟩
    obtain ⟨wd14, hwd_⟩ : ∃ x : World, w8.drew = x := ⟨_, rfl⟩
    rw [hwd_] at F12 ⊢
    have wd14s : w8.heap.size ≤ wd14.heap.size := by rw [← hwd_]; exact Nat.le_refl _
    clear hwd_
    have hS13 := (And.intro (F12.cl 0 0 rfl rfl) (And.intro (F12.cl 1 0 rfl rfl) (F12.cl 3 1 rfl rfl)))
    refine ru_t 0 [] ?_
    refine ru_t 1 [] ?_
    refine ru_t 2 [] ?_
    refine ru_t 3 [] ?_
    refine ru_t 4 [] ?_
    refine ru_t 5 [] ?_
    refine ru_t 6 [] ?_
    refine ru_t 7 [] ?_
    refine ru_t 8 [] ?_
    refine ru_t 9 [] ?_
    refine ru_t 10 [] ?_
    refine ru_t 11 [] ?_
    refine ru_t 12 [] ?_
    refine ru_t 13 [] ?_
    refine ru_t 15 [] ?_
    refine ru_t 16 [] ?_
    refine ru_t 17 [] ?_
    refine ru_t 18 [] ?_
    refine ru_t 20 [] ?_
    refine ru_t 21 [] ?_
    refine ru_t 22 [] ?_
    refine ru_t 23 [] ?_
    refine ru_t 24 [] ?_
    refine ru_t 25 [] ?_
    refine ru_t 26 [] ?_
    refine ru_t 27 [] ?_
    refine ru_t 28 [] ?_
    refine ru_t 29 [] ?_
    refine ru_t 30 [] ?_
    refine ru_t 31 [] ?_
    (try simp only [Act.put, List.setIfInBounds_toArray, List.set_cons_zero, List.set_cons_succ])
    clear hS13
    refine ru_one 14 rfl (by kernel_rfl) (fun K hK => ?_)
    have kq0_ := F12.cl 3 0 rfl rfl
    go_simp
    clear kq0_
    refine ru_back hK (by exact ⟨F12.cl 0 0 rfl rfl, F12.cl 1 0 rfl rfl, F12.cl 3 1 rfl rfl⟩) (fun hHeld => ?_)
    clear hK K
    (try simp only [Act.put, List.setIfInBounds_toArray, List.set_cons_zero, List.set_cons_succ])
    refine ru_p 19 ?_
    (try simp only [Act.put, List.setIfInBounds_toArray, List.set_cons_zero, List.set_cons_succ])
    refine ru_p 32 ?_
    (try simp only [Act.put, List.setIfInBounds_toArray, List.set_cons_zero, List.set_cons_succ])
    refine ru_p 33 ?_
    (try simp only [Act.put, List.setIfInBounds_toArray, List.set_cons_zero, List.set_cons_succ])
    refine ru_one 34 rfl (by kernel_rfl) (fun K hK => ?_)
    have kb_ := F12.bx8 3 rfl
    go_simp
    clear kb_
    have F15 := ((F12.front 3 rfl rfl).set 0 (.int .i64 (min x.bl.lo t.bl))).nf #[.int .i64 (min x.bl.lo t.bl), .int .i64 x.bl.hi, .int .i64 x.wh.lo, .int .i64 x.wh.hi, .int .i64 x.we.lo, .int .i64 x.we.hi, .int .i64 x.sn.lo, .int .i64 x.sn.hi] rfl
    clear F12
    refine ru_back hK (by exact ⟨F15.cl 1 0 rfl rfl, F15.cl 2 0 rfl rfl, F15.cl 0 1 rfl rfl⟩) (fun hHeld => ?_)
    clear hK K
    (try simp only [Act.put, List.setIfInBounds_toArray, List.set_cons_zero, List.set_cons_succ])
    refine ru_p 35 ?_
    (try simp only [Act.put, List.setIfInBounds_toArray, List.set_cons_zero, List.set_cons_succ])
    refine ru_p 36 ?_
    (try simp only [Act.put, List.setIfInBounds_toArray, List.set_cons_zero, List.set_cons_succ])
    refine ru_one 37 rfl (by kernel_rfl) (fun K hK => ?_)
    have kb_ := F15.bx8 0 rfl
    go_simp
    clear kb_
    have F16 := (F15.set 1 (.int .i64 (max x.bl.hi t.bl))).nf #[.int .i64 (min x.bl.lo t.bl), .int .i64 (max x.bl.hi t.bl), .int .i64 x.wh.lo, .int .i64 x.wh.hi, .int .i64 x.we.lo, .int .i64 x.we.hi, .int .i64 x.sn.lo, .int .i64 x.sn.hi] rfl
    clear F15
    refine ru_back_late hK (by kernel_rfl) ?_
    clear hK K
    (try simp only [Act.put, List.setIfInBounds_toArray, List.set_cons_zero, List.set_cons_succ])
    refine ru_done (by kernel_rfl) ?_
    obtain ⟨w17, hx18, F20, hxs19⟩ := (show Bun w [rbox w.heap.size 32 #[.int .i64 (min x.bl.lo t.bl), .int .i64 (max x.bl.hi t.bl), .int .i64 x.wh.lo, .int .i64 x.wh.hi, .int .i64 x.we.lo, .int .i64 x.we.hi, .int .i64 x.sn.lo, .int .i64 x.sn.hi], rbox (w.heap.size + 4) 108 #[.pointer (some ⟨w.heap.size, 0, none⟩), .pointer (some ⟨w.heap.size, 2, none⟩), .pointer (some ⟨w.heap.size, 4, none⟩), .pointer (some ⟨w.heap.size, 6, none⟩)], rbox (w.heap.size + 3) 3 #[.int .i64 t.bl, .int .i64 t.wh, .int .i64 t.we, .int .i64 t.sn], rbox (w.heap.size + 2) 32 (z8)] _ from F16).name
    (try simp at hxs19)
    rw [hx18]
    clear hx18 F16
    go_wp2_with fail
    rw [rounds_succ]
    go_wp2_with fail
    have F21 := F20.drew
    clear F20
    refine ru_begin (fun W => W.cell? ⟨(w.heap.size + 4), 1, none⟩ = some (.pointer (some ⟨w.heap.size, 2, none⟩)) ∧ W.cell? ⟨(w.heap.size + 3), 1, none⟩ = some (.int .i64 t.wh) ∧ W.cell? ⟨w.heap.size, 3, none⟩ = some (.int .i64 x.wh.hi)) 37 (by kernel_rfl) ?_ ?_
    · exact ⟨F21.cl 1 1 rfl rfl, F21.cl 2 1 rfl rfl, F21.cl 0 3 rfl rfl⟩
    obtain ⟨wd23, hwd_⟩ : ∃ x : World, w17.drew = x := ⟨_, rfl⟩
    rw [hwd_] at F21 ⊢
    have wd23s : w17.heap.size ≤ wd23.heap.size := by rw [← hwd_]; exact Nat.le_refl _
    clear hwd_
    have hS22 := (And.intro (F21.cl 1 1 rfl rfl) (And.intro (F21.cl 2 1 rfl rfl) (F21.cl 0 3 rfl rfl)))
    refine ru_t 0 [] ?_
    refine ru_t 1 [] ?_
    refine ru_t 2 [] ?_
    refine ru_t 3 [] ?_
    refine ru_t 4 [] ?_
    refine ru_t 5 [] ?_
    refine ru_t 6 [] ?_
    refine ru_t 7 [] ?_
    refine ru_t 8 [] ?_
    refine ru_t 9 [] ?_
    refine ru_t 10 [] ?_
    refine ru_t 11 [] ?_
    refine ru_t 12 [] ?_
    refine ru_t 13 [] ?_
    refine ru_t 15 [] ?_
    refine ru_t 16 [] ?_
    refine ru_t 17 [] ?_
    refine ru_t 18 [] ?_
    refine ru_t 20 [] ?_
    refine ru_t 21 [] ?_
    refine ru_t 22 [] ?_
    refine ru_t 23 [] ?_
    refine ru_t 24 [] ?_
    refine ru_t 25 [] ?_
    refine ru_t 26 [] ?_
    refine ru_t 27 [] ?_
    refine ru_t 28 [] ?_
    refine ru_t 29 [] ?_
    refine ru_t 30 [] ?_
    refine ru_t 31 [] ?_
    (try simp only [Act.put, List.setIfInBounds_toArray, List.set_cons_zero, List.set_cons_succ])
    clear hS22
    refine ru_one 14 rfl (by kernel_rfl) (fun K hK => ?_)
    have kq0_ := F21.cl 0 2 rfl rfl
    go_simp
    clear kq0_
    refine ru_back hK (by exact ⟨F21.cl 1 1 rfl rfl, F21.cl 2 1 rfl rfl, F21.cl 0 3 rfl rfl⟩) (fun hHeld => ?_)
    clear hK K
    (try simp only [Act.put, List.setIfInBounds_toArray, List.set_cons_zero, List.set_cons_succ])
    refine ru_p 19 ?_
    (try simp only [Act.put, List.setIfInBounds_toArray, List.set_cons_zero, List.set_cons_succ])
    refine ru_p 32 ?_
    (try simp only [Act.put, List.setIfInBounds_toArray, List.set_cons_zero, List.set_cons_succ])
    refine ru_p 33 ?_
    (try simp only [Act.put, List.setIfInBounds_toArray, List.set_cons_zero, List.set_cons_succ])
    refine ru_one 34 rfl (by kernel_rfl) (fun K hK => ?_)
    have kb_ := F21.bx8 0 rfl
    go_simp
    clear kb_
    have F24 := (F21.set 2 (.int .i64 (min x.wh.lo t.wh))).nf #[.int .i64 (min x.bl.lo t.bl), .int .i64 (max x.bl.hi t.bl), .int .i64 (min x.wh.lo t.wh), .int .i64 x.wh.hi, .int .i64 x.we.lo, .int .i64 x.we.hi, .int .i64 x.sn.lo, .int .i64 x.sn.hi] rfl
    clear F21
    refine ru_back hK (by exact ⟨F24.cl 1 1 rfl rfl, F24.cl 2 1 rfl rfl, F24.cl 0 3 rfl rfl⟩) (fun hHeld => ?_)
    clear hK K
    (try simp only [Act.put, List.setIfInBounds_toArray, List.set_cons_zero, List.set_cons_succ])
    refine ru_p 35 ?_
    (try simp only [Act.put, List.setIfInBounds_toArray, List.set_cons_zero, List.set_cons_succ])
    refine ru_p 36 ?_
    (try simp only [Act.put, List.setIfInBounds_toArray, List.set_cons_zero, List.set_cons_succ])
    refine ru_one 37 rfl (by kernel_rfl) (fun K hK => ?_)
    have kb_ := F24.bx8 0 rfl
    go_simp
    clear kb_
    have F25 := (F24.set 3 (.int .i64 (max x.wh.hi t.wh))).nf #[.int .i64 (min x.bl.lo t.bl), .int .i64 (max x.bl.hi t.bl), .int .i64 (min x.wh.lo t.wh), .int .i64 (max x.wh.hi t.wh), .int .i64 x.we.lo, .int .i64 x.we.hi, .int .i64 x.sn.lo, .int .i64 x.sn.hi] rfl
    clear F24
    refine ru_back_late hK (by kernel_rfl) ?_
    clear hK K
    (try simp only [Act.put, List.setIfInBounds_toArray, List.set_cons_zero, List.set_cons_succ])
    refine ru_done (by kernel_rfl) ?_
    obtain ⟨w26, hx27, F29, hxs28⟩ := (show Bun w [rbox w.heap.size 32 #[.int .i64 (min x.bl.lo t.bl), .int .i64 (max x.bl.hi t.bl), .int .i64 (min x.wh.lo t.wh), .int .i64 (max x.wh.hi t.wh), .int .i64 x.we.lo, .int .i64 x.we.hi, .int .i64 x.sn.lo, .int .i64 x.sn.hi], rbox (w.heap.size + 4) 108 #[.pointer (some ⟨w.heap.size, 0, none⟩), .pointer (some ⟨w.heap.size, 2, none⟩), .pointer (some ⟨w.heap.size, 4, none⟩), .pointer (some ⟨w.heap.size, 6, none⟩)], rbox (w.heap.size + 3) 3 #[.int .i64 t.bl, .int .i64 t.wh, .int .i64 t.we, .int .i64 t.sn], rbox (w.heap.size + 2) 32 (z8)] _ from F25).name
    (try simp at hxs28)
    rw [hx27]
    clear hx27 F25
    go_wp2_with fail
    rw [rounds_succ]
    go_wp2_with fail
    have F30 := F29.drew
    clear F29
    refine ru_begin (fun W => W.cell? ⟨(w.heap.size + 4), 2, none⟩ = some (.pointer (some ⟨w.heap.size, 4, none⟩)) ∧ W.cell? ⟨(w.heap.size + 3), 2, none⟩ = some (.int .i64 t.we) ∧ W.cell? ⟨w.heap.size, 5, none⟩ = some (.int .i64 x.we.hi)) 37 (by kernel_rfl) ?_ ?_
    · exact ⟨F30.cl 1 2 rfl rfl, F30.cl 2 2 rfl rfl, F30.cl 0 5 rfl rfl⟩
    obtain ⟨wd32, hwd_⟩ : ∃ x : World, w26.drew = x := ⟨_, rfl⟩
    rw [hwd_] at F30 ⊢
    have wd32s : w26.heap.size ≤ wd32.heap.size := by rw [← hwd_]; exact Nat.le_refl _
    clear hwd_
    have hS31 := (And.intro (F30.cl 1 2 rfl rfl) (And.intro (F30.cl 2 2 rfl rfl) (F30.cl 0 5 rfl rfl)))
    refine ru_t 0 [] ?_
    refine ru_t 1 [] ?_
    refine ru_t 2 [] ?_
    refine ru_t 3 [] ?_
    refine ru_t 4 [] ?_
    refine ru_t 5 [] ?_
    refine ru_t 6 [] ?_
    refine ru_t 7 [] ?_
    refine ru_t 8 [] ?_
    refine ru_t 9 [] ?_
    refine ru_t 10 [] ?_
    refine ru_t 11 [] ?_
    refine ru_t 12 [] ?_
    refine ru_t 13 [] ?_
    refine ru_t 15 [] ?_
    refine ru_t 16 [] ?_
    refine ru_t 17 [] ?_
    refine ru_t 18 [] ?_
    refine ru_t 20 [] ?_
    refine ru_t 21 [] ?_
    refine ru_t 22 [] ?_
    refine ru_t 23 [] ?_
    refine ru_t 24 [] ?_
    refine ru_t 25 [] ?_
    refine ru_t 26 [] ?_
    refine ru_t 27 [] ?_
    refine ru_t 28 [] ?_
    refine ru_t 29 [] ?_
    refine ru_t 30 [] ?_
    refine ru_t 31 [] ?_
    (try simp only [Act.put, List.setIfInBounds_toArray, List.set_cons_zero, List.set_cons_succ])
    clear hS31
    refine ru_one 14 rfl (by kernel_rfl) (fun K hK => ?_)
    have kq0_ := F30.cl 0 4 rfl rfl
    go_simp
    clear kq0_
    refine ru_back hK (by exact ⟨F30.cl 1 2 rfl rfl, F30.cl 2 2 rfl rfl, F30.cl 0 5 rfl rfl⟩) (fun hHeld => ?_)
    clear hK K
    (try simp only [Act.put, List.setIfInBounds_toArray, List.set_cons_zero, List.set_cons_succ])
    refine ru_p 19 ?_
    (try simp only [Act.put, List.setIfInBounds_toArray, List.set_cons_zero, List.set_cons_succ])
    refine ru_p 32 ?_
    (try simp only [Act.put, List.setIfInBounds_toArray, List.set_cons_zero, List.set_cons_succ])
    refine ru_p 33 ?_
    (try simp only [Act.put, List.setIfInBounds_toArray, List.set_cons_zero, List.set_cons_succ])
    refine ru_one 34 rfl (by kernel_rfl) (fun K hK => ?_)
    have kb_ := F30.bx8 0 rfl
    go_simp
    clear kb_
    have F33 := (F30.set 4 (.int .i64 (min x.we.lo t.we))).nf #[.int .i64 (min x.bl.lo t.bl), .int .i64 (max x.bl.hi t.bl), .int .i64 (min x.wh.lo t.wh), .int .i64 (max x.wh.hi t.wh), .int .i64 (min x.we.lo t.we), .int .i64 x.we.hi, .int .i64 x.sn.lo, .int .i64 x.sn.hi] rfl
    clear F30
    refine ru_back hK (by exact ⟨F33.cl 1 2 rfl rfl, F33.cl 2 2 rfl rfl, F33.cl 0 5 rfl rfl⟩) (fun hHeld => ?_)
    clear hK K
    (try simp only [Act.put, List.setIfInBounds_toArray, List.set_cons_zero, List.set_cons_succ])
    refine ru_p 35 ?_
    (try simp only [Act.put, List.setIfInBounds_toArray, List.set_cons_zero, List.set_cons_succ])
    refine ru_p 36 ?_
    (try simp only [Act.put, List.setIfInBounds_toArray, List.set_cons_zero, List.set_cons_succ])
    refine ru_one 37 rfl (by kernel_rfl) (fun K hK => ?_)
    have kb_ := F33.bx8 0 rfl
    go_simp
    clear kb_
    have F34 := (F33.set 5 (.int .i64 (max x.we.hi t.we))).nf #[.int .i64 (min x.bl.lo t.bl), .int .i64 (max x.bl.hi t.bl), .int .i64 (min x.wh.lo t.wh), .int .i64 (max x.wh.hi t.wh), .int .i64 (min x.we.lo t.we), .int .i64 (max x.we.hi t.we), .int .i64 x.sn.lo, .int .i64 x.sn.hi] rfl
    clear F33
    refine ru_back_late hK (by kernel_rfl) ?_
    clear hK K
    (try simp only [Act.put, List.setIfInBounds_toArray, List.set_cons_zero, List.set_cons_succ])
    refine ru_done (by kernel_rfl) ?_
    obtain ⟨w35, hx36, F38, hxs37⟩ := (show Bun w [rbox w.heap.size 32 #[.int .i64 (min x.bl.lo t.bl), .int .i64 (max x.bl.hi t.bl), .int .i64 (min x.wh.lo t.wh), .int .i64 (max x.wh.hi t.wh), .int .i64 (min x.we.lo t.we), .int .i64 (max x.we.hi t.we), .int .i64 x.sn.lo, .int .i64 x.sn.hi], rbox (w.heap.size + 4) 108 #[.pointer (some ⟨w.heap.size, 0, none⟩), .pointer (some ⟨w.heap.size, 2, none⟩), .pointer (some ⟨w.heap.size, 4, none⟩), .pointer (some ⟨w.heap.size, 6, none⟩)], rbox (w.heap.size + 3) 3 #[.int .i64 t.bl, .int .i64 t.wh, .int .i64 t.we, .int .i64 t.sn], rbox (w.heap.size + 2) 32 (z8)] _ from F34).name
    (try simp at hxs37)
    rw [hx36]
    clear hx36 F34
    go_wp2_with fail
    rw [rounds_succ]
    go_wp2_with fail
    have F39 := F38.drew
    clear F38
    refine ru_begin (fun W => W.cell? ⟨(w.heap.size + 4), 3, none⟩ = some (.pointer (some ⟨w.heap.size, 6, none⟩)) ∧ W.cell? ⟨(w.heap.size + 3), 3, none⟩ = some (.int .i64 t.sn) ∧ W.cell? ⟨w.heap.size, 7, none⟩ = some (.int .i64 x.sn.hi)) 37 (by kernel_rfl) ?_ ?_
    · exact ⟨F39.cl 1 3 rfl rfl, F39.cl 2 3 rfl rfl, F39.cl 0 7 rfl rfl⟩
    obtain ⟨wd41, hwd_⟩ : ∃ x : World, w35.drew = x := ⟨_, rfl⟩
    rw [hwd_] at F39 ⊢
    have wd41s : w35.heap.size ≤ wd41.heap.size := by rw [← hwd_]; exact Nat.le_refl _
    clear hwd_
    have hS40 := (And.intro (F39.cl 1 3 rfl rfl) (And.intro (F39.cl 2 3 rfl rfl) (F39.cl 0 7 rfl rfl)))
    refine ru_t 0 [] ?_
    refine ru_t 1 [] ?_
    refine ru_t 2 [] ?_
    refine ru_t 3 [] ?_
    refine ru_t 4 [] ?_
    refine ru_t 5 [] ?_
    refine ru_t 6 [] ?_
    refine ru_t 7 [] ?_
    refine ru_t 8 [] ?_
    refine ru_t 9 [] ?_
    refine ru_t 10 [] ?_
    refine ru_t 11 [] ?_
    refine ru_t 12 [] ?_
    refine ru_t 13 [] ?_
    refine ru_t 15 [] ?_
    refine ru_t 16 [] ?_
    refine ru_t 17 [] ?_
    refine ru_t 18 [] ?_
    refine ru_t 20 [] ?_
    refine ru_t 21 [] ?_
    refine ru_t 22 [] ?_
    refine ru_t 23 [] ?_
    refine ru_t 24 [] ?_
    refine ru_t 25 [] ?_
    refine ru_t 26 [] ?_
    refine ru_t 27 [] ?_
    refine ru_t 28 [] ?_
    refine ru_t 29 [] ?_
    refine ru_t 30 [] ?_
    refine ru_t 31 [] ?_
    (try simp only [Act.put, List.setIfInBounds_toArray, List.set_cons_zero, List.set_cons_succ])
    clear hS40
    refine ru_one 14 rfl (by kernel_rfl) (fun K hK => ?_)
    have kq0_ := F39.cl 0 6 rfl rfl
    go_simp
    clear kq0_
    refine ru_back hK (by exact ⟨F39.cl 1 3 rfl rfl, F39.cl 2 3 rfl rfl, F39.cl 0 7 rfl rfl⟩) (fun hHeld => ?_)
    clear hK K
    (try simp only [Act.put, List.setIfInBounds_toArray, List.set_cons_zero, List.set_cons_succ])
    refine ru_p 19 ?_
    (try simp only [Act.put, List.setIfInBounds_toArray, List.set_cons_zero, List.set_cons_succ])
    refine ru_p 32 ?_
    (try simp only [Act.put, List.setIfInBounds_toArray, List.set_cons_zero, List.set_cons_succ])
    refine ru_p 33 ?_
    (try simp only [Act.put, List.setIfInBounds_toArray, List.set_cons_zero, List.set_cons_succ])
    refine ru_one 34 rfl (by kernel_rfl) (fun K hK => ?_)
    have kb_ := F39.bx8 0 rfl
    go_simp
    clear kb_
    have F42 := (F39.set 6 (.int .i64 (min x.sn.lo t.sn))).nf #[.int .i64 (min x.bl.lo t.bl), .int .i64 (max x.bl.hi t.bl), .int .i64 (min x.wh.lo t.wh), .int .i64 (max x.wh.hi t.wh), .int .i64 (min x.we.lo t.we), .int .i64 (max x.we.hi t.we), .int .i64 (min x.sn.lo t.sn), .int .i64 x.sn.hi] rfl
    clear F39
    refine ru_back hK (by exact ⟨F42.cl 1 3 rfl rfl, F42.cl 2 3 rfl rfl, F42.cl 0 7 rfl rfl⟩) (fun hHeld => ?_)
    clear hK K
    (try simp only [Act.put, List.setIfInBounds_toArray, List.set_cons_zero, List.set_cons_succ])
    refine ru_p 35 ?_
    (try simp only [Act.put, List.setIfInBounds_toArray, List.set_cons_zero, List.set_cons_succ])
    refine ru_p 36 ?_
    (try simp only [Act.put, List.setIfInBounds_toArray, List.set_cons_zero, List.set_cons_succ])
    refine ru_one 37 rfl (by kernel_rfl) (fun K hK => ?_)
    have kb_ := F42.bx8 0 rfl
    go_simp
    clear kb_
    have F43 := (F42.set 7 (.int .i64 (max x.sn.hi t.sn))).nf #[.int .i64 (min x.bl.lo t.bl), .int .i64 (max x.bl.hi t.bl), .int .i64 (min x.wh.lo t.wh), .int .i64 (max x.wh.hi t.wh), .int .i64 (min x.we.lo t.we), .int .i64 (max x.we.hi t.we), .int .i64 (min x.sn.lo t.sn), .int .i64 (max x.sn.hi t.sn)] rfl
    clear F42
    refine ru_back_late hK (by kernel_rfl) ?_
    clear hK K
    (try simp only [Act.put, List.setIfInBounds_toArray, List.set_cons_zero, List.set_cons_succ])
    refine ru_done (by kernel_rfl) ?_
    obtain ⟨w44, hx45, F47, hxs46⟩ := (show Bun w [rbox w.heap.size 32 #[.int .i64 (min x.bl.lo t.bl), .int .i64 (max x.bl.hi t.bl), .int .i64 (min x.wh.lo t.wh), .int .i64 (max x.wh.hi t.wh), .int .i64 (min x.we.lo t.we), .int .i64 (max x.we.hi t.we), .int .i64 (min x.sn.lo t.sn), .int .i64 (max x.sn.hi t.sn)], rbox (w.heap.size + 4) 108 #[.pointer (some ⟨w.heap.size, 0, none⟩), .pointer (some ⟨w.heap.size, 2, none⟩), .pointer (some ⟨w.heap.size, 4, none⟩), .pointer (some ⟨w.heap.size, 6, none⟩)], rbox (w.heap.size + 3) 3 #[.int .i64 t.bl, .int .i64 t.wh, .int .i64 t.we, .int .i64 t.sn], rbox (w.heap.size + 2) 32 (z8)] _ from F43).name
    (try simp at hxs46)
    rw [hx45]
    clear hx45 F43
    go_wp2_with fail
    rw [rounds_succ]
    have b48 := F47.bx8 0 rfl
    have b49 := F47.bx8 3 rfl
    go_wp2_with fail
    clear b48 b49
    have F50 := (F47.front 3 rfl rfl).pt8 (.int .i64 (min x.bl.lo t.bl)) (.int .i64 (max x.bl.hi t.bl)) (.int .i64 (min x.wh.lo t.wh)) (.int .i64 (max x.wh.hi t.wh)) (.int .i64 (min x.we.lo t.we)) (.int .i64 (max x.we.hi t.we)) (.int .i64 (min x.sn.lo t.sn)) (.int .i64 (max x.sn.hi t.sn))
    clear F47
    have kb51 := F50.bx8 0 rfl
    go_wp2_with fail
    exact bodyPost_ret (v := .agg #[.int .i64 (min x.bl.lo t.bl), .int .i64 (max x.bl.hi t.bl), .int .i64 (min x.wh.lo t.wh), .int .i64 (max x.wh.hi t.wh), .int .i64 (min x.we.lo t.we), .int .i64 (max x.we.hi t.we), .int .i64 (min x.sn.lo t.sn), .int .i64 (max x.sn.hi t.sn)]) (by simp [results, Try.results23, go_sem, kb51]) rfl (⟨rfl, F50.gb⟩)
  · skip
    have c2H := Lib.hid c2
    go_wp2_with fail
    have F52 := F1.new 32 (iceC x) (n := w.heap.size) (by simp)
    clear F1
    have F53 := F52.new 48 #[.int .i64 t.bl, .int .i64 t.wh, .int .i64 t.we, .int .i64 t.sn] (n := (w.heap.size + 1)) (by simp)
    clear F52
    have F54 := F53.new 32 (z8) (n := (w.heap.size + 2)) (by simp)
    clear F53
    obtain ⟨w55, hx56, F58, hxs57⟩ := (show Bun w [rbox (w.heap.size + 2) 32 (z8), rbox (w.heap.size + 1) 48 #[.int .i64 t.bl, .int .i64 t.wh, .int .i64 t.we, .int .i64 t.sn], rbox w.heap.size 32 (iceC x)] _ from F54).name
    (try simp at hxs57)
    rw [hx56]
    clear hx56 F54
    have F59 := F58.drew
    clear F58
    refine ru_begin (fun W => W.cell? ⟨(w.heap.size + 1), 0, none⟩ = some (.int .i64 t.bl) ∧ W.cell? ⟨(w.heap.size + 1), 1, none⟩ = some (.int .i64 t.wh) ∧ W.cell? ⟨(w.heap.size + 1), 2, none⟩ = some (.int .i64 t.we) ∧ W.cell? ⟨(w.heap.size + 1), 3, none⟩ = some (.int .i64 t.sn)) 13 (by kernel_rfl) ?_ ?_
    · exact ⟨F59.cl 1 0 rfl rfl, F59.cl 1 1 rfl rfl, F59.cl 1 2 rfl rfl, F59.cl 1 3 rfl rfl⟩
    obtain ⟨wd61, hwd_⟩ : ∃ x : World, w55.drew = x := ⟨_, rfl⟩
    rw [hwd_] at F59 ⊢
    have wd61s : w55.heap.size ≤ wd61.heap.size := by rw [← hwd_]; exact Nat.le_refl _
    clear hwd_
    have hS60 := (And.intro (F59.cl 1 0 rfl rfl) (And.intro (F59.cl 1 1 rfl rfl) (And.intro (F59.cl 1 2 rfl rfl) (F59.cl 1 3 rfl rfl))))
    refine ru_t 0 [] ?_
    refine ru_t 1 [] ?_
    refine ru_t 3 [] ?_
    refine ru_t 4 [] ?_
    refine ru_t 6 [] ?_
    refine ru_t 7 [] ?_
    refine ru_t 9 [] ?_
    refine ru_t 10 [] ?_
    (try simp only [Act.put, List.setIfInBounds_toArray, List.set_cons_zero, List.set_cons_succ])
    clear hS60
    refine ru_one 2 rfl (by kernel_rfl) (fun K hK => ?_)
    go_simp
    refine (one_c t.bl _).mono ?_
    rintro e w64 ⟨rfl, hg62⟩
    have hg62s := hg62.size
    (try simp at hg62s)
    have F65 := F59.gn hg62
    clear F59
    refine ru_back hK (by exact ⟨F65.cl 1 0 rfl rfl, F65.cl 1 1 rfl rfl, F65.cl 1 2 rfl rfl, F65.cl 1 3 rfl rfl⟩) (fun hHeld => ?_)
    clear hK K
    (try simp only [Act.put, List.setIfInBounds_toArray, List.set_cons_zero, List.set_cons_succ])
    refine ru_one 5 rfl (by kernel_rfl) (fun K hK => ?_)
    go_simp
    refine (one_c t.wh _).mono ?_
    rintro e w68 ⟨rfl, hg66⟩
    have hg66s := hg66.size
    (try simp at hg66s)
    have F69 := F65.gn hg66
    clear F65
    refine ru_back hK (by exact ⟨F69.cl 1 0 rfl rfl, F69.cl 1 1 rfl rfl, F69.cl 1 2 rfl rfl, F69.cl 1 3 rfl rfl⟩) (fun hHeld => ?_)
    clear hK K
    (try simp only [Act.put, List.setIfInBounds_toArray, List.set_cons_zero, List.set_cons_succ])
    refine ru_one 8 rfl (by kernel_rfl) (fun K hK => ?_)
    go_simp
    refine (one_c t.we _).mono ?_
    rintro e w72 ⟨rfl, hg70⟩
    have hg70s := hg70.size
    (try simp at hg70s)
    have F73 := F69.gn hg70
    clear F69
    refine ru_back hK (by exact ⟨F73.cl 1 0 rfl rfl, F73.cl 1 1 rfl rfl, F73.cl 1 2 rfl rfl, F73.cl 1 3 rfl rfl⟩) (fun hHeld => ?_)
    clear hK K
    (try simp only [Act.put, List.setIfInBounds_toArray, List.set_cons_zero, List.set_cons_succ])
    refine ru_one 11 rfl (by kernel_rfl) (fun K hK => ?_)
    go_simp
    refine (one_c t.sn _).mono ?_
    rintro e w76 ⟨rfl, hg74⟩
    have hg74s := hg74.size
    (try simp at hg74s)
    have F77 := F73.gn hg74
    clear F73
    refine ru_back hK (by exact ⟨F77.cl 1 0 rfl rfl, F77.cl 1 1 rfl rfl, F77.cl 1 2 rfl rfl, F77.cl 1 3 rfl rfl⟩) (fun hHeld => ?_)
    clear hK K
    (try simp only [Act.put, List.setIfInBounds_toArray, List.set_cons_zero, List.set_cons_succ])
    refine ru_p 12 ?_
    (try simp only [Act.put, List.setIfInBounds_toArray, List.set_cons_zero, List.set_cons_succ])
    refine ru_one 13 rfl (by kernel_rfl) (fun K hK => ?_)
    have kb_ := F77.bx8 0 rfl
    go_simp
    clear kb_
    have F78 := F77.pt8 (.int .i64 t.bl) (.int .i64 t.bl) (.int .i64 t.wh) (.int .i64 t.wh) (.int .i64 t.we) (.int .i64 t.we) (.int .i64 t.sn) (.int .i64 t.sn)
    clear F77
    refine ru_back_late hK (by kernel_rfl) ?_
    clear hK K
    (try simp only [Act.put, List.setIfInBounds_toArray, List.set_cons_zero, List.set_cons_succ])
    refine ru_done (by kernel_rfl) ?_
    obtain ⟨w79, hx80, F82, hxs81⟩ := (show Bun w [rbox (w.heap.size + 2) 32 #[.int .i64 t.bl, .int .i64 t.bl, .int .i64 t.wh, .int .i64 t.wh, .int .i64 t.we, .int .i64 t.we, .int .i64 t.sn, .int .i64 t.sn]] _ from ((F78.drop 1 rfl).drop 1 rfl)).name
    (try simp at hxs81)
    rw [hx80]
    clear hx80 F78
    go_wp2_with fail
    have kb83 := F82.bx8 0 rfl
    go_wp2_with fail
    exact bodyPost_ret (v := .agg #[.int .i64 t.bl, .int .i64 t.bl, .int .i64 t.wh, .int .i64 t.wh, .int .i64 t.we, .int .i64 t.we, .int .i64 t.sn, .int .i64 t.sn]) (by simp [results, Try.results23, go_sem, kb83]) rfl (⟨rfl, F82.gb⟩)

end Go.Proofs.Ythblaiefalbomaa
