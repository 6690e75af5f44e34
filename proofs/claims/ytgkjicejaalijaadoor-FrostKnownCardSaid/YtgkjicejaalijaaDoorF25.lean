/- frost: the chapter's examples that every statement asks. -/
import Derived.Test.YtgkjicejaalijaaDoorF16
import Derived.Test.YtgkjicejaalijaaDoorF10
set_option linter.unusedVariables false
set_option linter.unusedSimpArgs false
set_option linter.unnecessarySimpa false
namespace Go.Proofs.YtgkjicejaalijaaDoor
open Go.RowKit
set_option maxRecDepth 100000

def lawF : Fro := ⟨100, 10, [⟨0, ⟨1000000, 1000000⟩⟩, ⟨100, ⟨400000, 500000⟩⟩], ⟨100000, 200000⟩, 300000, ⟨500000, 600000⟩⟩
def blk (b : Sp) : Ice := ⟨b, ⟨0, 0⟩, ⟨0, 0⟩, ⟨0, 0⟩⟩
def d160 : Wea := ⟨⟨160, 160⟩, ⟨0, 0⟩, 0, false⟩
theorem day160 {b1 b2 r1 r2 : Int} (h1 : root (b1 * b1 + 16000) = r1) (h2 : roof (b2 * b2 + 16000) = r2) : aft lawF (blk ⟨b1, b2⟩) d160 = blk ⟨r1, r2⟩ := by
  have e1 : (thr lawF.cov 0).lo = 1000000 := rfl
  have e2 : (thr lawF.cov 0).hi = 1000000 := rfl
  have hc : cvd lawF (blk ⟨b1, b2⟩) d160 = blk ⟨b1, b2⟩ := rfl
  have f1 : fewC lawF (blk ⟨b1, b2⟩) d160.cold = 160 := rfl
  have f2 : manyC lawF (blk ⟨b1, b2⟩) d160.cold = 160 := rfl
  have g1 : grw lawF b1 0 0 160 root = r1 := by
    unfold grw
    rw [show (b1 + (0 + 0)) * (b1 + (0 + 0)) + lawF.gr * (160 - 0 * lawF.la) = b1 * b1 + 16000 by simp [lawF]]
    omega
  have g2 : grw lawF b2 0 0 160 roof = r2 := by
    unfold grw
    rw [show (b2 + (0 + 0)) * (b2 + (0 + 0)) + lawF.gr * (160 - 0 * lawF.la) = b2 * b2 + 16000 by simp [lawF]]
    omega
  unfold aft
  rw [if_pos (by decide), hc]
  unfold frz
  rw [f1, f2, if_pos (by show (0 : Int) ≤ 160 / 10; decide), if_pos (by show (0 : Int) ≤ 160 / 10; decide)]
  show (⟨⟨grw lawF b1 0 0 160 root, grw lawF b2 0 0 160 roof⟩, _, _, _⟩ : Ice) = _
  rw [g1, g2]
  rfl
theorem roof_of {n r : Int} (h : isRoot n r) (hn : r * r < n) : roof n = r + 1 := by
  have := root_eq h
  unfold roof
  rw [this, if_pos hn]
theorem st1 : aft lawF (blk ⟨300, 300⟩) d160 = blk ⟨325, 326⟩ := day160 (root_eq ⟨by decide, by decide, by decide⟩) (roof_of (r := 325) ⟨by decide, by decide, by decide⟩ (by decide))
theorem st2 : aft lawF (blk ⟨325, 326⟩) d160 = blk ⟨348, 350⟩ := day160 (root_eq ⟨by decide, by decide, by decide⟩) (roof_of (r := 349) ⟨by decide, by decide, by decide⟩ (by decide))
theorem st3 : aft lawF (blk ⟨348, 350⟩) d160 = blk ⟨370, 373⟩ := day160 (root_eq ⟨by decide, by decide, by decide⟩) (roof_of (r := 372) ⟨by decide, by decide, by decide⟩ (by decide))
theorem allE1 : allE lawF (blk ⟨300, 300⟩) [d160] = 0 := by decide
theorem allE3 : allE lawF (blk ⟨300, 300⟩) [d160, d160, d160] = 0 := by decide
theorem stepEx : stepI lawF (blk ⟨300, 300⟩) d160 = blk ⟨325, 326⟩ := by rw [stepI, if_pos allE1, st1]
theorem readyEE : readyE lawF (blk ⟨300, 300⟩) [d160, d160, d160] 350 = 0 := by rw [readyE, if_neg (not_not_intro allE3), if_neg (by decide)]
theorem stI1 : stI lawF (blk ⟨300, 300⟩) [d160, d160, d160] 1 = blk ⟨325, 326⟩ := st1
theorem stI2 : stI lawF (blk ⟨300, 300⟩) [d160, d160, d160] 2 = blk ⟨348, 350⟩ := by
  show aft lawF (aft lawF (blk ⟨300, 300⟩) d160) d160 = _
  rw [st1, st2]
theorem stI3 : stI lawF (blk ⟨300, 300⟩) [d160, d160, d160] 3 = blk ⟨370, 373⟩ := by
  show aft lawF (aft lawF (aft lawF (blk ⟨300, 300⟩) d160) d160) d160 = _
  rw [st1, st2, st3]
theorem readyES : readyS lawF (blk ⟨300, 300⟩) [d160, d160, d160] 350 = 3 := by
  rw [readyS, if_pos readyEE]
  refine fstP_yes (i := 2) (fun j hj => ?_) ?_ 3 (by omega)
  · rcases j with _ | _ | j
    · show sureB _ _ (stI _ _ _ 1) = false; rw [stI1]; decide
    · show sureB _ _ (stI _ _ _ 2) = false; rw [stI2]; decide
    · omega
  · show sureB _ _ (stI _ _ _ 3) = true; rw [stI3]; decide
theorem readyEP : readyP lawF (blk ⟨300, 300⟩) [d160, d160, d160] 350 = 2 := by
  rw [readyP, if_pos readyEE]
  refine fstP_yes (i := 1) (fun j hj => ?_) ?_ 3 (by omega)
  · rcases j with _ | j
    · show perhB _ _ (stI _ _ _ 1) = false; rw [stI1]; decide
    · omega
  · show perhB _ _ (stI _ _ _ 2) = true; rw [stI2]; decide
theorem root99 : root 99 = 9 := root_eq ⟨by decide, by decide, by decide⟩
/-- The calls of the examples. -/
theorem step_ex (lo hi : Nat) (v : Value) (w : World) (hl : Sl covEnc 3 lo hi w v lawF.cov) (h2 : hi ≤ w.heap.size) :
    Calls Tryd.prog 14 #[.agg (froC lawF v), .agg (iceC (blk ⟨300, 300⟩)), .agg (weaC d160 false)] w (Ret (.tuple #[.agg (iceC (blk ⟨325, 326⟩)), .int .i64 0]) w) := by
  have h := step_c lo hi v lawF (blk ⟨300, 300⟩) d160 w hl h2
  rw [stepEx, allE1] at h
  exact h
theorem ready_ex (lo hi lo2 hi2 : Nat) (v vd : Value) (w : World) (hl : Sl covEnc 3 lo hi w v lawF.cov) (h2 : hi ≤ w.heap.size) (hd : Sl weaEnc 6 lo2 hi2 w vd [d160, d160, d160]) (h3 : hi2 ≤ w.heap.size) :
    Calls Tryd.prog 31 #[.agg (froC lawF v), .agg (iceC (blk ⟨300, 300⟩)), vd, .int .i64 350] w (Ret (.tuple #[.int .i64 3, .int .i64 2, .int .i64 0]) w) := by
  have h := ready_c lo hi v lawF (blk ⟨300, 300⟩) lo2 hi2 vd [d160, d160, d160] 350 w hl h2 hd h3
  rw [readyES, readyEP, readyEE] at h
  exact h
theorem root_x99 (w : World) : Calls Tryd.prog 10 #[.int .i64 99] w (fun e w' => e = .returned (.int .i64 9) ∧ w = w') := by
  have h := root_c 99 w (by omega)
  rw [root99] at h
  exact h
theorem span_c (a b : Int) (w : World)  :
    Calls Tryd.prog 7 #[.int .i64 a, .int .i64 b] w (Ret (.agg #[.int .i64 a, .int .i64 b]) w) := by
  have F1 : Bun w [] w := Bun.nil _
  go_enter Tryd.func7, Tryd.ntmps7
  go_wp2_with fail
  have F2 := F1.new 24 #[.int .i64 a, .int .i64 b] (n := w.heap.size) (by simp)
  clear F1
  have kb3 := F2.bx2 0 rfl
  go_wp2_with fail
  exact bodyPost_ret (v := .agg #[.int .i64 a, .int .i64 b]) (by simp [results, Tryd.results7, go_sem, kb3]) rfl (⟨rfl, F2.gb⟩)

theorem one_c (a : Int) (w : World)  :
    Calls Tryd.prog 12 #[.int .i64 a] w (Ret (.agg #[.int .i64 a, .int .i64 a]) w) := by
  have F1 : Bun w [] w := Bun.nil _
  go_enter Tryd.func12, Tryd.ntmps12
  go_wp2_with fail
  have F2 := F1.new 24 #[.int .i64 0, .int .i64 0] (n := w.heap.size) (by simp)
  clear F1
  refine (span_c a a _).mono ?_
  rintro e w5 ⟨rfl, hg3⟩
  have hg3s := hg3.size
  (try simp at hg3s)
  have F6 := F2.gn hg3
  clear F2
  clear hg3
  have b7 := F6.bx2 0 rfl
  go_wp2_with fail
  clear b7
  have F8 := F6.pt2 (.int .i64 a) (.int .i64 a)
  clear F6
  have kb9 := F8.bx2 0 rfl
  go_wp2_with fail
  exact bodyPost_ret (v := .agg #[.int .i64 a, .int .i64 a]) (by simp [results, Tryd.results12, go_sem, kb9]) rfl (⟨rfl, F8.gb⟩)

theorem day_c (a b c : Int) (w : World)  :
    Calls Tryd.prog 13 #[.int .i64 a, .int .i64 b, .int .i64 c] w (Ret (.agg #[.int .i64 a, .int .i64 a, .int .i64 b, .int .i64 b, .int .i64 c, .bool false]) w) := by
  have F1 : Bun w [] w := Bun.nil _
  go_enter Tryd.func13, Tryd.ntmps13
  go_wp2_with fail
  have F2 := F1.new 42 #[.int .i64 0, .int .i64 0, .int .i64 0, .int .i64 0, .int .i64 0, .bool false] (n := w.heap.size) (by simp)
  clear F1
  refine (one_c a _).mono ?_
  rintro e w5 ⟨rfl, hg3⟩
  have hg3s := hg3.size
  (try simp at hg3s)
  have F6 := F2.gn hg3
  clear F2
  clear hg3
  go_wp2_with fail
  refine (one_c b _).mono ?_
  rintro e w9 ⟨rfl, hg7⟩
  have hg7s := hg7.size
  (try simp at hg7s)
  have F10 := F6.gn hg7
  clear F6
  clear hg7
  have b11 := F10.bx6 0 rfl
  go_wp2_with fail
  clear b11
  have F12 := F10.pt6 (.int .i64 a) (.int .i64 a) (.int .i64 b) (.int .i64 b) (.int .i64 c) (.bool false)
  clear F10
  have kb13 := F12.bx6 0 rfl
  go_wp2_with fail
  exact bodyPost_ret (v := .agg #[.int .i64 a, .int .i64 a, .int .i64 b, .int .i64 b, .int .i64 c, .bool false]) (by simp [results, Tryd.results13, go_sem, kb13]) rfl (⟨rfl, F12.gb⟩)

theorem black_c  (w : World)  :
    Calls Tryd.prog 11 #[] w (Ret (.agg #[.int .i64 300, .int .i64 300, .int .i64 0, .int .i64 0, .int .i64 0, .int .i64 0, .int .i64 0, .int .i64 0]) w) := by
  have F1 : Bun w [] w := Bun.nil _
  go_enter Tryd.func11, Tryd.ntmps11
  go_wp2_with fail
  have F2 := F1.new 37 (z8) (n := w.heap.size) (by simp)
  clear F1
  refine (one_c 300 _).mono ?_
  rintro e w5 ⟨rfl, hg3⟩
  have hg3s := hg3.size
  (try simp at hg3s)
  have F6 := F2.gn hg3
  clear F2
  clear hg3
  have b7 := F6.bx8 0 rfl
  go_wp2_with fail
  clear b7
  have F8 := F6.pt8 (.int .i64 300) (.int .i64 300) (.int .i64 0) (.int .i64 0) (.int .i64 0) (.int .i64 0) (.int .i64 0) (.int .i64 0)
  clear F6
  have kb9 := F8.bx8 0 rfl
  go_wp2_with fail
  exact bodyPost_ret (v := .agg #[.int .i64 300, .int .i64 300, .int .i64 0, .int .i64 0, .int .i64 0, .int .i64 0, .int .i64 0, .int .i64 0]) (by simp [results, Tryd.results11, go_sem, kb9]) rfl (⟨rfl, F8.gb⟩)

set_option maxHeartbeats 4000000 in
theorem law_c  (w : World)  :
    Calls Tryd.prog 6 #[] w (fun e w' => ∃ a lo hi, e = .returned (.agg (froC lawF (.slice (some ⟨a, 0, none⟩) 2 2))) ∧ w.heap.size ≤ lo ∧ hi ≤ w'.heap.size ∧ Sl covEnc 3 lo hi w' (.slice (some ⟨a, 0, none⟩) 2 2) lawF.cov ∧ w.grownBy w' none) := by
  have F1 : Bun w [] w := Bun.nil _
  go_enter Tryd.func6, Tryd.ntmps6
  go_wp2_with fail
  have F2 := F1.new 26 #[.int .i64 0, .int .i64 0, .slice none 0 0, .int .i64 0, .int .i64 0, .int .i64 0, .int .i64 0, .int .i64 0] (n := w.heap.size) (by simp)
  clear F1
  refine (one_c 1000000 _).mono ?_
  rintro e w5 ⟨rfl, hg3⟩
  have hg3s := hg3.size
  (try simp at hg3s)
  have F6 := F2.gn hg3
  clear F2
  clear hg3
  go_wp2_with fail
  refine (span_c 400000 500000 _).mono ?_
  rintro e w9 ⟨rfl, hg7⟩
  have hg7s := hg7.size
  (try simp at hg7s)
  have F10 := F6.gn hg7
  clear F6
  clear hg7
  go_wp2_with fail
  have F11 := F10.new 31 #[.int .i64 0, .int .i64 1000000, .int .i64 1000000, .int .i64 100, .int .i64 400000, .int .i64 500000] (n := w9.heap.size) (by simp)
  clear F10
  refine (span_c 100000 200000 _).mono ?_
  rintro e w14 ⟨rfl, hg12⟩
  have hg12s := hg12.size
  (try simp at hg12s)
  have F15 := F11.gn hg12
  clear F11
  clear hg12
  go_wp2_with fail
  refine (span_c 500000 600000 _).mono ?_
  rintro e w18 ⟨rfl, hg16⟩
  have hg16s := hg16.size
  (try simp at hg16s)
  have F19 := F15.gn hg16
  clear F15
  clear hg16
  have b20 := F19.bx8 1 rfl
  go_wp2_with fail
  clear b20
  have F21 := (F19.front 1 rfl rfl).pt8 (.int .i64 100) (.int .i64 10) (.slice (some ⟨w9.heap.size, 0, none⟩) 2 2) (.int .i64 100000) (.int .i64 200000) (.int .i64 300000) (.int .i64 500000) (.int .i64 600000)
  clear F19
  have kb22 := F21.bx8 0 rfl
  go_wp2_with fail
  exact bodyPost_ret (v := .agg #[.int .i64 100, .int .i64 10, .slice (some ⟨w9.heap.size, 0, none⟩) 2 2, .int .i64 100000, .int .i64 200000, .int .i64 300000, .int .i64 500000, .int .i64 600000]) (by simp [results, Tryd.results6, go_sem, kb22]) rfl (⟨_, w9.heap.size, w9.heap.size + 1, rfl, by first | omega | (simp; omega), by have := ((F21.at 1 rfl : Bk _ w9.heap.size 31 #[.int .i64 0, .int .i64 1000000, .int .i64 1000000, .int .i64 100, .int .i64 400000, .int .i64 500000])).lt; omega, Sl.of_bk (enc := covEnc) (sz := 3) (l := lawF.cov) (F21.at 1 rfl : Bk _ w9.heap.size 31 #[.int .i64 0, .int .i64 1000000, .int .i64 1000000, .int .i64 100, .int .i64 400000, .int .i64 500000]) (fun _ => rfl) rfl (by show (2 : Nat) ≤ maxLen; unfold maxLen; omega) 2, F21.gb⟩)

end Go.Proofs.YtgkjicejaalijaaDoor
