/- the kit of frost: ice made of numbers. -/
import Derived.Test.YthblaiefalbomaaF9
import Derived.Test.YthblaiefalbomaaK1
import Derived.Test.YthblaiefalbomaaF14
set_option linter.unusedVariables false
set_option linter.unusedSimpArgs false
set_option linter.unnecessarySimpa false
namespace Go.Proofs.Ythblaiefalbomaa
open Go.RowKit
set_option maxRecDepth 100000

set_option maxHeartbeats 8000000 in
theorem iceOf_c (sb : Nat) (w : World) (hs : SeedAt w sb) :
    Calls Try.prog 15 #[.pointer (some ⟨sb, 0, none⟩)] w (fun e w' => ∃ x : Ice, e = .returned (.agg (iceC x)) ∧ (iceErr x = 0 ∧ x.bl.hi ≤ 1200 ∧ x.wh.hi ≤ 200 ∧ x.we.hi ≤ 60 ∧ x.sn.hi ≤ 400) ∧ SeedAt w' sb ∧ w.grownBy w' (some sb)) := by
  have F1 : Bus w sb [rseed sb] w := Bus.ofSeed hs
  have hsl := hs.lt
  clear hs
  go_enter Try.func15, Try.ntmps15
  go_wp2_with fail
  have F4 := F1.new 32 (z8) (n := w.heap.size) (by simp)
  clear F1
  have F5 := F4.new 3 #[.int .i64 60, .int .i64 1200] (n := (w.heap.size + 1)) (by simp)
  clear F4
  refine (of2_c sb _ (w.heap.size + 1) 2 60 1200 (F5.at 2 rfl : SeedAt _ sb) (by omega) (F5.cl 0 0 rfl rfl) (F5.cl 0 1 rfl rfl)).mono ?_
  rintro e w8 ⟨r2, rfl, hr3, hs7, hg6⟩
  have hg6s := hg6.size
  (try simp at hg6s)
  have F9 := F5.seedAt 2 rfl hg6 hs7
  clear F5
  clear hg6
  go_wp2_with fail
  refine (spanOf_c sb 0 r2 _ (F9.at 2 rfl : SeedAt _ sb) (by omega) (by omega) (by omega)).mono ?_
  rintro e w15 ⟨_, rfl, ⟨lo10, hi11, rfl, hr12a, hr12b, hr12c⟩, hs14, hg13⟩
  have hg13s := hg13.size
  (try simp at hg13s)
  have F16 := F9.seedAt 2 rfl hg13 hs14
  clear F9
  clear hg13
  go_wp2_with fail
  have F19 := F16.new 3 #[.int .i64 20, .int .i64 200] (n := w15.heap.size) (by simp)
  clear F16
  refine (of2_c sb _ w15.heap.size 2 20 200 (F19.at 3 rfl : SeedAt _ sb) (by omega) (F19.cl 0 0 rfl rfl) (F19.cl 0 1 rfl rfl)).mono ?_
  rintro e w22 ⟨r17, rfl, hr18, hs21, hg20⟩
  have hg20s := hg20.size
  (try simp at hg20s)
  have F23 := F19.seedAt 3 rfl hg20 hs21
  clear F19
  clear hg20
  go_wp2_with fail
  refine (spanOf_c sb 0 r17 _ (F23.at 3 rfl : SeedAt _ sb) (by omega) (by omega) (by omega)).mono ?_
  rintro e w29 ⟨_, rfl, ⟨lo24, hi25, rfl, hr26a, hr26b, hr26c⟩, hs28, hg27⟩
  have hg27s := hg27.size
  (try simp at hg27s)
  have F30 := F23.seedAt 3 rfl hg27 hs28
  clear F23
  clear hg27
  go_wp2_with fail
  have F33 := F30.new 3 #[.int .i64 0, .int .i64 5, .int .i64 60] (n := w29.heap.size) (by simp)
  clear F30
  refine (of3_c sb _ w29.heap.size 3 0 5 60 (F33.at 4 rfl : SeedAt _ sb) (by omega) (F33.cl 0 0 rfl rfl) (F33.cl 0 1 rfl rfl) (F33.cl 0 2 rfl rfl)).mono ?_
  rintro e w36 ⟨r31, rfl, hr32, hs35, hg34⟩
  have hg34s := hg34.size
  (try simp at hg34s)
  have F37 := F33.seedAt 4 rfl hg34 hs35
  clear F33
  clear hg34
  go_wp2_with fail
  refine (spanOf_c sb 0 r31 _ (F37.at 4 rfl : SeedAt _ sb) (by omega) (by omega) (by omega)).mono ?_
  rintro e w43 ⟨_, rfl, ⟨lo38, hi39, rfl, hr40a, hr40b, hr40c⟩, hs42, hg41⟩
  have hg41s := hg41.size
  (try simp at hg41s)
  have F44 := F37.seedAt 4 rfl hg41 hs42
  clear F37
  clear hg41
  go_wp2_with fail
  have F47 := F44.new 3 #[.int .i64 0, .int .i64 40, .int .i64 400] (n := w43.heap.size) (by simp)
  clear F44
  refine (of3_c sb _ w43.heap.size 3 0 40 400 (F47.at 5 rfl : SeedAt _ sb) (by omega) (F47.cl 0 0 rfl rfl) (F47.cl 0 1 rfl rfl) (F47.cl 0 2 rfl rfl)).mono ?_
  rintro e w50 ⟨r45, rfl, hr46, hs49, hg48⟩
  have hg48s := hg48.size
  (try simp at hg48s)
  have F51 := F47.seedAt 5 rfl hg48 hs49
  clear F47
  clear hg48
  go_wp2_with fail
  refine (spanOf_c sb 0 r45 _ (F51.at 5 rfl : SeedAt _ sb) (by omega) (by omega) (by omega)).mono ?_
  rintro e w57 ⟨_, rfl, ⟨lo52, hi53, rfl, hr54a, hr54b, hr54c⟩, hs56, hg55⟩
  have hg55s := hg55.size
  (try simp at hg55s)
  have F58 := F51.seedAt 5 rfl hg55 hs56
  clear F51
  clear hg55
  have b59 := F58.bx8 4 rfl
  go_wp2_with fail
  clear b59
  have F60 := (F58.front 4 rfl rfl).pt8 (.int .i64 lo10) (.int .i64 hi11) (.int .i64 lo24) (.int .i64 hi25) (.int .i64 lo38) (.int .i64 hi39) (.int .i64 lo52) (.int .i64 hi53)
  clear F58
  have kb61 := F60.bx8 0 rfl
  go_wp2_with fail
  exact bodyPost_ret (v := .agg #[.int .i64 lo10, .int .i64 hi11, .int .i64 lo24, .int .i64 hi25, .int .i64 lo38, .int .i64 hi39, .int .i64 lo52, .int .i64 hi53]) (by simp [results, Try.results15, go_sem, kb61]) rfl (⟨⟨⟨lo10, hi11⟩, ⟨lo24, hi25⟩, ⟨lo38, hi39⟩, ⟨lo52, hi53⟩⟩, rfl, ⟨by unfold iceErr spanErr; simp only; (repeat' split) <;> first | rfl | (exfalso; omega) | omega, by simp only; omega, by simp only; omega, by simp only; omega, by simp only; omega⟩, (F60.at 5 rfl : SeedAt _ sb), F60.gb⟩)

end Go.Proofs.Ythblaiefalbomaa
