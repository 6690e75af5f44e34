/- fuel and its reference: where a height lies in a tank. -/
import Derived.Test.YtfifldbinnkdmaaTank1
import Derived.Shelf.Abstract
set_option linter.unusedVariables false
set_option linter.unusedSimpArgs false
set_option linter.unnecessarySimpa false
namespace Go.Proofs.Ytfifldbinnkdmaa
open Go.RowKit

/-- The line of a tank on which a height lies. -/
def segF (hs : List Int) (h : Int) : Nat → Nat → Nat
  | 0, k => k
  | f + 1, k => if h ≤ gi hs (k + 1) then k else segF hs h f (k + 1)
def seg (hs : List Int) (h : Int) : Nat := segF hs h (hs.length - 2) 0
theorem segF_prop (hs : List Int) (h : Int) : ∀ f k, k ≤ segF hs h f k ∧ segF hs h f k ≤ k + f ∧ (∀ i, k ≤ i → i < segF hs h f k → gi hs (i + 1) < h) ∧ (segF hs h f k = k + f ∨ h ≤ gi hs (segF hs h f k + 1)) := by
  intro f
  induction f with
  | zero => intro k; exact ⟨Nat.le_refl _, Nat.le_refl _, fun i h1 h2 => by simp [segF] at h2; omega, .inl rfl⟩
  | succ f ih =>
    intro k
    unfold segF
    split
    · rename_i hk
      exact ⟨Nat.le_refl _, by omega, fun i h1 h2 => by omega, .inr hk⟩
    · rename_i hk
      obtain ⟨a, b, c, d⟩ := ih (k + 1)
      refine ⟨by omega, by omega, fun i h1 h2 => ?_, by rcases d with d | d; exact .inl (by omega); exact .inr d⟩
      rcases Nat.eq_or_lt_of_le h1 with rfl | h3
      · omega
      · exact c i h3 h2
/-- A place that is as a search's is just that line. -/
theorem seg_eq {hs : List Int} {h : Int} {k : Nat} (h2 : 2 ≤ hs.length) (hinc : ∀ i j, i ≤ j → j < hs.length → gi hs i ≤ gi hs j) (hk : k ≤ hs.length - 2) (h1 : k = 0 ∨ gi hs k < h) (h3 : k = hs.length - 2 ∨ h ≤ gi hs (k + 1)) : k = seg hs h := by
  obtain ⟨_, b, c, d⟩ := segF_prop hs h (hs.length - 2) 0
  have hs' : segF hs h (hs.length - 2) 0 = seg hs h := rfl
  rw [hs'] at b c d
  rcases Nat.lt_trichotomy k (seg hs h) with hlt | heq | hgt
  · have := c k (Nat.zero_le _) hlt
    rcases h3 with h3 | h3 <;> omega
  · exact heq
  · rcases h1 with h1 | h1
    · omega
    · have := hinc (seg hs h + 1) k (by omega) (by omega)
      rcases d with d | d <;> omega
theorem inc_of_step {l : List Int} (h : ∀ i, 0 < i → i < l.length → gi l (i - 1) ≤ gi l i) : ∀ i j, i ≤ j → j < l.length → gi l i ≤ gi l j := by
  intro i j hij
  induction j with
  | zero => intro _; rw [show i = 0 by omega]; exact Int.le_refl _
  | succ j ih =>
    intro hj
    rcases Nat.eq_or_lt_of_le hij with rfl | h1
    · exact Int.le_refl _
    · have := ih (by omega) (by omega)
      have := h (j + 1) (by omega) hj
      simp only [Nat.add_sub_cancel] at this
      omega

set_option maxHeartbeats 1000000 in
theorem line1_c (bx by_ : Nat) (l1 h1 : Nat) (vh vl : Value) (hs : List Int) (h : Int) (w : World) (hh : Ints l1 h1 w vh hs) (i : Nat) (hi : i + 1 < hs.length)
    (hx : Bk w bx 51 #[vh, vl]) (hy : Bk w by_ 3 #[.int .i64 h]) :
    Calls Try.prog 106 #[.int .i64 i, .pointer (some ⟨bx, 0, none⟩), .pointer (some ⟨by_, 0, none⟩)] w fun e w' => e = .returned (.bool (decide (h ≤ gi hs (i + 1)))) ∧ w.grownBy w' none := by
  have hm := hh.len
  unfold maxLen at hm
  obtain ⟨b, off, c, rfl, _, _, H1⟩ := Ints.at hh (by omega)
  have g1 := H1 (i + 1) hi
  have g2 := hx.c2
  have g3 := hy.c1
  clear H1 hh hx hy
  go_enter Try.func106, Try.ntmps106
  go_wp2_with fail
  go_quiet (fail)
  go_wp2_with fail
  go_ret
  exact ⟨rfl, gb_drewN (gb_refl _ _) _⟩

/-- What is handed back of a height of a tank. -/
def lineV (hs ls : List Int) (h : Int) : Value :=
  .tuple #[.int .i64 (gi ls (seg hs h)), .int .i64 (h - gi hs (seg hs h)), .int .i64 (gi ls (seg hs h + 1) - gi ls (seg hs h)), .int .i64 (gi hs (seg hs h + 1) - gi hs (seg hs h))]

set_option maxHeartbeats 1000000 in
theorem line_c (l1 h1 l2 h2 : Nat) (vh vl : Value) (hs ls : List Int) (h : Int) (w : World) (hh : Ints l1 h1 w vh hs) (hl : Ints l2 h2 w vl ls) (ok : tankErr hs ls = 0) (b1 : h1 ≤ w.heap.size) (b2 : h2 ≤ w.heap.size) (hb1 : 0 ≤ h) (hb2 : h ≤ 100000) :
    Calls Try.prog 75 #[.agg #[vh, vl], .int .i64 h] w (Ret (lineV hs ls h) w) := by
  obtain ⟨k1, k2, k3, k4, k5⟩ := tank_ok ok
  have hinc := inc_of_step (l := hs) fun i a b => by have := (k5 i a b).1; omega
  obtain ⟨a1, c1, ev1⟩ := hh.any
  obtain ⟨a2, c2, ev2⟩ := hl.any
  rw [k3] at ev2
  subst ev1 ev2
  have hW := ((Bk.new w 51 #[.slice a1 hs.length c1, .slice a2 hs.length c2]).alloc (.cells #[.int .i64 h] 3))
  have hY : Bk ((w.alloc (.cells #[.slice a1 hs.length c1, .slice a2 hs.length c2] 51)).alloc (.cells #[.int .i64 h] 3)) (w.heap.size + 1) 3 #[.int .i64 h] := by
    have := Bk.new (w.alloc (.cells #[.slice a1 hs.length c1, .slice a2 hs.length c2] 51)) 3 #[.int .i64 h]
    simpa using this
  have hg0 : w.grownBy ((w.alloc (.cells #[.slice a1 hs.length c1, .slice a2 hs.length c2] 51)).alloc (.cells #[.int .i64 h] 3)) none := gb_alloc (gb_alloc (gb_refl _ _) _) _
  have hsr := search_c (hs.length - 2) (by omega) 106 #[.pointer (some ⟨w.heap.size, 0, none⟩), .pointer (some ⟨w.heap.size + 1, 0, none⟩)] (fun i => decide (h ≤ gi hs (i + 1)))
    ((w.alloc (.cells #[.slice a1 hs.length c1, .slice a2 hs.length c2] 51)).alloc (.cells #[.int .i64 h] 3)) (enters_of Try.func106 (by kernel_rfl) rfl)
    (fun i hi W hg => line1_c w.heap.size (w.heap.size + 1) l1 h1 _ _ hs h W ((hh.below (below_of_gb (gb_none hg0 hg)) b1)) i (by omega) (hW.gb hg (by simp)) (hY.gb hg (by simp)))
  rw [show ((hs.length - 2 : Nat) : Int) = (hs.length : Int) - 2 by omega] at hsr
  have HS := Lib.hid hsr
  have HK5 := Lib.hid (And.intro k4 k5)
  have HH := Lib.hid (And.intro hh hl)
  have K3 := Lib.hid k3
  clear hsr k4 k5 k3 hh hl
  go_enter Try.func75, Try.ntmps75
  go_wp2_with fail
  refine HS.out.mono ?_
  rintro e w1 ⟨k, rfl, hk, s1, s2, hg1⟩
  have hG := gb_trans hg0 hg1
  have q1 : k = 0 ∨ gi hs k < h := by
    rcases Nat.eq_zero_or_pos k with h0 | h0
    · exact .inl h0
    · rcases s1 with s1 | s1
      · exact .inl s1
      · have s1' : decide (h ≤ gi hs (k - 1 + 1)) = false := s1
        rw [show k - 1 + 1 = k by omega] at s1'
        exact .inr (by simpa using s1')
  have hks : k = seg hs h := seg_eq k1 hinc hk q1 (by rcases s2 with s2 | s2; exact .inl s2; exact .inr (by simpa using s2))
  have Hks := Lib.hid hks
  obtain ⟨x, ox, cx, ex, _, _, X1⟩ := Ints.at (HH.out.1.below (below_of_gb hG) b1) (by omega)
  obtain ⟨y, oy, cy, ey, _, _, Y1⟩ := Ints.at (HH.out.2.below (below_of_gb hG) b2) (by rw [K3.out]; omega)
  rw [K3.out] at ey
  injection ex with ex1 _ ex2
  injection ey with ey1 _ ey2
  subst ex1 ex2 ey1 ey2
  have x0 := X1 k (by omega)
  have x1 := X1 (k + 1) (by omega)
  have y0 := Y1 k (by rw [K3.out]; omega)
  have y1 := Y1 (k + 1) (by rw [K3.out]; omega)
  have z0 := (hW.gb hg1 (by simp)).c2
  have z1 := (hY.gb hg1 (by simp)).c1
  have hbd := And.intro (HK5.out.1 k (by omega)) (HK5.out.1 (k + 1) (by omega))
  clear s1 s2 q1 hks X1 Y1 hW hY HS hinc hg0 hg1
  go_wp2_with fail
  go_quiet (fail)
  go_wp2_with fail
  refine bodyPost_ret (results4 rfl _ _ _) rfl ?_
  refine ⟨?_, gb_drewN hG _⟩
  rw [lineV, ← Hks.out]
  rfl

/-- What the reference hands back of a height of a tank. -/
def contentV (hs ls : List Int) (h : Int) : Value :=
  .tuple #[.int .i64 (gi ls (seg hs h)), .int .i64 ((gi ls (seg hs h + 1) - gi ls (seg hs h)) * (h - gi hs (seg hs h))), .int .i64 (gi hs (seg hs h + 1) - gi hs (seg hs h))]

theorem mul_bd {x y : Int} {a b : Int} (h1 : 0 ≤ x) (h2 : x ≤ a) (h3 : 0 ≤ y) (h4 : y ≤ b) : 0 ≤ x * y ∧ x * y ≤ a * b :=
  ⟨Int.mul_nonneg h1 h3, Int.mul_le_mul h2 h4 h3 (by omega)⟩

set_option maxHeartbeats 1000000 in
theorem content_c (l1 h1 l2 h2 : Nat) (vh vl : Value) (hs ls : List Int) (h : Int) (w : World) (hh : Ints l1 h1 w vh hs) (hl : Ints l2 h2 w vl ls) (ok : tankErr hs ls = 0) (hb1 : gi hs 0 ≤ h) (hb2 : h ≤ gi hs (hs.length - 1)) :
    Calls Try.prog 80 #[.agg #[vh, vl], .int .i64 h] w (Ret (contentV hs ls h) w) := by
  obtain ⟨k1, k2, k3, k4, k5⟩ := tank_ok ok
  have hinc := inc_of_step (l := hs) fun i a b => by have := (k5 i a b).1; omega
  obtain ⟨x, ox, c1, rfl, _, _, X1⟩ := Ints.at hh (by omega)
  obtain ⟨y, oy, c2, ey, _, _, Y1⟩ := Ints.at hl (by omega)
  rw [k3] at ey
  subst ey
  have hW := (Bk.new w 51 #[.slice (some ⟨x, ox, none⟩) hs.length c1, .slice (some ⟨y, oy, none⟩) hs.length c2])
  have hW2 := hW.c2
  have HK := Lib.hid (And.intro k4 (And.intro k5 k3))
  have HX := Lib.hid (And.intro X1 Y1)
  have HI := Lib.hid hinc
  clear k3 k4 k5 X1 Y1 hinc hh hl hW
  have hbh := (HK.out.1 0 (by omega)).1
  have hbh2 := (HK.out.1 (hs.length - 1) (by omega)).1
  go_enter Try.func80, Try.ntmps80
  go_wp2_with fail
  go_loop [7] (fun i => ∃ k : Nat, 1 ≤ k ∧ k ≤ hs.length - 1 ∧ i = .int .i64 k ∧ (k = 1 ∨ gi hs (k - 1) < h)) (fun i => hs.length - (intOf i).toNat)
  case atStart => exact ⟨1, Nat.le_refl _, by omega, rfl, .inl rfl⟩
  case round =>
    obtain ⟨k, hk1, hk2, rfl, hp⟩ := hrel
    have x0 := alc (.cells #[.slice (some ⟨x, ox, none⟩) hs.length c1, .slice (some ⟨y, oy, none⟩) hs.length c2] 51) (HX.out.1 k (by omega))
    by_cases hc : gi hs k < h
    · have hk3 : k < hs.length - 1 := by
        rcases Nat.lt_or_ge k (hs.length - 1) with hx | hx
        · exact hx
        · rw [show k = hs.length - 1 by omega] at hc; omega
      clear hp
      go_wp2_with fail
      go_round
      case rel => exact ⟨k + 1, by omega, by omega, by go_num, .inr (by simpa using hc)⟩
      case measure => simp [intOf]; omega
    · have hks : k - 1 = seg hs h := seg_eq k1 HI.out (by omega) (by rcases hp with hp | hp; exact .inl (by omega); exact .inr hp) (.inr (by rw [show k - 1 + 1 = k by omega]; omega))
      have Hks := Lib.hid hks
      have x1 := alc (.cells #[.slice (some ⟨x, ox, none⟩) hs.length c1, .slice (some ⟨y, oy, none⟩) hs.length c2] 51) (HX.out.1 (k - 1) (by omega))
      have y0 := alc (.cells #[.slice (some ⟨x, ox, none⟩) hs.length c1, .slice (some ⟨y, oy, none⟩) hs.length c2] 51) (HX.out.2 k (by rw [HK.out.2.2]; omega))
      have y1 := alc (.cells #[.slice (some ⟨x, ox, none⟩) hs.length c1, .slice (some ⟨y, oy, none⟩) hs.length c2] 51) (HX.out.2 (k - 1) (by rw [HK.out.2.2]; omega))
      have hbd := And.intro (HK.out.1 k (by omega)) (HK.out.1 (k - 1) (by omega))
      have hinc2 := HK.out.2.1 k (by omega) (by omega)
      have hlow : gi hs (k - 1) ≤ h := by
        rcases hp with rfl | hp
        · exact hb1
        · omega
      have hmul := mul_bd (x := gi ls k - gi ls (k - 1)) (y := h - gi hs (k - 1)) (a := 1000000000) (b := 100000) (by omega) (by omega) (by omega) (by omega)
      have hmul' : (gi ls k - gi ls (k - 1)) * (h - gi hs (k - 1)) ≤ 100000000000000 := by omega
      clear hp hks
      go_wp2_with fail
      go_quiet (fail)
      go_wp2_with fail
      go_ret3
      refine ⟨?_, gb_drewN (gb_alloc (gb_refl _ _) _) _⟩
      rw [contentV, ← Hks.out, show k - 1 + 1 = k by omega]
      rfl
end Go.Proofs.Ytfifldbinnkdmaa
