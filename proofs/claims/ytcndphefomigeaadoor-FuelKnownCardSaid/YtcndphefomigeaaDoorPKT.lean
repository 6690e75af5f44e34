/- fuel and its reference: tanks. -/
import Derived.Test.YtcndphefomigeaaDoorPFuel1
import Derived.Test.YtcndphefomigeaaDoorPSearch
import Derived.Deep.DeepCutAuto
import Derived.Shelf.Abstract
import Derived.Deep.RegionHeld3
set_option linter.unusedVariables false
set_option linter.unusedSimpArgs false
set_option linter.unnecessarySimpa false
namespace Go.Proofs.YtcndphefomigeaaDoor
open Go.RowKit

/-- The error of the heights and litres of a tank from place i on. -/
def tankFrom (hs ls : List Int) : Nat → Nat → Int
  | 0, _ => 0
  | f + 1, i => if (inB (gi hs i) 0 100000 && inB (gi ls i) 0 1000000000) = true then
      (if 0 < i ∧ (gi hs i ≤ gi hs (i - 1) ∨ gi ls i < gi ls (i - 1)) then 11 else tankFrom hs ls f (i + 1)) else 2
/-- The error of a tank. -/
def tankErr (hs ls : List Int) : Int :=
  if hs.length < 2 then 6 else if 40 < hs.length then 8 else if ls.length ≠ hs.length then 3 else tankFrom hs ls hs.length 0

theorem tankFrom_bad {hs ls : List Int} {f i : Nat} (h : inB (gi hs i) 0 100000 = false ∨ inB (gi ls i) 0 1000000000 = false) : tankFrom hs ls (f + 1) i = 2 := by
  rcases h with h | h <;> simp [tankFrom, h]
theorem tankFrom_order {hs ls : List Int} {f i : Nat} (h1 : inB (gi hs i) 0 100000 = true) (h2 : inB (gi ls i) 0 1000000000 = true) (h3 : 0 < i) (h4 : gi hs i ≤ gi hs (i - 1) ∨ gi ls i < gi ls (i - 1)) : tankFrom hs ls (f + 1) i = 11 := by
  simp [tankFrom, h1, h2, h3, h4]
theorem tankFrom_step {hs ls : List Int} {f i : Nat} (h1 : inB (gi hs i) 0 100000 = true) (h2 : inB (gi ls i) 0 1000000000 = true) (h3 : ¬ (0 < i ∧ (gi hs i ≤ gi hs (i - 1) ∨ gi ls i < gi ls (i - 1)))) :
    tankFrom hs ls (f + 1) i = tankFrom hs ls f (i + 1) := by
  simp only [tankFrom, h1, h2, Bool.and_self, if_true, if_neg h3]

set_option maxHeartbeats 1000000 in
theorem checkTank_c (l1 h1 l2 h2 : Nat) (vh vl : Value) (hs ls : List Int) (w : World) (hh : Ints l1 h1 w vh hs) (hl : Ints l2 h2 w vl ls) :
    Calls Tryd.prog 20 #[.agg #[vh, vl]] w (Ret (.int .i64 (tankErr hs ls)) w) := by
  have hm := hh.len
  have hm' := hl.len
  unfold maxLen at hm hm'
  by_cases c1 : hs.length < 2
  · have hx : tankErr hs ls = 6 := by simp [tankErr, c1]
    have Hx := Lib.hid hx
    clear hx
    obtain ⟨a, c, rfl⟩ := hh.any
    obtain ⟨a', c', rfl⟩ := hl.any
    clear hh hl
    go_enter Tryd.func20, Tryd.ntmps20
    go_wp2_with fail
    go_ret
    exact ⟨by rw [Hx.out]; rfl, gb_alloc (gb_refl _ _) _⟩
  by_cases c2 : 40 < hs.length
  · have hx : tankErr hs ls = 8 := by simp [tankErr, c1, c2]
    have Hx := Lib.hid hx
    clear hx
    obtain ⟨a, c, rfl⟩ := hh.any
    obtain ⟨a', c', rfl⟩ := hl.any
    clear hh hl
    go_enter Tryd.func20, Tryd.ntmps20
    go_wp2_with fail
    go_ret
    exact ⟨by rw [Hx.out]; rfl, gb_alloc (gb_refl _ _) _⟩
  by_cases c3 : ls.length = hs.length
  · have hx : tankErr hs ls = tankFrom hs ls hs.length 0 := by simp [tankErr, c1, c2, c3]
    have Hx := Lib.hid hx
    clear hx
    obtain ⟨b, off, c, rfl, _, _, H1⟩ := Ints.at hh (by omega)
    obtain ⟨b', off', c', rfl, _, _, H2⟩ := Ints.at hl (by omega)
    have hne : ((ls.length : Int) != (hs.length : Int)) = false := by simp [c3]
    have HL := Lib.hid c3
    have HA := Lib.hid H1
    have HB := Lib.hid H2
    have hle : hs.length ≤ ls.length := by omega
    clear H1 H2 hh hl c3 hm'
    go_enter Tryd.func20, Tryd.ntmps20
    go_wp2_with fail
    go_loopw [26] (fun i wr => ∃ k : Nat, k ≤ hs.length ∧ i = .int .i64 k ∧ tankErr hs ls = tankFrom hs ls (hs.length - k) k ∧ (w.alloc (.cells #[.slice (some ⟨b, off, none⟩) hs.length c, .slice (some ⟨b', off', none⟩) ls.length c'] 29)).grownBy wr none) (fun i _ => hs.length - (intOf i).toNat)
    case atStart => exact ⟨0, Nat.zero_le _, rfl, Hx.out, gb_refl _ _⟩
    case round =>
      obtain ⟨k, hk, rfl, hrem, hg⟩ := hrel
      have HR := Lib.hid hrem
      have hbox := ((Bk.new w 29 #[.slice (some ⟨b, off, none⟩) hs.length c, .slice (some ⟨b', off', none⟩) ls.length c']).gb hg (by simp)).c2
      clear hrem Hx
      by_cases hlt : k < hs.length
      · have g1 : wr.cell? ⟨b, off + k, none⟩ = some (.int .i64 (gi hs k)) := gbc hg (by simp) (alc _ (HA.out k hlt))
        have g2 : wr.cell? ⟨b', off' + k, none⟩ = some (.int .i64 (gi ls k)) := gbc hg (by simp) (alc _ (HB.out k (by omega)))
        obtain ⟨f, hf⟩ : ∃ f, hs.length - k = f + 1 := ⟨hs.length - k - 1, by omega⟩
        have Hf := Lib.hid hf
        clear hf
        cases b1 : inB (gi hs k) 0 100000 with
        | false =>
          have Hy : Hid (tankErr hs ls = 2) := by rw [HR.out, Hf.out]; exact tankFrom_bad (.inl b1)
          clear HR
          go_wp2_with (go_at_call 49; refine (in_c _ _ _ _).mono ?_; rintro e w' ⟨rfl, rfl⟩)
          go_ret
          exact ⟨by rw [Hy.out]; rfl, gb_trans (gb_alloc (gb_refl _ _) _) hg⟩
        | true =>
          cases b2 : inB (gi ls k) 0 1000000000 with
          | false =>
            have Hy : Hid (tankErr hs ls = 2) := by rw [HR.out, Hf.out]; exact tankFrom_bad (.inr b2)
            clear HR
            go_wp2_with (go_at_call 49; refine (in_c _ _ _ _).mono ?_; rintro e w' ⟨rfl, rfl⟩)
            go_ret
            exact ⟨by rw [Hy.out]; rfl, gb_trans (gb_alloc (gb_refl _ _) _) hg⟩
          | true =>
            have next : ¬ (0 < k ∧ (gi hs k ≤ gi hs (k - 1) ∨ gi ls k < gi ls (k - 1))) → tankErr hs ls = tankFrom hs ls (hs.length - (k + 1)) (k + 1) := fun h => by
              rw [HR.out, Hf.out, tankFrom_step b1 b2 h]
              congr 1
              have := Hf.out
              omega
            have HN := Lib.hid next
            have bad : 0 < k → (gi hs k ≤ gi hs (k - 1) ∨ gi ls k < gi ls (k - 1)) → tankErr hs ls = 11 := fun h h' => by
              rw [HR.out, Hf.out, tankFrom_order b1 b2 h h']
            have HBad := Lib.hid bad
            clear next bad HR
            go_wp2_with (go_at_call 49; refine (in_c _ _ _ _).mono ?_; rintro e w' ⟨rfl, rfl⟩)
            clear b1 b2
            by_cases hk0 : 0 < k
            · have g3 : wr.cell? ⟨b, off + (k - 1), none⟩ = some (.int .i64 (gi hs (k - 1))) := gbc hg (by simp) (alc _ (HA.out (k - 1) (by omega)))
              have g4 : wr.cell? ⟨b', off' + (k - 1), none⟩ = some (.int .i64 (gi ls (k - 1))) := gbc hg (by simp) (alc _ (HB.out (k - 1) (by omega)))
              have hd0 : decide ((0 : Int) < (k : Int)) = true := by simp; omega
              by_cases e1 : gi hs k ≤ gi hs (k - 1)
              · have hd1 : decide (gi hs k ≤ gi hs (k - 1)) = true := by simpa using e1
                go_quiet (fail)
                go_wp2_with fail
                go_ret
                exact ⟨by rw [HBad.out hk0 (.inl e1)]; rfl, gb_drewN (gb_trans (gb_alloc (gb_refl _ _) _) hg) _⟩
              · have hd1 : decide (gi hs k ≤ gi hs (k - 1)) = false := by simpa using e1
                by_cases e2 : gi ls k < gi ls (k - 1)
                · have hd2 : decide (gi ls k < gi ls (k - 1)) = true := by simpa using e2
                  go_quiet (fail)
                  go_wp2_with fail
                  go_ret
                  exact ⟨by rw [HBad.out hk0 (.inr e2)]; rfl, gb_drewN (gb_trans (gb_alloc (gb_refl _ _) _) hg) _⟩
                · have hd2 : decide (gi ls k < gi ls (k - 1)) = false := by simpa using e2
                  have HM := Lib.hid (HN.out (by omega))
                  clear HN HBad
                  go_quiet (fail)
                  clear e1 e2 hd0 hd1 hd2 g1 g2 g3 g4
                  go_wp2_with fail
                  go_roundw
                  case rel => exact ⟨k + 1, by omega, by go_num, HM.out, gb_drewN hg _⟩
                  case measure => simp [intOf]; omega
            · have hd0 : decide ((0 : Int) < (k : Int)) = false := by simp; omega
              have HM := Lib.hid (HN.out (by omega))
              clear HN HBad
              go_quiet (fail)
              clear hd0 g1 g2
              go_wp2_with fail
              go_roundw
              case rel => exact ⟨k + 1, by omega, by go_num, HM.out, gb_drewN hg _⟩
              case measure => simp [intOf]; omega
      · have Hy : Hid (tankErr hs ls = 0) := by rw [HR.out, show hs.length - k = 0 by omega]; rfl
        clear HR
        go_wp2_with fail
        go_ret
        exact ⟨by rw [Hy.out]; rfl, gb_trans (gb_alloc (gb_refl _ _) _) hg⟩
  · have hx : tankErr hs ls = 3 := by simp [tankErr, c1, c2, c3]
    have Hx := Lib.hid hx
    have hne : ((ls.length : Int) != (hs.length : Int)) = true := by simp; omega
    clear hx
    obtain ⟨a, c, rfl⟩ := hh.any
    obtain ⟨a', c', rfl⟩ := hl.any
    clear hh hl c3
    go_enter Tryd.func20, Tryd.ntmps20
    go_wp2_with fail
    go_ret
    exact ⟨by rw [Hx.out]; rfl, gb_alloc (gb_refl _ _) _⟩
theorem tank_ok {hs ls : List Int} (h : tankErr hs ls = 0) : 2 ≤ hs.length ∧ hs.length ≤ 40 ∧ ls.length = hs.length ∧
    (∀ i, i < hs.length → (0 ≤ gi hs i ∧ gi hs i ≤ 100000) ∧ 0 ≤ gi ls i ∧ gi ls i ≤ 1000000000) ∧ (∀ i, 0 < i → i < hs.length → gi hs (i - 1) < gi hs i ∧ gi ls (i - 1) ≤ gi ls i) := by
  unfold tankErr at h
  by_cases c1 : hs.length < 2
  · simp [c1] at h
  by_cases c2 : 40 < hs.length
  · simp [c1, c2] at h
  by_cases c3 : ls.length ≠ hs.length
  · simp [c1, c2, c3] at h
  rw [if_neg c1, if_neg c2, if_neg c3] at h
  have key : ∀ f k, tankFrom hs ls f k = 0 → ∀ i, k ≤ i → i < k + f → ((0 ≤ gi hs i ∧ gi hs i ≤ 100000) ∧ 0 ≤ gi ls i ∧ gi ls i ≤ 1000000000) ∧ (0 < i → gi hs (i - 1) < gi hs i ∧ gi ls (i - 1) ≤ gi ls i) := by
    intro f
    induction f with
    | zero => intro k _ i h1 h2; omega
    | succ f ih =>
      intro k hk i h1 h2
      unfold tankFrom at hk
      split at hk
      · rename_i hb
        rw [Bool.and_eq_true] at hb
        split at hk
        · cases hk
        · rename_i ho
          rcases Nat.eq_or_lt_of_le h1 with rfl | h3
          · exact ⟨⟨inB_yes hb.1, inB_yes hb.2⟩, fun h0 => by omega⟩
          · exact ih (k + 1) hk i h3 (by omega)
      · cases hk
  have hk := key _ _ h
  exact ⟨by omega, by omega, by omega, fun i hi => (hk i (Nat.zero_le _) (by omega)).1, fun i h0 hi => (hk i (Nat.zero_le _) (by omega)).2 h0⟩
end Go.Proofs.YtcndphefomigeaaDoor
/- fuel and its reference: where a height lies in a tank. -/
namespace Go.Proofs.YtcndphefomigeaaDoor
open Go.RowKit

/-- The line of a tank on which a height lies. -/
def segF (hs : List Int) (h : Int) : Nat → Nat → Nat
  | 0, k => k
  | f + 1, k => if h ≤ gi hs (k + 1) then k else segF hs h f (k + 1)
def seg (hs : List Int) (h : Int) : Nat := segF hs h (hs.length - 2) 0
theorem segF_prop (hs : List Int) (h : Int) : ∀ f k, k ≤ segF hs h f k ∧ segF hs h f k ≤ k + f ∧ (∀ i, k ≤ i → i < segF hs h f k → gi hs (i + 1) < h) ∧ (segF hs h f k = k + f ∨ h ≤ gi hs (segF hs h f k + 1)) := by
  intro f
  induction f with
  | zero => intro k; exact ⟨Nat.le_refl _, Nat.le_refl _, fun i h1 h2 => by simp [segF] at h2; omega, .inl rfl⟩
  | succ f ih =>
    intro k
    unfold segF
    split
    · rename_i hk
      exact ⟨Nat.le_refl _, by omega, fun i h1 h2 => by omega, .inr hk⟩
    · rename_i hk
      obtain ⟨a, b, c, d⟩ := ih (k + 1)
      refine ⟨by omega, by omega, fun i h1 h2 => ?_, by rcases d with d | d; exact .inl (by omega); exact .inr d⟩
      rcases Nat.eq_or_lt_of_le h1 with rfl | h3
      · omega
      · exact c i h3 h2
/-- A place that is as a search's is just that line. -/
theorem seg_eq {hs : List Int} {h : Int} {k : Nat} (h2 : 2 ≤ hs.length) (hinc : ∀ i j, i ≤ j → j < hs.length → gi hs i ≤ gi hs j) (hk : k ≤ hs.length - 2) (h1 : k = 0 ∨ gi hs k < h) (h3 : k = hs.length - 2 ∨ h ≤ gi hs (k + 1)) : k = seg hs h := by
  obtain ⟨_, b, c, d⟩ := segF_prop hs h (hs.length - 2) 0
  have hs' : segF hs h (hs.length - 2) 0 = seg hs h := rfl
  rw [hs'] at b c d
  rcases Nat.lt_trichotomy k (seg hs h) with hlt | heq | hgt
  · have := c k (Nat.zero_le _) hlt
    rcases h3 with h3 | h3 <;> omega
  · exact heq
  · rcases h1 with h1 | h1
    · omega
    · have := hinc (seg hs h + 1) k (by omega) (by omega)
      rcases d with d | d <;> omega
theorem inc_of_step {l : List Int} (h : ∀ i, 0 < i → i < l.length → gi l (i - 1) ≤ gi l i) : ∀ i j, i ≤ j → j < l.length → gi l i ≤ gi l j := by
  intro i j hij
  induction j with
  | zero => intro _; rw [show i = 0 by omega]; exact Int.le_refl _
  | succ j ih =>
    intro hj
    rcases Nat.eq_or_lt_of_le hij with rfl | h1
    · exact Int.le_refl _
    · have := ih (by omega) (by omega)
      have := h (j + 1) (by omega) hj
      simp only [Nat.add_sub_cancel] at this
      omega

set_option maxHeartbeats 1000000 in
theorem line1_c (bx by_ : Nat) (l1 h1 : Nat) (vh vl : Value) (hs : List Int) (h : Int) (w : World) (hh : Ints l1 h1 w vh hs) (i : Nat) (hi : i + 1 < hs.length)
    (hx : Bk w bx 29 #[vh, vl]) (hy : Bk w by_ 3 #[.int .i64 h]) :
    Calls Tryd.prog 51 #[.int .i64 i, .pointer (some ⟨bx, 0, none⟩), .pointer (some ⟨by_, 0, none⟩)] w fun e w' => e = .returned (.bool (decide (h ≤ gi hs (i + 1)))) ∧ w.grownBy w' none := by
  have hm := hh.len
  unfold maxLen at hm
  obtain ⟨b, off, c, rfl, _, _, H1⟩ := Ints.at hh (by omega)
  have g1 := H1 (i + 1) hi
  have g2 := hx.c2
  have g3 := hy.c1
  clear H1 hh hx hy
  go_enter Tryd.func51, Tryd.ntmps51
  go_wp2_with fail
  go_quiet (fail)
  go_wp2_with fail
  go_ret
  exact ⟨rfl, gb_drewN (gb_refl _ _) _⟩

/-- What is handed back of a height of a tank. -/
def lineV (hs ls : List Int) (h : Int) : Value :=
  .tuple #[.int .i64 (gi ls (seg hs h)), .int .i64 (h - gi hs (seg hs h)), .int .i64 (gi ls (seg hs h + 1) - gi ls (seg hs h)), .int .i64 (gi hs (seg hs h + 1) - gi hs (seg hs h))]

set_option maxHeartbeats 1000000 in
theorem line_c (l1 h1 l2 h2 : Nat) (vh vl : Value) (hs ls : List Int) (h : Int) (w : World) (hh : Ints l1 h1 w vh hs) (hl : Ints l2 h2 w vl ls) (ok : tankErr hs ls = 0) (b1 : h1 ≤ w.heap.size) (b2 : h2 ≤ w.heap.size) (hb1 : 0 ≤ h) (hb2 : h ≤ 100000) :
    Calls Tryd.prog 22 #[.agg #[vh, vl], .int .i64 h] w (Ret (lineV hs ls h) w) := by
  obtain ⟨k1, k2, k3, k4, k5⟩ := tank_ok ok
  have hinc := inc_of_step (l := hs) fun i a b => by have := (k5 i a b).1; omega
  obtain ⟨a1, c1, ev1⟩ := hh.any
  obtain ⟨a2, c2, ev2⟩ := hl.any
  rw [k3] at ev2
  subst ev1 ev2
  have hW := ((Bk.new w 29 #[.slice a1 hs.length c1, .slice a2 hs.length c2]).alloc (.cells #[.int .i64 h] 3))
  have hY : Bk ((w.alloc (.cells #[.slice a1 hs.length c1, .slice a2 hs.length c2] 29)).alloc (.cells #[.int .i64 h] 3)) (w.heap.size + 1) 3 #[.int .i64 h] := by
    have := Bk.new (w.alloc (.cells #[.slice a1 hs.length c1, .slice a2 hs.length c2] 29)) 3 #[.int .i64 h]
    simpa using this
  have hg0 : w.grownBy ((w.alloc (.cells #[.slice a1 hs.length c1, .slice a2 hs.length c2] 29)).alloc (.cells #[.int .i64 h] 3)) none := gb_alloc (gb_alloc (gb_refl _ _) _) _
  have hsr := search_c (hs.length - 2) (by omega) 51 #[.pointer (some ⟨w.heap.size, 0, none⟩), .pointer (some ⟨w.heap.size + 1, 0, none⟩)] (fun i => decide (h ≤ gi hs (i + 1)))
    ((w.alloc (.cells #[.slice a1 hs.length c1, .slice a2 hs.length c2] 29)).alloc (.cells #[.int .i64 h] 3)) (enters_of Tryd.func51 (by kernel_rfl) rfl)
    (fun i hi W hg => line1_c w.heap.size (w.heap.size + 1) l1 h1 _ _ hs h W ((hh.below (below_of_gb (gb_none hg0 hg)) b1)) i (by omega) (hW.gb hg (by simp)) (hY.gb hg (by simp)))
  rw [show ((hs.length - 2 : Nat) : Int) = (hs.length : Int) - 2 by omega] at hsr
  have HS := Lib.hid hsr
  have HK5 := Lib.hid (And.intro k4 k5)
  have HH := Lib.hid (And.intro hh hl)
  have K3 := Lib.hid k3
  clear hsr k4 k5 k3 hh hl
  go_enter Tryd.func22, Tryd.ntmps22
  go_wp2_with fail
  refine HS.out.mono ?_
  rintro e w1 ⟨k, rfl, hk, s1, s2, hg1⟩
  have hG := gb_trans hg0 hg1
  have q1 : k = 0 ∨ gi hs k < h := by
    rcases Nat.eq_zero_or_pos k with h0 | h0
    · exact .inl h0
    · rcases s1 with s1 | s1
      · exact .inl s1
      · have s1' : decide (h ≤ gi hs (k - 1 + 1)) = false := s1
        rw [show k - 1 + 1 = k by omega] at s1'
        exact .inr (by simpa using s1')
  have hks : k = seg hs h := seg_eq k1 hinc hk q1 (by rcases s2 with s2 | s2; exact .inl s2; exact .inr (by simpa using s2))
  have Hks := Lib.hid hks
  obtain ⟨x, ox, cx, ex, _, _, X1⟩ := Ints.at (HH.out.1.below (below_of_gb hG) b1) (by omega)
  obtain ⟨y, oy, cy, ey, _, _, Y1⟩ := Ints.at (HH.out.2.below (below_of_gb hG) b2) (by rw [K3.out]; omega)
  rw [K3.out] at ey
  injection ex with ex1 _ ex2
  injection ey with ey1 _ ey2
  subst ex1 ex2 ey1 ey2
  have x0 := X1 k (by omega)
  have x1 := X1 (k + 1) (by omega)
  have y0 := Y1 k (by rw [K3.out]; omega)
  have y1 := Y1 (k + 1) (by rw [K3.out]; omega)
  have z0 := (hW.gb hg1 (by simp)).c2
  have z1 := (hY.gb hg1 (by simp)).c1
  have hbd := And.intro (HK5.out.1 k (by omega)) (HK5.out.1 (k + 1) (by omega))
  clear s1 s2 q1 hks X1 Y1 hW hY HS hinc hg0 hg1
  go_wp2_with fail
  go_quiet (fail)
  go_wp2_with fail
  refine bodyPost_ret (results4 rfl _ _ _) rfl ?_
  refine ⟨?_, gb_drewN hG _⟩
  rw [lineV, ← Hks.out]
  rfl

/-- What the reference hands back of a height of a tank. -/
def contentV (hs ls : List Int) (h : Int) : Value :=
  .tuple #[.int .i64 (gi ls (seg hs h)), .int .i64 ((gi ls (seg hs h + 1) - gi ls (seg hs h)) * (h - gi hs (seg hs h))), .int .i64 (gi hs (seg hs h + 1) - gi hs (seg hs h))]

theorem mul_bd {x y : Int} {a b : Int} (h1 : 0 ≤ x) (h2 : x ≤ a) (h3 : 0 ≤ y) (h4 : y ≤ b) : 0 ≤ x * y ∧ x * y ≤ a * b :=
  ⟨Int.mul_nonneg h1 h3, Int.mul_le_mul h2 h4 h3 (by omega)⟩

end Go.Proofs.YtcndphefomigeaaDoor
/- fuel and its reference: what is in a tank. -/
namespace Go.Proofs.YtcndphefomigeaaDoor
open Go.RowKit

def volLo (hs ls : List Int) (h : Int) : Int := gi ls (seg hs h) + (gi ls (seg hs h + 1) - gi ls (seg hs h)) * (h - gi hs (seg hs h)) / (gi hs (seg hs h + 1) - gi hs (seg hs h))
def volHi (hs ls : List Int) (h : Int) : Int := gi ls (seg hs h) + upD ((gi ls (seg hs h + 1) - gi ls (seg hs h)) * (h - gi hs (seg hs h))) (gi hs (seg hs h + 1) - gi hs (seg hs h))
def volErr (hs ls : List Int) (a b : Int) : Int := if tankErr hs ls = 0 then spanErr a b (gi hs 0) (gi hs (hs.length - 1)) else tankErr hs ls
/-- What Volume hands back. -/
def volV (hs ls : List Int) (a b : Int) : Value :=
  if volErr hs ls a b = 0 then .tuple #[.agg #[.int .i64 (volLo hs ls a), .int .i64 (volHi hs ls b)], .int .i64 0] else .tuple #[.agg #[.int .i64 0, .int .i64 0], .int .i64 (volErr hs ls a b)]

theorem volV_err {hs ls : List Int} {a b e : Int} (h : volErr hs ls a b = e) (he : e ≠ 0) : volV hs ls a b = .tuple #[.agg #[.int .i64 0, .int .i64 0], .int .i64 e] := by
  subst h
  rw [volV, if_neg he]
theorem volV_ok {hs ls : List Int} {a b : Int} (h : volErr hs ls a b = 0) : volV hs ls a b = .tuple #[.agg #[.int .i64 (volLo hs ls a), .int .i64 (volHi hs ls b)], .int .i64 0] := by
  rw [volV, if_pos h]
/-- What lies on a line of a valid tank is within bounds. -/
theorem seg_facts {hs ls : List Int} (ok : tankErr hs ls = 0) {h : Int} (h0 : gi hs 0 ≤ h) (h1 : h ≤ 100000) :
    0 < gi hs (seg hs h + 1) - gi hs (seg hs h) ∧ gi hs (seg hs h + 1) - gi hs (seg hs h) ≤ 100000 ∧ 0 ≤ gi ls (seg hs h) ∧ gi ls (seg hs h) ≤ 1000000000 ∧
    0 ≤ (gi ls (seg hs h + 1) - gi ls (seg hs h)) * (h - gi hs (seg hs h)) ∧ (gi ls (seg hs h + 1) - gi ls (seg hs h)) * (h - gi hs (seg hs h)) ≤ 100000000000000 := by
  obtain ⟨k1, k2, k3, k4, k5⟩ := tank_ok ok
  obtain ⟨_, sb, sc, sd⟩ := segF_prop hs h (hs.length - 2) 0
  have hs' : segF hs h (hs.length - 2) 0 = seg hs h := rfl
  rw [hs'] at sb sc sd
  have hk := k4 (seg hs h) (by omega)
  have hk1 := k4 (seg hs h + 1) (by omega)
  have hi := k5 (seg hs h + 1) (by omega) (by omega)
  simp only [Nat.add_sub_cancel] at hi
  have hlow : gi hs (seg hs h) ≤ h := by
    rcases Nat.eq_zero_or_pos (seg hs h) with e | e
    · rw [e]; exact h0
    · have := sc (seg hs h - 1) (Nat.zero_le _) (by omega)
      rw [show seg hs h - 1 + 1 = seg hs h by omega] at this
      omega
  have hm := mul_bd (x := gi ls (seg hs h + 1) - gi ls (seg hs h)) (y := h - gi hs (seg hs h)) (a := 1000000000) (b := 100000) (by omega) (by omega) (by omega) (by omega)
  omega

theorem upD_bd {n d : Int} (hd : 0 < d) (h : 0 ≤ n) : 0 ≤ upD n d ∧ upD n d ≤ n := by
  unfold upD
  have h1 : -n ≤ -n / d := (Int.le_ediv_iff_mul_le hd).2 (by
    have := Int.mul_le_mul_of_nonpos_left (a := -n) (b := d) (c := 1) (by omega) (by omega)
    omega)
  have h2 : -n / d ≤ 0 := by
    have := Int.ediv_le_ediv hd (show -n ≤ 0 by omega)
    simpa using this
  omega
theorem line_open {hs ls : List Int} (ok : tankErr hs ls = 0) {h : Int} (h0 : gi hs 0 ≤ h) (h1 : h ≤ 100000) : ∃ l x m d : Int, lineV hs ls h = .tuple #[.int .i64 l, .int .i64 x, .int .i64 m, .int .i64 d] ∧
    contentV hs ls h = .tuple #[.int .i64 l, .int .i64 (m * x), .int .i64 d] ∧ volLo hs ls h = l + m * x / d ∧ volHi hs ls h = l + upD (m * x) d ∧
    0 < d ∧ d ≤ 100000 ∧ 0 ≤ l ∧ l ≤ 1000000000 ∧ 0 ≤ m * x ∧ m * x ≤ 100000000000000 ∧ 0 ≤ m * x / d ∧ m * x / d ≤ 100000000000000 ∧ 0 ≤ upD (m * x) d ∧ upD (m * x) d ≤ 100000000000000 := by
  obtain ⟨f1, f2, f3, f4, f5, f6⟩ := seg_facts ok h0 h1
  have g1 := Int.ediv_nonneg f5 (Int.le_of_lt f1)
  have g2 := Int.ediv_le_self (gi hs (seg hs h + 1) - gi hs (seg hs h)) f5
  have g3 := upD_bd f1 f5
  exact ⟨_, _, _, _, rfl, rfl, rfl, rfl, f1, f2, f3, f4, f5, f6, g1, by omega, g3.1, by omega⟩

set_option maxHeartbeats 2000000 in
theorem volume_c (l1 h1 l2 h2 : Nat) (vh vl : Value) (hs ls : List Int) (a b : Int) (w : World) (hh : Ints l1 h1 w vh hs) (hl : Ints l2 h2 w vl ls) (b1 : h1 ≤ w.heap.size) (b2 : h2 ≤ w.heap.size) :
    Calls Tryd.prog 5 #[.agg #[vh, vl], .agg #[.int .i64 a, .int .i64 b]] w (Ret (volV hs ls a b) w) := by
  obtain ⟨a1, c1, ev1⟩ := hh.any
  obtain ⟨a2, c2, ev2⟩ := hl.any
  subst ev1 ev2
  have hB1 := Bk.new w 29 #[.slice a1 hs.length c1, .slice a2 ls.length c2]
  have hB2 : Bk ((w.alloc (.cells #[.slice a1 hs.length c1, .slice a2 ls.length c2] 29)).alloc (.cells #[.int .i64 a, .int .i64 b] 23)) (w.heap.size + 1) 23 #[.int .i64 a, .int .i64 b] := by
    simpa using Bk.new (w.alloc (.cells #[.slice a1 hs.length c1, .slice a2 ls.length c2] 29)) 23 #[.int .i64 a, .int .i64 b]
  obtain ⟨W0, hW0⟩ : ∃ W0, ((w.alloc (.cells #[.slice a1 hs.length c1, .slice a2 ls.length c2] 29)).alloc (.cells #[.int .i64 a, .int .i64 b] 23)).alloc (.cells #[.int .i64 0, .int .i64 0] 23) = W0 := ⟨_, rfl⟩
  have hB3 : Bk W0 (w.heap.size + 2) 23 #[.int .i64 0, .int .i64 0] := by
    rw [← hW0]
    simpa using Bk.new ((w.alloc (.cells #[.slice a1 hs.length c1, .slice a2 ls.length c2] 29)).alloc (.cells #[.int .i64 a, .int .i64 b] 23)) 23 #[.int .i64 0, .int .i64 0]
  have hg0 : w.grownBy W0 none := hW0 ▸ gb_alloc (gb_alloc (gb_alloc (gb_refl _ _) _) _) _
  replace hB1 : Bk W0 w.heap.size 29 #[.slice a1 hs.length c1, .slice a2 ls.length c2] := hW0 ▸ (hB1.alloc _).alloc _
  replace hB2 : Bk W0 (w.heap.size + 1) 23 #[.int .i64 a, .int .i64 b] := hW0 ▸ hB2.alloc _
  have HW0 := Lib.hid hW0
  have HH := Lib.hid (And.intro hh hl)
  clear hW0 hh hl
  go_enter Tryd.func5, Tryd.ntmps5
  go_wp2_with fail
  rw [HW0.out]
  refine (checkTank_c l1 h1 l2 h2 _ _ hs ls _ (HH.out.1.below (below_of_gb hg0) b1) (HH.out.2.below (below_of_gb hg0) b2)).mono ?_
  rintro e w1 ⟨rfl, hg1⟩
  clear HW0
  replace hB1 := hB1.gb hg1 (by simp)
  replace hB2 := hB2.gb hg1 (by simp)
  replace hB3 := hB3.gb hg1 (by simp)
  have hG1 := gb_trans hg0 hg1
  clear hg0 hg1
  have q1 := hB1.c2
  have q2 := hB2.c2
  have q3 := hB3.c2
  by_cases e1 : tankErr hs ls = 0
  · obtain ⟨k1, k2, k3, k4, k5⟩ := tank_ok e1
    obtain ⟨x, ox, cx, ex, _, _, X1⟩ := Ints.at (HH.out.1.below (below_of_gb hG1) b1) (by omega)
    injection ex with ex1 _ ex2
    subst ex1 ex2
    have x0 := X1 0 (by omega)
    have x1 := X1 (hs.length - 1) (by omega)
    rw [Nat.add_zero] at x0
    have K45 := Lib.hid (And.intro k4 k5)
    have K3 := Lib.hid k3
    clear X1 k4 k5 k3
    have hne : (tankErr hs ls != 0) = false := by simp [e1]
    have E1 := Lib.hid e1
    clear e1
    go_wp2_with fail
    have hp1 : (0 : Int) < (hs.length : Int) := by omega
    have hp0 : 0 < hs.length := by omega
    have hp6 : (1 : Int) ≤ (hs.length : Int) := by omega
    have hp7 : 1 ≤ hs.length := by omega
    have hp2 : (0 : Int) ≤ (hs.length : Int) - 1 := by omega
    have hp3 : (hs.length : Int) - 1 < (hs.length : Int) := by omega
    have hp4 : ((hs.length : Int) - 1).toNat = hs.length - 1 := by omega
    have hp5 : IntKind.i64.wrap ((hs.length : Int) - 1) = (hs.length : Int) - 1 := IntWalk.i64_in _ (by omega)
    go_region_held3 (fun W => W.cell? ⟨w.heap.size, 0, none⟩ = some (.slice (some ⟨x, ox, none⟩) hs.length c1) ∧ W.cell? ⟨w.heap.size + 1, 0, none⟩ = some (.int .i64 a) ∧ W.cell? ⟨w.heap.size + 1, 1, none⟩ = some (.int .i64 b) ∧
        W.cell? ⟨x, ox, none⟩ = some (.int .i64 (gi hs 0)) ∧ W.cell? ⟨x, ox + (hs.length - 1), none⟩ = some (.int .i64 (gi hs (hs.length - 1)))) (go_keep)
      (first
      | (go_at_call 21; refine (checkSpan_c _ _ _ _ _).mono ?_; rintro e w2 ⟨rfl, hg2⟩; have r1 := gbc hg2 (by simp) q1.1; have r2 := gbc hg2 (by simp) q2.1; have r3 := gbc hg2 (by simp) q2.2.1; have r4 := gbc hg2 (by simp) x0; have r5 := gbc hg2 (by simp) x1))
    have hG2 := gb_trans (gb_drew hG1) hg2
    replace hB1 := hB1.drew.gb hg2 (by simp)
    replace hB2 := hB2.drew.gb hg2 (by simp)
    replace hB3 := hB3.drew.gb hg2 (by simp)
    replace q3 := hB3.c2
    replace q2 := hB2.c2
    replace q1 := hB1.c2
    clear hG1 hg2 r1 r2 r3 r4 r5 x0 x1 hp0 hp1 hp2 hp3 hp4 hp5 hp6 hp7 hne
    have E2 : volErr hs ls a b = spanErr a b (gi hs 0) (gi hs (hs.length - 1)) := by rw [volErr, if_pos E1.out]
    have HE2 := Lib.hid E2
    clear E2
    by_cases e2 : spanErr a b (gi hs 0) (gi hs (hs.length - 1)) = 0
    · have hsp := spanErr_ok e2
      have HV := Lib.hid (volV_ok (HE2.out.trans e2))
      have hne : (spanErr a b (gi hs 0) (gi hs (hs.length - 1)) != 0) = false := by simp [e2]
      obtain ⟨l, x', m, d, L1, _, V1, _, hl1, hl2, hl3, hl4, hl5, hl6, hl7, hl8, _, _⟩ := line_open E1.out (h := a) hsp.1 (by have := (K45.out.1 (hs.length - 1) (by omega)).1; omega)
      obtain ⟨l', y', m', d', L2, _, _, V2, hr1, hr2, hr3, hr4, hr5, hr6, _, _, hr7, hr8⟩ := line_open E1.out (h := b) (by omega) (by have := (K45.out.1 (hs.length - 1) (by omega)).1; omega)
      have hab : (0 ≤ a ∧ a ≤ 100000) ∧ 0 ≤ b ∧ b ≤ 100000 := by
        have := (K45.out.1 (hs.length - 1) (by omega)).1
        have := (K45.out.1 0 (by omega)).1
        omega
      have hLa := line_c l1 h1 l2 h2 _ _ hs ls a w2 (HH.out.1.below (below_of_gb hG2) b1) (HH.out.2.below (below_of_gb hG2) b2) E1.out (Nat.le_trans b1 hG2.size) (Nat.le_trans b2 hG2.size) hab.1.1 hab.1.2
      rw [L1] at hLa
      have HLa := Lib.hid hLa
      have HL2 := Lib.hid L2
      have HV12 := Lib.hid (And.intro V1 V2)
      clear hLa L1 L2 V1 V2 e2 hsp
      go_wp2_with fail
      refine HLa.out.mono ?_
      rintro e w3 ⟨rfl, hg3⟩
      clear HLa
      have hG3 := gb_trans hG2 hg3
      replace hB1 := hB1.gb hg3 (by simp)
      replace hB2 := hB2.gb hg3 (by simp)
      replace hB3 := hB3.gb hg3 (by simp)
      replace q3 := hB3.c2
      replace q2 := hB2.c2
      replace q1 := hB1.c2
      have t1 := hB1.lt
      have t2 := hB2.lt
      have t3 := hB3.lt
      clear hG2 hg3
      go_wp2_with (go_at_call 23; refine (floor_c _ _ _ hl1 (by omega) (by omega) (by omega)).mono ?_; rintro e w' ⟨rfl, rfl⟩)
      have hO := Bk.new w3 23 #[.int .i64 (l + m * x' / d), .int .i64 0]
      have hG3' : w.grownBy (w3.alloc (.cells #[.int .i64 (l + m * x' / d), .int .i64 0] 23)) none := gb_alloc hG3 _
      have hLb := line_c l1 h1 l2 h2 _ _ hs ls b (w3.alloc (.cells #[.int .i64 (l + m * x' / d), .int .i64 0] 23)) (HH.out.1.below (below_of_gb hG3') b1) (HH.out.2.below (below_of_gb hG3') b2) E1.out (Nat.le_trans b1 hG3'.size) (Nat.le_trans b2 hG3'.size) hab.2.1 hab.2.2
      rw [HL2.out] at hLb
      refine hLb.mono ?_
      rintro e w4 ⟨rfl, hg4⟩
      have hG4 := gb_trans hG3' hg4
      replace hB1 := (hB1.alloc _).gb hg4 (by simp)
      replace hB2 := (hB2.alloc _).gb hg4 (by simp)
      replace hB3 := (hB3.alloc _).gb hg4 (by simp)
      replace hO := hO.gb hg4 (by simp)
      replace q3 := hB3.c2
      replace q2 := hB2.c2
      replace q1 := hB1.c2
      have q4 := hO.c2
      clear hLb hG3 hG3' hg4
      go_wp2_with (go_at_call 24; refine (ceil_c _ _ _ hr1 (by omega) (by omega) (by omega)).mono ?_; rintro e w' ⟨rfl, rfl⟩)
      exact bodyPost_ret (v := .tuple #[.agg #[.int .i64 (l + m * x' / d), .int .i64 (l' + upD (m' * y') d')], .int .i64 0]) (by simp [results, Tryd.results5, go_sem, q3]) rfl
        ⟨by rw [HV.out, HV12.out.1, HV12.out.2], gb_setCell (gb_setCell (gb_setCell hG4 (.inr (by simp <;> omega)) _) (.inr (by simp <;> omega)) _) (.inr (by simp <;> omega)) _⟩
    · have hne : (spanErr a b (gi hs 0) (gi hs (hs.length - 1)) != 0) = true := by simp [e2]
      have HV := Lib.hid (volV_err HE2.out e2)
      clear e2
      go_wp2_with fail
      exact bodyPost_ret (v := .tuple #[.agg #[.int .i64 0, .int .i64 0], .int .i64 (spanErr a b (gi hs 0) (gi hs (hs.length - 1)))]) (by simp [results, Tryd.results5, go_sem, q3]) rfl
        ⟨by rw [HV.out], gb_setCell (gb_setCell hG2 (.inr (by simp <;> omega)) _) (.inr (by simp <;> omega)) _⟩
  · have hne : (tankErr hs ls != 0) = true := by simp [e1]
    have HV := Lib.hid (volV_err (a := a) (b := b) (show volErr hs ls a b = tankErr hs ls by rw [volErr, if_neg e1]) e1)
    clear e1
    go_wp2_with fail
    exact bodyPost_ret (v := .tuple #[.agg #[.int .i64 0, .int .i64 0], .int .i64 (tankErr hs ls)]) (by simp [results, Tryd.results5, go_sem, q3]) rfl
      ⟨by rw [HV.out], gb_setCell (gb_setCell hG1 (.inr (by simp <;> omega)) _) (.inr (by simp <;> omega)) _⟩
end Go.Proofs.YtcndphefomigeaaDoor
