/- fuel and its reference: tanks. -/
import Derived.Test.YtfifldbinnkdmaaFuel1
import Derived.Test.YtfifldbinnkdmaaSearch
import Derived.Deep.DeepCutAuto
set_option linter.unusedVariables false
set_option linter.unusedSimpArgs false
set_option linter.unnecessarySimpa false
namespace Go.Proofs.Ytfifldbinnkdmaa
open Go.RowKit

/-- The error of the heights and litres of a tank from place i on. -/
def tankFrom (hs ls : List Int) : Nat → Nat → Int
  | 0, _ => 0
  | f + 1, i => if (inB (gi hs i) 0 100000 && inB (gi ls i) 0 1000000000) = true then
      (if 0 < i ∧ (gi hs i ≤ gi hs (i - 1) ∨ gi ls i < gi ls (i - 1)) then 11 else tankFrom hs ls f (i + 1)) else 2
/-- The error of a tank. -/
def tankErr (hs ls : List Int) : Int :=
  if hs.length < 2 then 6 else if 40 < hs.length then 8 else if ls.length ≠ hs.length then 3 else tankFrom hs ls hs.length 0

theorem tankFrom_bad {hs ls : List Int} {f i : Nat} (h : inB (gi hs i) 0 100000 = false ∨ inB (gi ls i) 0 1000000000 = false) : tankFrom hs ls (f + 1) i = 2 := by
  rcases h with h | h <;> simp [tankFrom, h]
theorem tankFrom_order {hs ls : List Int} {f i : Nat} (h1 : inB (gi hs i) 0 100000 = true) (h2 : inB (gi ls i) 0 1000000000 = true) (h3 : 0 < i) (h4 : gi hs i ≤ gi hs (i - 1) ∨ gi ls i < gi ls (i - 1)) : tankFrom hs ls (f + 1) i = 11 := by
  simp [tankFrom, h1, h2, h3, h4]
theorem tankFrom_step {hs ls : List Int} {f i : Nat} (h1 : inB (gi hs i) 0 100000 = true) (h2 : inB (gi ls i) 0 1000000000 = true) (h3 : ¬ (0 < i ∧ (gi hs i ≤ gi hs (i - 1) ∨ gi ls i < gi ls (i - 1)))) :
    tankFrom hs ls (f + 1) i = tankFrom hs ls f (i + 1) := by
  simp only [tankFrom, h1, h2, Bool.and_self, if_true, if_neg h3]

set_option maxHeartbeats 1000000 in
theorem checkTank_c (l1 h1 l2 h2 : Nat) (vh vl : Value) (hs ls : List Int) (w : World) (hh : Ints l1 h1 w vh hs) (hl : Ints l2 h2 w vl ls) :
    Calls Try.prog 73 #[.agg #[vh, vl]] w (Ret (.int .i64 (tankErr hs ls)) w) := by
  have hm := hh.len
  have hm' := hl.len
  unfold maxLen at hm hm'
  by_cases c1 : hs.length < 2
  · have hx : tankErr hs ls = 6 := by simp [tankErr, c1]
    have Hx := Lib.hid hx
    clear hx
    obtain ⟨a, c, rfl⟩ := hh.any
    obtain ⟨a', c', rfl⟩ := hl.any
    clear hh hl
    go_enter Try.func73, Try.ntmps73
    go_wp2_with fail
    go_ret
    exact ⟨by rw [Hx.out]; rfl, gb_alloc (gb_refl _ _) _⟩
  by_cases c2 : 40 < hs.length
  · have hx : tankErr hs ls = 8 := by simp [tankErr, c1, c2]
    have Hx := Lib.hid hx
    clear hx
    obtain ⟨a, c, rfl⟩ := hh.any
    obtain ⟨a', c', rfl⟩ := hl.any
    clear hh hl
    go_enter Try.func73, Try.ntmps73
    go_wp2_with fail
    go_ret
    exact ⟨by rw [Hx.out]; rfl, gb_alloc (gb_refl _ _) _⟩
  by_cases c3 : ls.length = hs.length
  · have hx : tankErr hs ls = tankFrom hs ls hs.length 0 := by simp [tankErr, c1, c2, c3]
    have Hx := Lib.hid hx
    clear hx
    obtain ⟨b, off, c, rfl, _, _, H1⟩ := Ints.at hh (by omega)
    obtain ⟨b', off', c', rfl, _, _, H2⟩ := Ints.at hl (by omega)
    have hne : ((ls.length : Int) != (hs.length : Int)) = false := by simp [c3]
    have HL := Lib.hid c3
    have HA := Lib.hid H1
    have HB := Lib.hid H2
    have hle : hs.length ≤ ls.length := by omega
    clear H1 H2 hh hl c3 hm'
    go_enter Try.func73, Try.ntmps73
    go_wp2_with fail
    go_loopw [26] (fun i wr => ∃ k : Nat, k ≤ hs.length ∧ i = .int .i64 k ∧ tankErr hs ls = tankFrom hs ls (hs.length - k) k ∧ (w.alloc (.cells #[.slice (some ⟨b, off, none⟩) hs.length c, .slice (some ⟨b', off', none⟩) ls.length c'] 51)).grownBy wr none) (fun i _ => hs.length - (intOf i).toNat)
    case atStart => exact ⟨0, Nat.zero_le _, rfl, Hx.out, gb_refl _ _⟩
    case round =>
      obtain ⟨k, hk, rfl, hrem, hg⟩ := hrel
      have HR := Lib.hid hrem
      have hbox := ((Bk.new w 51 #[.slice (some ⟨b, off, none⟩) hs.length c, .slice (some ⟨b', off', none⟩) ls.length c']).gb hg (by simp)).c2
      clear hrem Hx
      by_cases hlt : k < hs.length
      · have g1 : wr.cell? ⟨b, off + k, none⟩ = some (.int .i64 (gi hs k)) := gbc hg (by simp) (alc _ (HA.out k hlt))
        have g2 : wr.cell? ⟨b', off' + k, none⟩ = some (.int .i64 (gi ls k)) := gbc hg (by simp) (alc _ (HB.out k (by omega)))
        obtain ⟨f, hf⟩ : ∃ f, hs.length - k = f + 1 := ⟨hs.length - k - 1, by omega⟩
        have Hf := Lib.hid hf
        clear hf
        cases b1 : inB (gi hs k) 0 100000 with
        | false =>
          have Hy : Hid (tankErr hs ls = 2) := by rw [HR.out, Hf.out]; exact tankFrom_bad (.inl b1)
          clear HR
          go_wp2_with (go_at_call 83; refine (in_c _ _ _ _).mono ?_; rintro e w' ⟨rfl, rfl⟩)
          go_ret
          exact ⟨by rw [Hy.out]; rfl, gb_trans (gb_alloc (gb_refl _ _) _) hg⟩
        | true =>
          cases b2 : inB (gi ls k) 0 1000000000 with
          | false =>
            have Hy : Hid (tankErr hs ls = 2) := by rw [HR.out, Hf.out]; exact tankFrom_bad (.inr b2)
            clear HR
            go_wp2_with (go_at_call 83; refine (in_c _ _ _ _).mono ?_; rintro e w' ⟨rfl, rfl⟩)
            go_ret
            exact ⟨by rw [Hy.out]; rfl, gb_trans (gb_alloc (gb_refl _ _) _) hg⟩
          | true =>
            have next : ¬ (0 < k ∧ (gi hs k ≤ gi hs (k - 1) ∨ gi ls k < gi ls (k - 1))) → tankErr hs ls = tankFrom hs ls (hs.length - (k + 1)) (k + 1) := fun h => by
              rw [HR.out, Hf.out, tankFrom_step b1 b2 h]
              congr 1
              have := Hf.out
              omega
            have HN := Lib.hid next
            have bad : 0 < k → (gi hs k ≤ gi hs (k - 1) ∨ gi ls k < gi ls (k - 1)) → tankErr hs ls = 11 := fun h h' => by
              rw [HR.out, Hf.out, tankFrom_order b1 b2 h h']
            have HBad := Lib.hid bad
            clear next bad HR
            go_wp2_with (go_at_call 83; refine (in_c _ _ _ _).mono ?_; rintro e w' ⟨rfl, rfl⟩)
            clear b1 b2
            by_cases hk0 : 0 < k
            · have g3 : wr.cell? ⟨b, off + (k - 1), none⟩ = some (.int .i64 (gi hs (k - 1))) := gbc hg (by simp) (alc _ (HA.out (k - 1) (by omega)))
              have g4 : wr.cell? ⟨b', off' + (k - 1), none⟩ = some (.int .i64 (gi ls (k - 1))) := gbc hg (by simp) (alc _ (HB.out (k - 1) (by omega)))
              have hd0 : decide ((0 : Int) < (k : Int)) = true := by simp; omega
              by_cases e1 : gi hs k ≤ gi hs (k - 1)
              · have hd1 : decide (gi hs k ≤ gi hs (k - 1)) = true := by simpa using e1
                go_quiet (fail)
                go_wp2_with fail
                go_ret
                exact ⟨by rw [HBad.out hk0 (.inl e1)]; rfl, gb_drewN (gb_trans (gb_alloc (gb_refl _ _) _) hg) _⟩
              · have hd1 : decide (gi hs k ≤ gi hs (k - 1)) = false := by simpa using e1
                by_cases e2 : gi ls k < gi ls (k - 1)
                · have hd2 : decide (gi ls k < gi ls (k - 1)) = true := by simpa using e2
                  go_quiet (fail)
                  go_wp2_with fail
                  go_ret
                  exact ⟨by rw [HBad.out hk0 (.inr e2)]; rfl, gb_drewN (gb_trans (gb_alloc (gb_refl _ _) _) hg) _⟩
                · have hd2 : decide (gi ls k < gi ls (k - 1)) = false := by simpa using e2
                  have HM := Lib.hid (HN.out (by omega))
                  clear HN HBad
                  go_quiet (fail)
                  clear e1 e2 hd0 hd1 hd2 g1 g2 g3 g4
                  go_wp2_with fail
                  go_roundw
                  case rel => exact ⟨k + 1, by omega, by go_num, HM.out, gb_drewN hg _⟩
                  case measure => simp [intOf]; omega
            · have hd0 : decide ((0 : Int) < (k : Int)) = false := by simp; omega
              have HM := Lib.hid (HN.out (by omega))
              clear HN HBad
              go_quiet (fail)
              clear hd0 g1 g2
              go_wp2_with fail
              go_roundw
              case rel => exact ⟨k + 1, by omega, by go_num, HM.out, gb_drewN hg _⟩
              case measure => simp [intOf]; omega
      · have Hy : Hid (tankErr hs ls = 0) := by rw [HR.out, show hs.length - k = 0 by omega]; rfl
        clear HR
        go_wp2_with fail
        go_ret
        exact ⟨by rw [Hy.out]; rfl, gb_trans (gb_alloc (gb_refl _ _) _) hg⟩
  · have hx : tankErr hs ls = 3 := by simp [tankErr, c1, c2, c3]
    have Hx := Lib.hid hx
    have hne : ((ls.length : Int) != (hs.length : Int)) = true := by simp; omega
    clear hx
    obtain ⟨a, c, rfl⟩ := hh.any
    obtain ⟨a', c', rfl⟩ := hl.any
    clear hh hl c3
    go_enter Try.func73, Try.ntmps73
    go_wp2_with fail
    go_ret
    exact ⟨by rw [Hx.out]; rfl, gb_alloc (gb_refl _ _) _⟩
set_option maxHeartbeats 1000000 in
theorem rcheckTank_c (l1 h1 l2 h2 : Nat) (vh vl : Value) (hs ls : List Int) (w : World) (hh : Ints l1 h1 w vh hs) (hl : Ints l2 h2 w vl ls) :
    Calls Try.prog 78 #[.agg #[vh, vl]] w (Ret (.int .i64 (tankErr hs ls)) w) := by
  have hm := hh.len
  have hm' := hl.len
  unfold maxLen at hm hm'
  by_cases c1 : hs.length < 2
  · have hx : tankErr hs ls = 6 := by simp [tankErr, c1]
    have Hx := Lib.hid hx
    clear hx
    obtain ⟨a, c, rfl⟩ := hh.any
    obtain ⟨a', c', rfl⟩ := hl.any
    clear hh hl
    go_enter Try.func78, Try.ntmps78
    go_wp2_with fail
    go_ret
    exact ⟨by rw [Hx.out]; rfl, gb_alloc (gb_refl _ _) _⟩
  by_cases c2 : 40 < hs.length
  · have hx : tankErr hs ls = 8 := by simp [tankErr, c1, c2]
    have Hx := Lib.hid hx
    clear hx
    obtain ⟨a, c, rfl⟩ := hh.any
    obtain ⟨a', c', rfl⟩ := hl.any
    clear hh hl
    go_enter Try.func78, Try.ntmps78
    go_wp2_with fail
    go_ret
    exact ⟨by rw [Hx.out]; rfl, gb_alloc (gb_refl _ _) _⟩
  by_cases c3 : ls.length = hs.length
  · have hx : tankErr hs ls = tankFrom hs ls hs.length 0 := by simp [tankErr, c1, c2, c3]
    have Hx := Lib.hid hx
    clear hx
    obtain ⟨b, off, c, rfl, _, _, H1⟩ := Ints.at hh (by omega)
    obtain ⟨b', off', c', rfl, _, _, H2⟩ := Ints.at hl (by omega)
    have hne : ((ls.length : Int) != (hs.length : Int)) = false := by simp [c3]
    have HL := Lib.hid c3
    have HA := Lib.hid H1
    have HB := Lib.hid H2
    have hle : hs.length ≤ ls.length := by omega
    clear H1 H2 hh hl c3 hm'
    go_enter Try.func78, Try.ntmps78
    go_wp2_with fail
    go_loopw [3] (fun i wr => ∃ k : Nat, k ≤ hs.length ∧ i = .int .i64 k ∧ tankErr hs ls = tankFrom hs ls (hs.length - k) k ∧ (w.alloc (.cells #[.slice (some ⟨b, off, none⟩) hs.length c, .slice (some ⟨b', off', none⟩) ls.length c'] 51)).grownBy wr none) (fun i _ => hs.length - (intOf i).toNat)
    case atStart => exact ⟨0, Nat.zero_le _, rfl, Hx.out, gb_refl _ _⟩
    case round =>
      obtain ⟨k, hk, rfl, hrem, hg⟩ := hrel
      have HR := Lib.hid hrem
      have hbox := ((Bk.new w 51 #[.slice (some ⟨b, off, none⟩) hs.length c, .slice (some ⟨b', off', none⟩) ls.length c']).gb hg (by simp)).c2
      clear hrem Hx
      by_cases hlt : k < hs.length
      · have g1 : wr.cell? ⟨b, off + k, none⟩ = some (.int .i64 (gi hs k)) := gbc hg (by simp) (alc _ (HA.out k hlt))
        have g2 : wr.cell? ⟨b', off' + k, none⟩ = some (.int .i64 (gi ls k)) := gbc hg (by simp) (alc _ (HB.out k (by omega)))
        obtain ⟨f, hf⟩ : ∃ f, hs.length - k = f + 1 := ⟨hs.length - k - 1, by omega⟩
        have Hf := Lib.hid hf
        clear hf
        cases b1 : inB (gi hs k) 0 100000 with
        | false =>
          have Hy : Hid (tankErr hs ls = 2) := by rw [HR.out, Hf.out]; exact tankFrom_bad (.inl b1)
          clear HR
          go_wp2_with (go_at_call 85; refine (within_c _ _ _ _).mono ?_; rintro e w' ⟨rfl, rfl⟩)
          go_ret
          exact ⟨by rw [Hy.out]; rfl, gb_trans (gb_alloc (gb_refl _ _) _) hg⟩
        | true =>
          cases b2 : inB (gi ls k) 0 1000000000 with
          | false =>
            have Hy : Hid (tankErr hs ls = 2) := by rw [HR.out, Hf.out]; exact tankFrom_bad (.inr b2)
            clear HR
            go_wp2_with (go_at_call 85; refine (within_c _ _ _ _).mono ?_; rintro e w' ⟨rfl, rfl⟩)
            go_ret
            exact ⟨by rw [Hy.out]; rfl, gb_trans (gb_alloc (gb_refl _ _) _) hg⟩
          | true =>
            have next : ¬ (0 < k ∧ (gi hs k ≤ gi hs (k - 1) ∨ gi ls k < gi ls (k - 1))) → tankErr hs ls = tankFrom hs ls (hs.length - (k + 1)) (k + 1) := fun h => by
              rw [HR.out, Hf.out, tankFrom_step b1 b2 h]
              congr 1
              have := Hf.out
              omega
            have HN := Lib.hid next
            have bad : 0 < k → (gi hs k ≤ gi hs (k - 1) ∨ gi ls k < gi ls (k - 1)) → tankErr hs ls = 11 := fun h h' => by
              rw [HR.out, Hf.out, tankFrom_order b1 b2 h h']
            have HBad := Lib.hid bad
            clear next bad HR
            go_wp2_with (go_at_call 85; refine (within_c _ _ _ _).mono ?_; rintro e w' ⟨rfl, rfl⟩)
            clear b1 b2
            by_cases hk0 : 0 < k
            · have g3 : wr.cell? ⟨b, off + (k - 1), none⟩ = some (.int .i64 (gi hs (k - 1))) := gbc hg (by simp) (alc _ (HA.out (k - 1) (by omega)))
              have g4 : wr.cell? ⟨b', off' + (k - 1), none⟩ = some (.int .i64 (gi ls (k - 1))) := gbc hg (by simp) (alc _ (HB.out (k - 1) (by omega)))
              have hd0 : decide ((0 : Int) < (k : Int)) = true := by simp; omega
              by_cases e1 : gi hs k ≤ gi hs (k - 1)
              · have hd1 : decide (gi hs k ≤ gi hs (k - 1)) = true := by simpa using e1
                go_quiet (fail)
                go_wp2_with fail
                go_ret
                exact ⟨by rw [HBad.out hk0 (.inl e1)]; rfl, gb_drewN (gb_trans (gb_alloc (gb_refl _ _) _) hg) _⟩
              · have hd1 : decide (gi hs k ≤ gi hs (k - 1)) = false := by simpa using e1
                by_cases e2 : gi ls k < gi ls (k - 1)
                · have hd2 : decide (gi ls k < gi ls (k - 1)) = true := by simpa using e2
                  go_quiet (fail)
                  go_wp2_with fail
                  go_ret
                  exact ⟨by rw [HBad.out hk0 (.inr e2)]; rfl, gb_drewN (gb_trans (gb_alloc (gb_refl _ _) _) hg) _⟩
                · have hd2 : decide (gi ls k < gi ls (k - 1)) = false := by simpa using e2
                  have HM := Lib.hid (HN.out (by omega))
                  clear HN HBad
                  go_quiet (fail)
                  clear e1 e2 hd0 hd1 hd2 g1 g2 g3 g4
                  go_wp2_with fail
                  go_roundw
                  case rel => exact ⟨k + 1, by omega, by go_num, HM.out, gb_drewN hg _⟩
                  case measure => simp [intOf]; omega
            · have hd0 : decide ((0 : Int) < (k : Int)) = false := by simp; omega
              have HM := Lib.hid (HN.out (by omega))
              clear HN HBad
              go_quiet (fail)
              clear hd0 g1 g2
              go_wp2_with fail
              go_roundw
              case rel => exact ⟨k + 1, by omega, by go_num, HM.out, gb_drewN hg _⟩
              case measure => simp [intOf]; omega
      · have Hy : Hid (tankErr hs ls = 0) := by rw [HR.out, show hs.length - k = 0 by omega]; rfl
        clear HR
        go_wp2_with fail
        go_ret
        exact ⟨by rw [Hy.out]; rfl, gb_trans (gb_alloc (gb_refl _ _) _) hg⟩
  · have hx : tankErr hs ls = 3 := by simp [tankErr, c1, c2, c3]
    have Hx := Lib.hid hx
    have hne : ((ls.length : Int) != (hs.length : Int)) = true := by simp; omega
    clear hx
    obtain ⟨a, c, rfl⟩ := hh.any
    obtain ⟨a', c', rfl⟩ := hl.any
    clear hh hl c3
    go_enter Try.func78, Try.ntmps78
    go_wp2_with fail
    go_ret
    exact ⟨by rw [Hx.out]; rfl, gb_alloc (gb_refl _ _) _⟩

theorem tank_ok {hs ls : List Int} (h : tankErr hs ls = 0) : 2 ≤ hs.length ∧ hs.length ≤ 40 ∧ ls.length = hs.length ∧
    (∀ i, i < hs.length → (0 ≤ gi hs i ∧ gi hs i ≤ 100000) ∧ 0 ≤ gi ls i ∧ gi ls i ≤ 1000000000) ∧ (∀ i, 0 < i → i < hs.length → gi hs (i - 1) < gi hs i ∧ gi ls (i - 1) ≤ gi ls i) := by
  unfold tankErr at h
  by_cases c1 : hs.length < 2
  · simp [c1] at h
  by_cases c2 : 40 < hs.length
  · simp [c1, c2] at h
  by_cases c3 : ls.length ≠ hs.length
  · simp [c1, c2, c3] at h
  rw [if_neg c1, if_neg c2, if_neg c3] at h
  have key : ∀ f k, tankFrom hs ls f k = 0 → ∀ i, k ≤ i → i < k + f → ((0 ≤ gi hs i ∧ gi hs i ≤ 100000) ∧ 0 ≤ gi ls i ∧ gi ls i ≤ 1000000000) ∧ (0 < i → gi hs (i - 1) < gi hs i ∧ gi ls (i - 1) ≤ gi ls i) := by
    intro f
    induction f with
    | zero => intro k _ i h1 h2; omega
    | succ f ih =>
      intro k hk i h1 h2
      unfold tankFrom at hk
      split at hk
      · rename_i hb
        rw [Bool.and_eq_true] at hb
        split at hk
        · cases hk
        · rename_i ho
          rcases Nat.eq_or_lt_of_le h1 with rfl | h3
          · exact ⟨⟨inB_yes hb.1, inB_yes hb.2⟩, fun h0 => by omega⟩
          · exact ih (k + 1) hk i h3 (by omega)
      · cases hk
  have hk := key _ _ h
  exact ⟨by omega, by omega, by omega, fun i hi => (hk i (Nat.zero_le _) (by omega)).1, fun i h0 hi => (hk i (Nat.zero_le _) (by omega)).2 h0⟩
end Go.Proofs.Ytfifldbinnkdmaa
