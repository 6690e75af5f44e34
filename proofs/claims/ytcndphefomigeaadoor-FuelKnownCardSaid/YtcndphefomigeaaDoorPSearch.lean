/- sort.Search, over whatever function it is handed that answers as a plain test. -/
import Derived.Test.YtcndphefomigeaaDoorPMem
set_option linter.unusedVariables false
set_option linter.unusedSimpArgs false
set_option linter.unnecessarySimpa false
namespace Go.Proofs.YtcndphefomigeaaDoor
open Go.RowKit

/-- The place that a binary search comes to. -/
def SearchPost (n : Nat) (p : Nat → Bool) (w : World) (e : Ending) (w' : World) : Prop :=
  ∃ k : Nat, e = .returned (.int .i64 k) ∧ k ≤ n ∧ (k = 0 ∨ p (k - 1) = false) ∧ (k = n ∨ p k = true) ∧ w.grownBy w' none

set_option maxHeartbeats 400000 in
theorem search_c (n : Nat) (hn : n ≤ 1000000000) (g : FuncId) (lb : Array Value) (p : Nat → Bool) (w : World)
    (eg : ∀ args w, (callFunc g args).run Tryd.prog w = .ok (.enter g args) w)
    (hf : ∀ h : Nat, h < n → ∀ W, w.grownBy W none → Calls Tryd.prog g (#[.int .i64 h] ++ lb) W fun e W' => e = .returned (.bool (p h)) ∧ W.grownBy W' none) :
    Calls Tryd.prog 50 #[.int .i64 n, .func (.func g) #[] lb] w (SearchPost n p w) := by
  have HF := Lib.hid hf
  clear hf
  go_enter Tryd.func50, Tryd.ntmps50
  go_wp2
  go_loopw [5, 6] (fun i j wr => ∃ a b : Nat, a ≤ b ∧ b ≤ n ∧ i = .int .i64 a ∧ j = .int .i64 b ∧ (a = 0 ∨ p (a - 1) = false) ∧ (b = n ∨ p b = true) ∧ w.grownBy wr none) (fun i j _ => (intOf j - intOf i).toNat)
  case atStart => exact ⟨0, n, Nat.zero_le _, Nat.le_refl _, rfl, rfl, .inl rfl, .inl rfl, gb_refl _ _⟩
  case round =>
    obtain ⟨a, b, hab, hbn, rfl, rfl, h1, h2, hg⟩ := hrel
    have HH := Lib.hid (And.intro h1 h2)
    clear h1 h2
    by_cases hlt : a < b
    · go_wp2_with fail
      obtain ⟨h, hh⟩ : ∃ h : Nat, h = (a + b) / 2 := ⟨_, rfl⟩
      rw [show ((a : Int) + (b : Int)) / 2 = (h : Int) by omega]
      have hb1 : a ≤ h := by omega
      have hb2 : h < b := by omega
      clear hh
      refine (HF.out h (by omega) _ hg).mono ?_
      rintro e w1 ⟨rfl, hg1⟩
      have hg2 := gb_trans hg hg1
      by_cases hp : p h = true
      · go_wp2_with fail
        go_roundw
        case rel =>
          have hrel' : ∃ a' b' : Nat, a' ≤ b' ∧ b' ≤ n ∧ Value.int .i64 a = .int .i64 a' ∧ Value.int .i64 (h : Int) = .int .i64 b' ∧ (a' = 0 ∨ p (a' - 1) = false) ∧ (b' = n ∨ p b' = true) ∧ w.grownBy w1 none :=
            ⟨a, h, hb1, by omega, rfl, rfl, HH.out.1, .inr hp, hg2⟩
          first | exact hrel' | ((repeat apply Exists.intro); exact ⟨hrel', rfl⟩)
        case measure => simp [intOf]; omega
      · have hp' : p h = false := by simpa using hp
        have HP := Lib.hid hp'
        clear hp
        go_wp2_with fail
        go_roundw
        case rel =>
          have hrel' : ∃ a' b' : Nat, a' ≤ b' ∧ b' ≤ n ∧ Value.int .i64 ((h : Int) + 1) = .int .i64 a' ∧ Value.int .i64 b = .int .i64 b' ∧ (a' = 0 ∨ p (a' - 1) = false) ∧ (b' = n ∨ p b' = true) ∧ w.grownBy w1 none :=
            ⟨h + 1, b, by omega, by omega, by go_num, rfl, .inr HP.out, HH.out.2, hg2⟩
          first | exact hrel' | ((repeat apply Exists.intro); exact ⟨hrel', rfl⟩)
        case measure => simp [intOf]; omega
    · go_wp2_with fail
      go_ret
      exact ⟨a, rfl, by omega, HH.out.1, by rw [show a = b by omega]; exact HH.out.2, hg⟩

end Go.Proofs.YtcndphefomigeaaDoor
