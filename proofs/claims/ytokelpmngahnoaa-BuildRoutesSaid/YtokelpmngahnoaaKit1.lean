/- sastrugikit: the seed's beginning, copies and comparisons of lists. -/
import Derived.Test.YtokelpmngahnoaaK1
set_option linter.unusedVariables false
set_option linter.unusedSimpArgs false
set_option linter.unnecessarySimpa false
namespace Go.Proofs.Ytokelpmngahnoaa
open Go.RowKit

/-- NewSeed: a new block, a word in it. -/
def sameB (xs ys : List Int) : Bool := decide (xs = ys)
theorem sameB_no {xs ys : List Int} (h : xs ≠ ys) : sameB xs ys = false := by simp [sameB, h]
theorem sameB_self (xs : List Int) : sameB xs xs = true := by simp [sameB]
theorem eq_of_getElem {α : Type} {xs ys : List α} (hl : xs.length = ys.length) (h : ∀ i (h1 : i < xs.length), xs[i] = ys[i]'(hl ▸ h1)) : xs = ys :=
  List.ext_getElem hl fun i h1 _ => h i h1

set_option maxHeartbeats 400000 in
theorem same_c (lo hi lo' hi' : Nat) (v v' : Value) (xs ys : List Int) (w : World) (hx : Ints lo hi w v xs) (hy : Ints lo' hi' w v' ys) :
    Calls Try.prog 39 #[v, v'] w fun e w' => e = .returned (.bool (sameB xs ys)) ∧ w.grownBy w' none := by
  have hm := hx.len
  have hm' := hy.len
  unfold maxLen at hm hm'
  by_cases hl : xs.length = ys.length
  · rcases Nat.eq_zero_or_pos xs.length with h0 | h0
    · obtain ⟨a, c, rfl, rfl⟩ := hx.nil_ h0
      obtain ⟨a', c', rfl, rfl⟩ := hy.nil_ (by omega)
      clear hl h0
      go_enter Try.func39, Try.ntmps39
      go_wp2
      refine wp_loop_rounds 1 ?_
      rw [rounds_succ]
      go_wp2
      go_ret
      exact ⟨rfl, gb_refl _ _⟩
    · obtain ⟨b, off, c, rfl, _, _, h3⟩ := Ints.form' hx h0
      obtain ⟨b', off', c', rfl, _, _, h3'⟩ := Ints.form' hy (by omega)
      have H3 := Lib.hid h3
      have H3' := Lib.hid h3'
      have Hl := Lib.hid hl
      have hle : xs.length ≤ ys.length ∧ ys.length ≤ xs.length := by omega
      have hne : ((xs.length : Int) != (ys.length : Int)) = false := by simp [hl]
      clear h3 h3' hx hy hl
      go_enter Try.func39, Try.ntmps39
      go_wp2
      go_loopw [5] (fun i wr => ∃ k : Nat, k ≤ xs.length ∧ i = .int .i64 k ∧ (∀ j (h1 : j < k) (h2 : j < xs.length) (h3 : j < ys.length), xs[j] = ys[j]) ∧ w.grownBy wr none) (fun i _ => xs.length - (intOf i).toNat)
      case atStart => exact ⟨0, Nat.zero_le _, rfl, fun j h1 => absurd h1 (by omega), gb_refl _ _⟩
      case round =>
        obtain ⟨k, hk, rfl, hj, hg⟩ := hrel
        have HJ := Lib.hid hj
        clear hj
        by_cases hlt : k < xs.length
        · have hlt' : k < ys.length := by omega
          have hc1 : wr.cell? ⟨b, off + k, none⟩ = some (.int .i64 xs[k]) := gbc hg (by simp) (H3.out k hlt)
          have hc2 : wr.cell? ⟨b', off' + k, none⟩ = some (.int .i64 ys[k]) := gbc hg (by simp) (H3'.out k hlt')
          by_cases he : xs[k] = ys[k]
          · have hb : (xs[k] != ys[k]) = false := by simp [he]
            have He := Lib.hid he
            clear he
            go_wp2_with fail
            go_quiet (fail)
            clear hb hc1 hc2
            go_wp2_with fail
            go_roundw
            case rel =>
              have hrel' : ∃ k' : Nat, k' ≤ xs.length ∧ Value.int .i64 ((k : Int) + 1) = .int .i64 k' ∧ (∀ j (h1 : j < k') (h2 : j < xs.length) (h3 : j < ys.length), xs[j] = ys[j]) ∧ w.grownBy (wr.drewN nq) none :=
                ⟨k + 1, by omega, by go_num, fun j h1 h2 h3 => by
                  rcases Nat.lt_succ_iff_lt_or_eq.1 h1 with h | rfl
                  · exact HJ.out j h h2 h3
                  · exact He.out, gb_drewN hg _⟩
              first | exact hrel' | ((repeat apply Exists.intro); exact ⟨hrel', rfl⟩)
            case measure => simp [intOf]; omega
          · have hb : (xs[k] != ys[k]) = true := by simp [he]
            have hxy : xs ≠ ys := fun e => he (by simp [e])
            have hxf : sameB xs ys = false := sameB_no hxy
            have Hx := Lib.hid hxf
            clear he hxy hxf
            go_wp2_with fail
            go_quiet (fail)
            go_wp2_with fail
            go_ret
            exact ⟨by rw [Hx.out]; rfl, gb_drewN hg _⟩
        · have hxy : xs = ys := eq_of_getElem Hl.out fun j h1 => HJ.out j (by omega) h1 (by omega)
          have Hx := Lib.hid hxy
          clear hxy
          go_wp2_with fail
          go_ret
          exact ⟨by rw [Hx.out, sameB_self]; rfl, hg⟩
  · obtain ⟨a, c, rfl⟩ := hx.any
    obtain ⟨a', c', rfl⟩ := hy.any
    have hxf : sameB xs ys = false := sameB_no (fun e => hl (by rw [e]))
    have Hne := Lib.hid hxf
    clear hxf
    have hb : ((xs.length : Int) != (ys.length : Int)) = true := by simp; omega
    go_enter Try.func39, Try.ntmps39
    go_wp2
    go_ret
    exact ⟨by rw [Hne.out]; rfl, gb_refl _ _⟩
end Go.Proofs.Ytokelpmngahnoaa
