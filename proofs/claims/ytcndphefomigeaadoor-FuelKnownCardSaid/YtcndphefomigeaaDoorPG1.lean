/- What the seed's draws hand back. -/
import Derived.Test.YtcndphefomigeaaDoorPBase
import Derived.Deep.QuietTactic
import Derived.BigQuiet
import Derived.Deep.RegionHeld3
import Derived.Lib.MinMax
import Derived.Test.YtcndphefomigeaaDoorPApp
import Derived.Deep.Upon
import Derived.Test.YtcndphefomigeaaDoorPMem
set_option linter.unusedVariables false
set_option linter.unusedSimpArgs false
set_option linter.unnecessarySimpa false
namespace Go.Proofs.YtcndphefomigeaaDoor
open Go.RowKit

end Go.Proofs.YtcndphefomigeaaDoor
/- What the seed's draws of spans hand back. -/
namespace Go.Proofs.YtcndphefomigeaaDoor
open Go.RowKit

end Go.Proofs.YtcndphefomigeaaDoor
/- What the seed's draw of a span within bounds hands back. -/
namespace Go.Proofs.YtcndphefomigeaaDoor
open Go.RowKit

end Go.Proofs.YtcndphefomigeaaDoor
/- One of two, of three numbers that a literal holds. -/
namespace Go.Proofs.YtcndphefomigeaaDoor
open Go.RowKit
end Go.Proofs.YtcndphefomigeaaDoor
/- append onto an empty literal: a copy of a slice that reads as a list. -/
namespace Go.Proofs.YtcndphefomigeaaDoor
open Go.RowKit
section
variable {α : Type} {P : Program} {t e : TypeId} {sz bytes : Nat} {enc : α → List Value} (w : World)

theorem Own.empty (enc : α → List Value) (e : TypeId) (sz base : Nat) {w : World} {g : Nat} (hg : Bk w g e #[]) (hb : base ≤ g) : Own enc e sz base w (.slice (some ⟨g, 0, none⟩) 0 0) [] :=
  ⟨by simp, .inr ⟨g, 0, #[], rfl, hb, hg, Nat.le_refl _, Nat.zero_le _, by simp, by simp⟩⟩
theorem run_copy (ok : ElemOk P t e sz bytes enc) (ty : TypeId) (base g : Nat) (hg : Bk w g e #[]) (lo hi : Nat) (v : Value) (l : List α) (hl : Sl enc sz lo hi w v l) (hbig : l.length ≤ 100000000000) (hb : base ≤ g) :
    ∃ v' w', (Builtin.append_ #[t, t] ty #[.slice (some ⟨g, 0, none⟩) 0 0, v]).run P w = .ok v' w' ∧ Own enc e sz base w' v' l ∧ w.grownBy w' (some g) := by
  have hgl := hg.lt
  by_cases h0 : l.length = 0
  · obtain ⟨a, c, rfl, rfl⟩ := hl.nil_ h0
    obtain ⟨i, z, hi, hz, hsz, hby, hzs⟩ := ok.info
    refine ⟨.slice (some ⟨g, 0, none⟩) 0 0, w, ?_, Own.empty enc e sz base hg hb, gb_refl _ _⟩
    cases a <;> simp [Builtin.append_, run_underlying ok.under, sizeOf, typeInfo, hi, storeCells, loadCells, loadCellsFrom, Builtin.lenOf, Builtin.firstCells]
  · obtain ⟨b, off, c, rfl, h1, h2, h3⟩ := hl.form (by omega)
    have hfl : ∀ (l : List α) (j : Nat) (u : Value), (l.flatMap enc)[j]? = some u → ∃ i k x, l[i]? = some x ∧ (enc x)[k]? = some u ∧ j = i * sz + k := by
      intro l
      induction l with
      | nil => intro j u h; simp at h
      | cons x l ih =>
        intro j u h
        rw [List.flatMap_cons] at h
        by_cases hj : j < sz
        · rw [List.getElem?_append_left (by rw [ok.len]; exact hj)] at h
          exact ⟨0, j, x, rfl, h, by omega⟩
        · rw [List.getElem?_append_right (by rw [ok.len]; omega), ok.len] at h
          obtain ⟨i, k, y, h1, h2, h3⟩ := ih _ _ h
          exact ⟨i + 1, k, y, h1, h2, by rw [Nat.add_mul]; omega⟩
    obtain ⟨g', cap, w', hr, h4, h5, h6⟩ := run_app w ok ty base (.slice (some ⟨g, 0, none⟩) 0 0) [] l (Own.empty enc e sz base hg hb) ⟨b, off, none⟩ c (by omega) (fun j u hj => by
      obtain ⟨i, k, x, e1, e2, rfl⟩ := hfl l j u hj
      have hi := (List.getElem?_eq_some_iff.1 e1)
      obtain ⟨hi, rfl⟩ := hi
      have := h3 i hi k u e2
      have hadd : (⟨b, off, none⟩ : Addr).add (i * sz + k) = ⟨b, off + i * sz + k, none⟩ := by
        unfold Addr.add
        split <;> simp_all <;> omega
      rw [hadd]
      exact this) (by simpa using hbig) (by omega)
    refine ⟨_, w', hr, by simpa using h4, ?_⟩
    rcases h5 with ⟨h5, h7⟩ | ⟨h5, h7⟩
    · simp [Value.ownBlock] at h5
      subst h5
      exact h7
    · exact gb_trans' (gb_refl _ _) h7 (fun _ e => by cases e)
end
end Go.Proofs.YtcndphefomigeaaDoor
/- The kit: newSeed. -/
namespace Go.Proofs.YtcndphefomigeaaDoor
open Go.RowKit

end Go.Proofs.YtcndphefomigeaaDoor
/- sastrugikit: the seed's beginning, copies and comparisons of lists. -/
namespace Go.Proofs.YtcndphefomigeaaDoor
open Go.RowKit

/-- NewSeed: a new block, a word in it. -/
def sameB (xs ys : List Int) : Bool := decide (xs = ys)
theorem sameB_no {xs ys : List Int} (h : xs ≠ ys) : sameB xs ys = false := by simp [sameB, h]
theorem sameB_self (xs : List Int) : sameB xs xs = true := by simp [sameB]
theorem eq_of_getElem {α : Type} {xs ys : List α} (hl : xs.length = ys.length) (h : ∀ i (h1 : i < xs.length), xs[i] = ys[i]'(hl ▸ h1)) : xs = ys :=
  List.ext_getElem hl fun i h1 _ => h i h1

set_option maxHeartbeats 400000 in
theorem same_c (lo hi lo' hi' : Nat) (v v' : Value) (xs ys : List Int) (w : World) (hx : Ints lo hi w v xs) (hy : Ints lo' hi' w v' ys) :
    Calls Tryd.prog 31 #[v, v'] w fun e w' => e = .returned (.bool (sameB xs ys)) ∧ w.grownBy w' none := by
  have hm := hx.len
  have hm' := hy.len
  unfold maxLen at hm hm'
  by_cases hl : xs.length = ys.length
  · rcases Nat.eq_zero_or_pos xs.length with h0 | h0
    · obtain ⟨a, c, rfl, rfl⟩ := hx.nil_ h0
      obtain ⟨a', c', rfl, rfl⟩ := hy.nil_ (by omega)
      clear hl h0
      go_enter Tryd.func31, Tryd.ntmps31
      go_wp2
      refine wp_loop_rounds 1 ?_
      rw [rounds_succ]
      go_wp2
      go_ret
      exact ⟨rfl, gb_refl _ _⟩
    · obtain ⟨b, off, c, rfl, _, _, h3⟩ := Ints.form' hx h0
      obtain ⟨b', off', c', rfl, _, _, h3'⟩ := Ints.form' hy (by omega)
      have H3 := Lib.hid h3
      have H3' := Lib.hid h3'
      have Hl := Lib.hid hl
      have hle : xs.length ≤ ys.length ∧ ys.length ≤ xs.length := by omega
      have hne : ((xs.length : Int) != (ys.length : Int)) = false := by simp [hl]
      clear h3 h3' hx hy hl
      go_enter Tryd.func31, Tryd.ntmps31
      go_wp2
      go_loopw [5] (fun i wr => ∃ k : Nat, k ≤ xs.length ∧ i = .int .i64 k ∧ (∀ j (h1 : j < k) (h2 : j < xs.length) (h3 : j < ys.length), xs[j] = ys[j]) ∧ w.grownBy wr none) (fun i _ => xs.length - (intOf i).toNat)
      case atStart => exact ⟨0, Nat.zero_le _, rfl, fun j h1 => absurd h1 (by omega), gb_refl _ _⟩
      case round =>
        obtain ⟨k, hk, rfl, hj, hg⟩ := hrel
        have HJ := Lib.hid hj
        clear hj
        by_cases hlt : k < xs.length
        · have hlt' : k < ys.length := by omega
          have hc1 : wr.cell? ⟨b, off + k, none⟩ = some (.int .i64 xs[k]) := gbc hg (by simp) (H3.out k hlt)
          have hc2 : wr.cell? ⟨b', off' + k, none⟩ = some (.int .i64 ys[k]) := gbc hg (by simp) (H3'.out k hlt')
          by_cases he : xs[k] = ys[k]
          · have hb : (xs[k] != ys[k]) = false := by simp [he]
            have He := Lib.hid he
            clear he
            go_wp2_with fail
            go_quiet (fail)
            clear hb hc1 hc2
            go_wp2_with fail
            go_roundw
            case rel =>
              have hrel' : ∃ k' : Nat, k' ≤ xs.length ∧ Value.int .i64 ((k : Int) + 1) = .int .i64 k' ∧ (∀ j (h1 : j < k') (h2 : j < xs.length) (h3 : j < ys.length), xs[j] = ys[j]) ∧ w.grownBy (wr.drewN nq) none :=
                ⟨k + 1, by omega, by go_num, fun j h1 h2 h3 => by
                  rcases Nat.lt_succ_iff_lt_or_eq.1 h1 with h | rfl
                  · exact HJ.out j h h2 h3
                  · exact He.out, gb_drewN hg _⟩
              first | exact hrel' | ((repeat apply Exists.intro); exact ⟨hrel', rfl⟩)
            case measure => simp [intOf]; omega
          · have hb : (xs[k] != ys[k]) = true := by simp [he]
            have hxy : xs ≠ ys := fun e => he (by simp [e])
            have hxf : sameB xs ys = false := sameB_no hxy
            have Hx := Lib.hid hxf
            clear he hxy hxf
            go_wp2_with fail
            go_quiet (fail)
            go_wp2_with fail
            go_ret
            exact ⟨by rw [Hx.out]; rfl, gb_drewN hg _⟩
        · have hxy : xs = ys := eq_of_getElem Hl.out fun j h1 => HJ.out j (by omega) h1 (by omega)
          have Hx := Lib.hid hxy
          clear hxy
          go_wp2_with fail
          go_ret
          exact ⟨by rw [Hx.out, sameB_self]; rfl, hg⟩
  · obtain ⟨a, c, rfl⟩ := hx.any
    obtain ⟨a', c', rfl⟩ := hy.any
    have hxf : sameB xs ys = false := sameB_no (fun e => hl (by rw [e]))
    have Hne := Lib.hid hxf
    clear hxf
    have hb : ((xs.length : Int) != (ys.length : Int)) = true := by simp; omega
    go_enter Tryd.func31, Tryd.ntmps31
    go_wp2
    go_ret
    exact ⟨by rw [Hne.out]; rfl, gb_refl _ _⟩
end Go.Proofs.YtcndphefomigeaaDoor
/- The kit's comparisons of lists of spans. -/
namespace Go.Proofs.YtcndphefomigeaaDoor
open Go.RowKit
def sameS (xs ys : List Sp) : Bool := decide (xs = ys)
theorem sameS_no {xs ys : List Sp} (h : xs ≠ ys) : sameS xs ys = false := by simp [sameS, h]
theorem sameS_self (xs : List Sp) : sameS xs xs = true := by simp [sameS]

set_option maxHeartbeats 400000 in
theorem sameSpans_c (lo hi lo' hi' : Nat) (v v' : Value) (xs ys : List Sp) (w : World) (hx : Sps lo hi w v xs) (hy : Sps lo' hi' w v' ys) :
    Calls Tryd.prog 26 #[v, v'] w fun e w' => e = .returned (.bool (sameS xs ys)) ∧ w.grownBy w' none := by
  have hm := hx.len
  have hm' := hy.len
  unfold maxLen at hm hm'
  by_cases hl : xs.length = ys.length
  · rcases Nat.eq_zero_or_pos xs.length with h0 | h0
    · obtain ⟨a, c, rfl, rfl⟩ := hx.nil_ h0
      obtain ⟨a', c', rfl, rfl⟩ := hy.nil_ (by omega)
      clear hl h0
      go_enter Tryd.func26, Tryd.ntmps26
      go_wp2
      refine wp_loop_rounds 1 ?_
      rw [rounds_succ]
      go_wp2
      go_ret
      exact ⟨rfl, gb_refl _ _⟩
    · obtain ⟨b, off, c, rfl, _, _, h3⟩ := Sps.form' hx h0
      obtain ⟨b', off', c', rfl, _, _, h3'⟩ := Sps.form' hy (by omega)
      have H3 := Lib.hid h3
      have H3' := Lib.hid h3'
      have Hl := Lib.hid hl
      have hle : xs.length ≤ ys.length ∧ ys.length ≤ xs.length := by omega
      have hne : ((xs.length : Int) != (ys.length : Int)) = false := by simp [hl]
      clear h3 h3' hx hy hl
      go_enter Tryd.func26, Tryd.ntmps26
      go_wp2
      go_loopw [5] (fun i wr => ∃ k : Nat, k ≤ xs.length ∧ i = .int .i64 k ∧ (∀ j (h1 : j < k) (h2 : j < xs.length) (h3 : j < ys.length), xs[j] = ys[j]) ∧ w.grownBy wr none) (fun i _ => xs.length - (intOf i).toNat)
      case atStart => exact ⟨0, Nat.zero_le _, rfl, fun j h1 => absurd h1 (by omega), gb_refl _ _⟩
      case round =>
        obtain ⟨k, hk, rfl, hj, hg⟩ := hrel
        have HJ := Lib.hid hj
        clear hj
        by_cases hlt : k < xs.length
        · have hlt' : k < ys.length := by omega
          have hc1 : wr.cell? ⟨b, off + k * 2, none⟩ = some (.int .i64 xs[k].lo) ∧ wr.cell? ⟨b, off + k * 2 + 1, none⟩ = some (.int .i64 xs[k].hi) := ⟨gbc hg (by simp) (H3.out k hlt).1, gbc hg (by simp) (H3.out k hlt).2⟩
          have hc2 : wr.cell? ⟨b', off' + k * 2, none⟩ = some (.int .i64 ys[k].lo) ∧ wr.cell? ⟨b', off' + k * 2 + 1, none⟩ = some (.int .i64 ys[k].hi) := ⟨gbc hg (by simp) (H3'.out k hlt').1, gbc hg (by simp) (H3'.out k hlt').2⟩
          by_cases he : xs[k] = ys[k]
          · have hb : (xs[k].lo == ys[k].lo) = true ∧ (xs[k].hi == ys[k].hi) = true := by simp [he]
            have He := Lib.hid he
            clear he
            go_wp2_with fail
            go_quiet (fail)
            clear hb hc1 hc2
            go_wp2_with fail
            go_roundw
            case rel =>
              have hrel' : ∃ k' : Nat, k' ≤ xs.length ∧ Value.int .i64 ((k : Int) + 1) = .int .i64 k' ∧ (∀ j (h1 : j < k') (h2 : j < xs.length) (h3 : j < ys.length), xs[j] = ys[j]) ∧ w.grownBy (wr.drewN nq) none :=
                ⟨k + 1, by omega, by go_num, fun j h1 h2 h3 => by
                  rcases Nat.lt_succ_iff_lt_or_eq.1 h1 with h | rfl
                  · exact HJ.out j h h2 h3
                  · exact He.out, gb_drewN hg _⟩
              first | exact hrel' | ((repeat apply Exists.intro); exact ⟨hrel', rfl⟩)
            case measure => simp [intOf]; omega
          · have hb : ((xs[k].lo == ys[k].lo) = false) ∨ ((xs[k].lo == ys[k].lo) = true ∧ (xs[k].hi == ys[k].hi) = false) := by
              cases h1 : (xs[k].lo == ys[k].lo) with
              | false => exact .inl rfl
              | true =>
                cases h2 : (xs[k].hi == ys[k].hi) with
                | false => exact .inr ⟨rfl, rfl⟩
                | true =>
                  simp only [beq_iff_eq] at h1 h2
                  exact absurd (show xs[k] = ys[k] by rw [show xs[k] = ⟨xs[k].lo, xs[k].hi⟩ from rfl, h1, h2]) he
            have hxy : xs ≠ ys := fun e => he (by simp [e])
            have hxf : sameS xs ys = false := sameS_no hxy
            have Hx := Lib.hid hxf
            clear he hxy hxf
            rcases hb with hb | ⟨hb, hb2⟩
            all_goals
              go_wp2_with fail
              go_quiet (fail)
              go_wp2_with fail
              go_ret
              exact ⟨by rw [Hx.out]; rfl, gb_drewN hg _⟩
        · have hxy : xs = ys := eq_of_getElem Hl.out fun j h1 => HJ.out j (by omega) h1 (by omega)
          have Hx := Lib.hid hxy
          clear hxy
          go_wp2_with fail
          go_ret
          exact ⟨by rw [Hx.out, sameS_self]; rfl, hg⟩
  · obtain ⟨a, c, rfl⟩ := hx.any
    obtain ⟨a', c', rfl⟩ := hy.any
    have hxf : sameS xs ys = false := sameS_no (fun e => hl (by rw [e]))
    have Hne := Lib.hid hxf
    clear hxf
    have hb : ((xs.length : Int) != (ys.length : Int)) = true := by simp; omega
    go_enter Tryd.func26, Tryd.ntmps26
    go_wp2
    go_ret
    exact ⟨by rw [Hne.out]; rfl, gb_refl _ _⟩
end Go.Proofs.YtcndphefomigeaaDoor
/- The kit's copies of lists. -/
namespace Go.Proofs.YtcndphefomigeaaDoor
open Go.RowKit
end Go.Proofs.YtcndphefomigeaaDoor
