/- The kit: newSeed. -/
import Derived.Test.YtfifldbinnkdmaaMem
import Derived.Test.YtfifldbinnkdmaaKS
import Derived.Test.YtfifldbinnkdmaaCopy
set_option linter.unusedVariables false
set_option linter.unusedSimpArgs false
set_option linter.unnecessarySimpa false
namespace Go.Proofs.Ytfifldbinnkdmaa
open Go.RowKit

/-- NewSeed: a new block, a word in it. -/
def NewSeedPost (w : World) (e : Ending) (w' : World) : Prop := ∃ g, e = .returned (.pointer (some ⟨g, 0, none⟩)) ∧ w.heap.size ≤ g ∧ SeedAt w' g ∧ w.grownBy w' none

set_option maxHeartbeats 400000 in
theorem newSeed_c (lo hi : Nat) (v : Value) (zs : List Int) (w : World) (hv : Ints lo hi w v zs) :
    Calls Try.prog 16 #[v] w (NewSeedPost w) := by
  have hm := hv.len
  unfold maxLen at hm
  rcases Nat.eq_zero_or_pos zs.length with h0 | h0
  · obtain ⟨a, c, rfl, rfl⟩ := hv.nil_ h0
    clear h0 hv
    go_enter Try.func16, Try.ntmps16
    go_wp2
    refine wp_loop_rounds 1 ?_
    rw [rounds_succ]
    go_wp2
    go_ret
    exact ⟨_, rfl, Nat.le_refl _, ⟨1, Bk.new _ _ _⟩, gb_alloc (gb_refl _ _) _⟩
  · obtain ⟨b, off, c, rfl, _, _, h3⟩ := Ints.form' hv h0
    have H3 := Lib.hid h3
    clear h3 hv
    go_enter Try.func16, Try.ntmps16
    go_wp2
    go_loopw [4] (fun i wr => ∃ k : Nat, k ≤ zs.length ∧ i = .int .i64 k ∧ SeedAt wr w.heap.size ∧ w.grownBy wr none) (fun i _ => zs.length - (intOf i).toNat)
    case atStart => exact ⟨0, Nat.zero_le _, rfl, ⟨1, Bk.new _ _ _⟩, gb_alloc (gb_refl _ _) _⟩
    case round =>
      obtain ⟨k, hk, rfl, hs, hg⟩ := hrel
      by_cases hlt : k < zs.length
      · have hcell : wr.cell? ⟨b, off + k, none⟩ = some (.int .i64 zs[k]) := gbc hg (by simp) (H3.out k hlt)
        obtain ⟨u, hu, hf⟩ := hs.facts
        go_wp2_with fail
        go_region
        clear hu hf hcell
        go_wp2_with (go_at_call 68; refine (next_c w.heap.size _ (SeedAt.set hs _).drew).mono ?_; rintro e w1 ⟨r, rfl, hr, hs1, hg1⟩)
        go_roundw
        case rel =>
          have hrel' : ∃ k' : Nat, k' ≤ zs.length ∧ Value.int .i64 ((k : Int) + 1) = .int .i64 k' ∧ SeedAt w1 w.heap.size ∧ w.grownBy w1 none :=
            ⟨k + 1, by omega, by go_num, hs1, gb_trans' (gb_drew (gb_setCell hg (.inr (Nat.le_refl _)) _)) hg1 (fun g e => by cases e; exact .inr (Nat.le_refl _))⟩
          exact hrel'
        case measure => simp [intOf]; omega
      · go_wp2_with fail
        go_ret
        exact ⟨_, rfl, Nat.le_refl _, hs, hg⟩
end Go.Proofs.Ytfifldbinnkdmaa
/- sastrugikit: the seed's beginning, copies and comparisons of lists. -/
namespace Go.Proofs.Ytfifldbinnkdmaa
open Go.RowKit

/-- NewSeed: a new block, a word in it. -/
def sameB (xs ys : List Int) : Bool := decide (xs = ys)
theorem sameB_no {xs ys : List Int} (h : xs ≠ ys) : sameB xs ys = false := by simp [sameB, h]
theorem sameB_self (xs : List Int) : sameB xs xs = true := by simp [sameB]
theorem eq_of_getElem {α : Type} {xs ys : List α} (hl : xs.length = ys.length) (h : ∀ i (h1 : i < xs.length), xs[i] = ys[i]'(hl ▸ h1)) : xs = ys :=
  List.ext_getElem hl fun i h1 _ => h i h1

set_option maxHeartbeats 400000 in
theorem same_c (lo hi lo' hi' : Nat) (v v' : Value) (xs ys : List Int) (w : World) (hx : Ints lo hi w v xs) (hy : Ints lo' hi' w v' ys) :
    Calls Try.prog 25 #[v, v'] w fun e w' => e = .returned (.bool (sameB xs ys)) ∧ w.grownBy w' none := by
  have hm := hx.len
  have hm' := hy.len
  unfold maxLen at hm hm'
  by_cases hl : xs.length = ys.length
  · rcases Nat.eq_zero_or_pos xs.length with h0 | h0
    · obtain ⟨a, c, rfl, rfl⟩ := hx.nil_ h0
      obtain ⟨a', c', rfl, rfl⟩ := hy.nil_ (by omega)
      clear hl h0
      go_enter Try.func25, Try.ntmps25
      go_wp2
      refine wp_loop_rounds 1 ?_
      rw [rounds_succ]
      go_wp2
      go_ret
      exact ⟨rfl, gb_refl _ _⟩
    · obtain ⟨b, off, c, rfl, _, _, h3⟩ := Ints.form' hx h0
      obtain ⟨b', off', c', rfl, _, _, h3'⟩ := Ints.form' hy (by omega)
      have H3 := Lib.hid h3
      have H3' := Lib.hid h3'
      have Hl := Lib.hid hl
      have hle : xs.length ≤ ys.length ∧ ys.length ≤ xs.length := by omega
      have hne : ((xs.length : Int) != (ys.length : Int)) = false := by simp [hl]
      clear h3 h3' hx hy hl
      go_enter Try.func25, Try.ntmps25
      go_wp2
      go_loopw [5] (fun i wr => ∃ k : Nat, k ≤ xs.length ∧ i = .int .i64 k ∧ (∀ j (h1 : j < k) (h2 : j < xs.length) (h3 : j < ys.length), xs[j] = ys[j]) ∧ w.grownBy wr none) (fun i _ => xs.length - (intOf i).toNat)
      case atStart => exact ⟨0, Nat.zero_le _, rfl, fun j h1 => absurd h1 (by omega), gb_refl _ _⟩
      case round =>
        obtain ⟨k, hk, rfl, hj, hg⟩ := hrel
        have HJ := Lib.hid hj
        clear hj
        by_cases hlt : k < xs.length
        · have hlt' : k < ys.length := by omega
          have hc1 : wr.cell? ⟨b, off + k, none⟩ = some (.int .i64 xs[k]) := gbc hg (by simp) (H3.out k hlt)
          have hc2 : wr.cell? ⟨b', off' + k, none⟩ = some (.int .i64 ys[k]) := gbc hg (by simp) (H3'.out k hlt')
          by_cases he : xs[k] = ys[k]
          · have hb : (xs[k] != ys[k]) = false := by simp [he]
            have He := Lib.hid he
            clear he
            go_wp2_with fail
            go_quiet (fail)
            clear hb hc1 hc2
            go_wp2_with fail
            go_roundw
            case rel =>
              have hrel' : ∃ k' : Nat, k' ≤ xs.length ∧ Value.int .i64 ((k : Int) + 1) = .int .i64 k' ∧ (∀ j (h1 : j < k') (h2 : j < xs.length) (h3 : j < ys.length), xs[j] = ys[j]) ∧ w.grownBy (wr.drewN nq) none :=
                ⟨k + 1, by omega, by go_num, fun j h1 h2 h3 => by
                  rcases Nat.lt_succ_iff_lt_or_eq.1 h1 with h | rfl
                  · exact HJ.out j h h2 h3
                  · exact He.out, gb_drewN hg _⟩
              first | exact hrel' | ((repeat apply Exists.intro); exact ⟨hrel', rfl⟩)
            case measure => simp [intOf]; omega
          · have hb : (xs[k] != ys[k]) = true := by simp [he]
            have hxy : xs ≠ ys := fun e => he (by simp [e])
            have hxf : sameB xs ys = false := sameB_no hxy
            have Hx := Lib.hid hxf
            clear he hxy hxf
            go_wp2_with fail
            go_quiet (fail)
            go_wp2_with fail
            go_ret
            exact ⟨by rw [Hx.out]; rfl, gb_drewN hg _⟩
        · have hxy : xs = ys := eq_of_getElem Hl.out fun j h1 => HJ.out j (by omega) h1 (by omega)
          have Hx := Lib.hid hxy
          clear hxy
          go_wp2_with fail
          go_ret
          exact ⟨by rw [Hx.out, sameB_self]; rfl, hg⟩
  · obtain ⟨a, c, rfl⟩ := hx.any
    obtain ⟨a', c', rfl⟩ := hy.any
    have hxf : sameB xs ys = false := sameB_no (fun e => hl (by rw [e]))
    have Hne := Lib.hid hxf
    clear hxf
    have hb : ((xs.length : Int) != (ys.length : Int)) = true := by simp; omega
    go_enter Try.func25, Try.ntmps25
    go_wp2
    go_ret
    exact ⟨by rw [Hne.out]; rfl, gb_refl _ _⟩
end Go.Proofs.Ytfifldbinnkdmaa
/- The kit's comparisons of lists of spans. -/
namespace Go.Proofs.Ytfifldbinnkdmaa
open Go.RowKit
def sameS (xs ys : List Sp) : Bool := decide (xs = ys)
theorem sameS_no {xs ys : List Sp} (h : xs ≠ ys) : sameS xs ys = false := by simp [sameS, h]
theorem sameS_self (xs : List Sp) : sameS xs xs = true := by simp [sameS]

set_option maxHeartbeats 400000 in
theorem sameSpans_c (lo hi lo' hi' : Nat) (v v' : Value) (xs ys : List Sp) (w : World) (hx : Sps lo hi w v xs) (hy : Sps lo' hi' w v' ys) :
    Calls Try.prog 24 #[v, v'] w fun e w' => e = .returned (.bool (sameS xs ys)) ∧ w.grownBy w' none := by
  have hm := hx.len
  have hm' := hy.len
  unfold maxLen at hm hm'
  by_cases hl : xs.length = ys.length
  · rcases Nat.eq_zero_or_pos xs.length with h0 | h0
    · obtain ⟨a, c, rfl, rfl⟩ := hx.nil_ h0
      obtain ⟨a', c', rfl, rfl⟩ := hy.nil_ (by omega)
      clear hl h0
      go_enter Try.func24, Try.ntmps24
      go_wp2
      refine wp_loop_rounds 1 ?_
      rw [rounds_succ]
      go_wp2
      go_ret
      exact ⟨rfl, gb_refl _ _⟩
    · obtain ⟨b, off, c, rfl, _, _, h3⟩ := Sps.form' hx h0
      obtain ⟨b', off', c', rfl, _, _, h3'⟩ := Sps.form' hy (by omega)
      have H3 := Lib.hid h3
      have H3' := Lib.hid h3'
      have Hl := Lib.hid hl
      have hle : xs.length ≤ ys.length ∧ ys.length ≤ xs.length := by omega
      have hne : ((xs.length : Int) != (ys.length : Int)) = false := by simp [hl]
      clear h3 h3' hx hy hl
      go_enter Try.func24, Try.ntmps24
      go_wp2
      go_loopw [5] (fun i wr => ∃ k : Nat, k ≤ xs.length ∧ i = .int .i64 k ∧ (∀ j (h1 : j < k) (h2 : j < xs.length) (h3 : j < ys.length), xs[j] = ys[j]) ∧ w.grownBy wr none) (fun i _ => xs.length - (intOf i).toNat)
      case atStart => exact ⟨0, Nat.zero_le _, rfl, fun j h1 => absurd h1 (by omega), gb_refl _ _⟩
      case round =>
        obtain ⟨k, hk, rfl, hj, hg⟩ := hrel
        have HJ := Lib.hid hj
        clear hj
        by_cases hlt : k < xs.length
        · have hlt' : k < ys.length := by omega
          have hc1 : wr.cell? ⟨b, off + k * 2, none⟩ = some (.int .i64 xs[k].lo) ∧ wr.cell? ⟨b, off + k * 2 + 1, none⟩ = some (.int .i64 xs[k].hi) := ⟨gbc hg (by simp) (H3.out k hlt).1, gbc hg (by simp) (H3.out k hlt).2⟩
          have hc2 : wr.cell? ⟨b', off' + k * 2, none⟩ = some (.int .i64 ys[k].lo) ∧ wr.cell? ⟨b', off' + k * 2 + 1, none⟩ = some (.int .i64 ys[k].hi) := ⟨gbc hg (by simp) (H3'.out k hlt').1, gbc hg (by simp) (H3'.out k hlt').2⟩
          by_cases he : xs[k] = ys[k]
          · have hb : (xs[k].lo == ys[k].lo) = true ∧ (xs[k].hi == ys[k].hi) = true := by simp [he]
            have He := Lib.hid he
            clear he
            go_wp2_with fail
            go_quiet (fail)
            clear hb hc1 hc2
            go_wp2_with fail
            go_roundw
            case rel =>
              have hrel' : ∃ k' : Nat, k' ≤ xs.length ∧ Value.int .i64 ((k : Int) + 1) = .int .i64 k' ∧ (∀ j (h1 : j < k') (h2 : j < xs.length) (h3 : j < ys.length), xs[j] = ys[j]) ∧ w.grownBy (wr.drewN nq) none :=
                ⟨k + 1, by omega, by go_num, fun j h1 h2 h3 => by
                  rcases Nat.lt_succ_iff_lt_or_eq.1 h1 with h | rfl
                  · exact HJ.out j h h2 h3
                  · exact He.out, gb_drewN hg _⟩
              first | exact hrel' | ((repeat apply Exists.intro); exact ⟨hrel', rfl⟩)
            case measure => simp [intOf]; omega
          · have hb : ((xs[k].lo == ys[k].lo) = false) ∨ ((xs[k].lo == ys[k].lo) = true ∧ (xs[k].hi == ys[k].hi) = false) := by
              cases h1 : (xs[k].lo == ys[k].lo) with
              | false => exact .inl rfl
              | true =>
                cases h2 : (xs[k].hi == ys[k].hi) with
                | false => exact .inr ⟨rfl, rfl⟩
                | true =>
                  simp only [beq_iff_eq] at h1 h2
                  exact absurd (show xs[k] = ys[k] by rw [show xs[k] = ⟨xs[k].lo, xs[k].hi⟩ from rfl, h1, h2]) he
            have hxy : xs ≠ ys := fun e => he (by simp [e])
            have hxf : sameS xs ys = false := sameS_no hxy
            have Hx := Lib.hid hxf
            clear he hxy hxf
            rcases hb with hb | ⟨hb, hb2⟩
            all_goals
              go_wp2_with fail
              go_quiet (fail)
              go_wp2_with fail
              go_ret
              exact ⟨by rw [Hx.out]; rfl, gb_drewN hg _⟩
        · have hxy : xs = ys := eq_of_getElem Hl.out fun j h1 => HJ.out j (by omega) h1 (by omega)
          have Hx := Lib.hid hxy
          clear hxy
          go_wp2_with fail
          go_ret
          exact ⟨by rw [Hx.out, sameS_self]; rfl, hg⟩
  · obtain ⟨a, c, rfl⟩ := hx.any
    obtain ⟨a', c', rfl⟩ := hy.any
    have hxf : sameS xs ys = false := sameS_no (fun e => hl (by rw [e]))
    have Hne := Lib.hid hxf
    clear hxf
    have hb : ((xs.length : Int) != (ys.length : Int)) = true := by simp; omega
    go_enter Try.func24, Try.ntmps24
    go_wp2
    go_ret
    exact ⟨by rw [Hne.out]; rfl, gb_refl _ _⟩
end Go.Proofs.Ytfifldbinnkdmaa
/- The kit's copies of lists. -/
namespace Go.Proofs.Ytfifldbinnkdmaa
open Go.RowKit
/-- A copy in blocks of the call's own. -/
def Copy {α : Type} (enc : α → List Value) (sz : Nat) (l : List α) (w : World) (e : Ending) (w' : World) : Prop := ∃ v, e = .returned v ∧ Sl enc sz w.heap.size w'.heap.size w' v l ∧ w.grownBy w' none
theorem own_c (lo hi : Nat) (v : Value) (l : List Int) (w : World) (h : Ints lo hi w v l) (hb : l.length ≤ 100000000000) :
    Calls Try.prog 29 #[v] w (Copy intEnc 1 l w) := by
  obtain ⟨a, c, e⟩ := h.any
  have hv : ∃ a n c, v = .slice a n c := ⟨_, _, _, e⟩
  have H := Lib.hid h
  clear h e
  obtain ⟨a, n, c, rfl⟩ := hv
  go_enter Try.func29, Try.ntmps29
  go_wp2_with (at_builtin; refine wpList_copy _ okInt rfl _ _ rfl w.heap.size w.heap.size rfl (Bk.new w _ _) (Nat.le_refl _) _ _ _ l rfl (H.out.alloc _) hb ?_; intro v' w1 ho hg)
  go_ret
  have hs := ho.sl (fun _ => rfl)
  exact ⟨_, rfl, hs, gb_trans' (gb_alloc (gb_refl _ _) _) hg (fun g e => by cases e; exact .inr (Nat.le_refl _))⟩
theorem ownSpans_c (lo hi : Nat) (v : Value) (l : List Sp) (w : World) (h : Sps lo hi w v l) (hb : l.length ≤ 100000000000) :
    Calls Try.prog 54 #[v] w (Copy spEnc 2 l w) := by
  obtain ⟨a, c, e⟩ := h.any
  have hv : ∃ a n c, v = .slice a n c := ⟨_, _, _, e⟩
  have H := Lib.hid h
  clear h e
  obtain ⟨a, n, c, rfl⟩ := hv
  go_enter Try.func54, Try.ntmps54
  go_wp2_with (at_builtin; refine wpList_copy _ okSp rfl _ _ rfl w.heap.size w.heap.size rfl (Bk.new w _ _) (Nat.le_refl _) _ _ _ l rfl (H.out.alloc _) hb ?_; intro v' w1 ho hg)
  go_ret
  have hs := ho.sl (fun _ => rfl)
  exact ⟨_, rfl, hs, gb_trans' (gb_alloc (gb_refl _ _) _) hg (fun g e => by cases e; exact .inr (Nat.le_refl _))⟩
end Go.Proofs.Ytfifldbinnkdmaa
