/- The kit: newSeed. -/
import Derived.Test.YtfifldbinnkdmaaMem
import Derived.Test.YtfifldbinnkdmaaKS
set_option linter.unusedVariables false
set_option linter.unusedSimpArgs false
set_option linter.unnecessarySimpa false
namespace Go.Proofs.Ytfifldbinnkdmaa
open Go.RowKit

/-- NewSeed: a new block, a word in it. -/
def NewSeedPost (w : World) (e : Ending) (w' : World) : Prop := ∃ g, e = .returned (.pointer (some ⟨g, 0, none⟩)) ∧ w.heap.size ≤ g ∧ SeedAt w' g ∧ w.grownBy w' none

set_option maxHeartbeats 400000 in
theorem newSeed_c (lo hi : Nat) (v : Value) (zs : List Int) (w : World) (hv : Ints lo hi w v zs) :
    Calls Try.prog 16 #[v] w (NewSeedPost w) := by
  have hm := hv.len
  unfold maxLen at hm
  rcases Nat.eq_zero_or_pos zs.length with h0 | h0
  · obtain ⟨a, c, rfl, rfl⟩ := hv.nil_ h0
    clear h0 hv
    go_enter Try.func16, Try.ntmps16
    go_wp2
    refine wp_loop_rounds 1 ?_
    rw [rounds_succ]
    go_wp2
    go_ret
    exact ⟨_, rfl, Nat.le_refl _, ⟨1, Bk.new _ _ _⟩, gb_alloc (gb_refl _ _) _⟩
  · obtain ⟨b, off, c, rfl, _, _, h3⟩ := Ints.form' hv h0
    have H3 := Lib.hid h3
    clear h3 hv
    go_enter Try.func16, Try.ntmps16
    go_wp2
    go_loopw [4] (fun i wr => ∃ k : Nat, k ≤ zs.length ∧ i = .int .i64 k ∧ SeedAt wr w.heap.size ∧ w.grownBy wr none) (fun i _ => zs.length - (intOf i).toNat)
    case atStart => exact ⟨0, Nat.zero_le _, rfl, ⟨1, Bk.new _ _ _⟩, gb_alloc (gb_refl _ _) _⟩
    case round =>
      obtain ⟨k, hk, rfl, hs, hg⟩ := hrel
      by_cases hlt : k < zs.length
      · have hcell : wr.cell? ⟨b, off + k, none⟩ = some (.int .i64 zs[k]) := gbc hg (by simp) (H3.out k hlt)
        obtain ⟨u, hu, hf⟩ := hs.facts
        go_wp2_with fail
        go_region
        clear hu hf hcell
        go_wp2_with (go_at_call 68; refine (next_c w.heap.size _ (SeedAt.set hs _).drew).mono ?_; rintro e w1 ⟨r, rfl, hr, hs1, hg1⟩)
        go_roundw
        case rel =>
          have hrel' : ∃ k' : Nat, k' ≤ zs.length ∧ Value.int .i64 ((k : Int) + 1) = .int .i64 k' ∧ SeedAt w1 w.heap.size ∧ w.grownBy w1 none :=
            ⟨k + 1, by omega, by go_num, hs1, gb_trans' (gb_drew (gb_setCell hg (.inr (Nat.le_refl _)) _)) hg1 (fun g e => by cases e; exact .inr (Nat.le_refl _))⟩
          exact hrel'
        case measure => simp [intOf]; omega
      · go_wp2_with fail
        go_ret
        exact ⟨_, rfl, Nat.le_refl _, hs, hg⟩
end Go.Proofs.Ytfifldbinnkdmaa
