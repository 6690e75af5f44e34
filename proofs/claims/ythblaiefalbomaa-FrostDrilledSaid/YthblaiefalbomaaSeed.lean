/- What the seed's draws hand back. -/
import Derived.Test.YthblaiefalbomaaBase
set_option linter.unusedVariables false
set_option linter.unusedSimpArgs false
set_option linter.unnecessarySimpa false
namespace Go.Proofs.Ythblaiefalbomaa
open Go.RowKit

theorem xor_bd (a b : Int) : 0 ≤ bits .xor .u64 a b ∧ bits .xor .u64 a b < 18446744073709551616 := by
  show 0 ≤ IntKind.u64.wrap _ ∧ IntKind.u64.wrap _ < 18446744073709551616
  rw [IntKind.wrap_u64]
  omega

set_option maxHeartbeats 400000 in
theorem next_c (b : Nat) (w : World) (hs : SeedAt w b) :
    Calls Try.prog 56 #[.pointer (some ⟨b, 0, none⟩)] w (Gen .u64 (fun r => 0 ≤ r ∧ r < 18446744073709551616) b w) := by
  obtain ⟨u, hc, hf⟩ := hs.facts
  go_enter Try.func56, Try.ntmps56
  go_wp2
  go_ret
  exact ⟨_, rfl, xor_bd _ _, hs.set _, gb_setCell (gb_refl _ _) (.inl rfl) _⟩

def belowR (n : Int) (r : Int) : Prop := 0 ≤ r ∧ (r < n ∨ r = 0)

set_option maxHeartbeats 400000 in
theorem below_c (b : Nat) (n : Int) (w : World) (hs : SeedAt w b) (h1 : -9223372036854775808 ≤ n) (h2 : n ≤ 9223372036854775807) :
    Calls Try.prog 33 #[.pointer (some ⟨b, 0, none⟩), .int .i64 n] w (Gen .i64 (belowR n) b w) := by
  by_cases hn : n < 2
  · go_enter Try.func33, Try.ntmps33
    go_wp2
    go_ret
    exact ⟨_, rfl, ⟨by simp, by simp⟩, hs, gb_refl _ _⟩
  · go_enter Try.func33, Try.ntmps33
    go_wp2_with (go_at_call 56; refine (next_c b _ hs).mono ?_; rintro e w1 ⟨r, rfl, ⟨hr1, hr2⟩, hs1, hg1⟩)
    go_ret
    have e1 : 0 ≤ r / 2 % n := Int.emod_nonneg _ (by omega)
    have e2 : r / 2 % n < n := Int.emod_lt_of_pos _ (by omega)
    exact ⟨_, rfl, by rw [IntWalk.wrap64_in _ ⟨by omega, by omega⟩]; exact ⟨e1, .inl e2⟩, hs1, hg1⟩

def fromR (low high : Int) (r : Int) : Prop := low ≤ r ∧ (r ≤ high ∨ r = low)

set_option maxHeartbeats 400000 in
theorem from_c (b : Nat) (low high : Int) (w : World) (hs : SeedAt w b) (h1 : -1000000000000 ≤ low) (h2 : low ≤ 1000000000000) (h3 : -1000000000000 ≤ high) (h4 : high ≤ 1000000000000) :
    Calls Try.prog 31 #[.pointer (some ⟨b, 0, none⟩), .int .i64 low, .int .i64 high] w (Gen .i64 (fromR low high) b w) := by
  go_enter Try.func31, Try.ntmps31
  go_wp2_with (go_at_call 33; refine (below_c b _ _ hs (by omega) (by omega)).mono ?_; rintro e w1 ⟨r, rfl, ⟨hr1, hr2⟩, hs1, hg1⟩)
  go_ret
  exact ⟨_, rfl, ⟨by omega, by omega⟩, hs1, hg1⟩

/-- A call hands back a bool; of what was there only the seed has turned. -/
def GenB (b : Nat) (w : World) (e : Ending) (w' : World) : Prop :=
  ∃ r : Bool, e = .returned (.bool r) ∧ SeedAt w' b ∧ w.grownBy w' (some b)

set_option maxHeartbeats 400000 in
theorem yes_c (b : Nat) (n : Int) (w : World) (hs : SeedAt w b) (h1 : -9223372036854775808 ≤ n) (h2 : n ≤ 9223372036854775807) :
    Calls Try.prog 25 #[.pointer (some ⟨b, 0, none⟩), .int .i64 n] w (GenB b w) := by
  go_enter Try.func25, Try.ntmps25
  go_wp2_with (go_at_call 33; refine (below_c b _ _ hs (by omega) (by omega)).mono ?_; rintro e w1 ⟨r, rfl, hr1, hs1, hg1⟩)
  go_ret
  exact ⟨_, rfl, hs1, hg1⟩

theorem of_none_c (b : Nat) (w : World) (hs : SeedAt w b) (a : Option Addr) (c : Nat) :
    Calls Try.prog 57 #[.pointer (some ⟨b, 0, none⟩), .slice a 0 c] w (Gen .i64 (fun r => r = 0) b w) := by
  go_enter Try.func57, Try.ntmps57
  go_wp2
  go_ret
  exact ⟨_, rfl, rfl, hs, gb_refl _ _⟩

set_option maxHeartbeats 400000 in
theorem of_c (b : Nat) (w : World) (hs : SeedAt w b) (g off n c : Nat) (l : Nat → Int) (h0 : 0 < n) (hn : n ≤ 9223372036854775807) (hgb : g ≠ b)
    (hl : ∀ i, i < n → w.cell? ⟨g, off + i, none⟩ = some (.int .i64 (l i))) :
    Calls Try.prog 57 #[.pointer (some ⟨b, 0, none⟩), .slice (some ⟨g, off, none⟩) n c] w (Gen .i64 (fun r => ∃ i, i < n ∧ r = l i) b w) := by
  have hgl : g < w.heap.size := cell_lt (hl 0 h0)
  have hl' : ∀ w1 : World, w.grownBy w1 (some b) → ∀ i, i < n → w1.cell? ⟨g, off + i, none⟩ = some (.int .i64 (l i)) :=
    fun w1 hg i hi => (gb_cell hg hgl (by simp; omega)).trans (hl i hi)
  have HL := Lib.hid hl'
  clear hl' hl
  go_enter Try.func57, Try.ntmps57
  go_wp2_with (go_at_call 33; refine (below_c b _ _ hs (by omega) (by omega)).mono ?_; rintro e w1 ⟨r, rfl, ⟨hr1, hr2⟩, hs1, hg1⟩; obtain ⟨k, rfl⟩ := Int.eq_ofNat_of_zero_le hr1; have hk : k < n := (by omega); have hcell := HL.out w1 hg1 k hk)
  go_ret
  exact ⟨_, rfl, ⟨k, hk, rfl⟩, hs1, hg1⟩
end Go.Proofs.Ythblaiefalbomaa
