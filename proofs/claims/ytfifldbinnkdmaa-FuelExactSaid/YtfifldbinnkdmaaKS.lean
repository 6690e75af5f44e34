/- What the seed's draws hand back. -/
import Derived.Test.YtfifldbinnkdmaaBase
import Derived.Deep.QuietTactic
import Derived.BigQuiet
import Derived.Deep.RegionHeld3
import Derived.Lib.MinMax
set_option linter.unusedVariables false
set_option linter.unusedSimpArgs false
set_option linter.unnecessarySimpa false
namespace Go.Proofs.Ytfifldbinnkdmaa
open Go.RowKit

theorem xor_bd (a b : Int) : 0 ≤ bits .xor .u64 a b ∧ bits .xor .u64 a b < 18446744073709551616 := by
  show 0 ≤ IntKind.u64.wrap _ ∧ IntKind.u64.wrap _ < 18446744073709551616
  rw [IntKind.wrap_u64]
  omega

set_option maxHeartbeats 400000 in
theorem next_c (b : Nat) (w : World) (hs : SeedAt w b) :
    Calls Try.prog 68 #[.pointer (some ⟨b, 0, none⟩)] w (Gen .u64 (fun r => 0 ≤ r ∧ r < 18446744073709551616) b w) := by
  obtain ⟨u, hc, hf⟩ := hs.facts
  go_enter Try.func68, Try.ntmps68
  go_wp2
  go_ret
  exact ⟨_, rfl, xor_bd _ _, hs.set _, gb_setCell (gb_refl _ _) (.inl rfl) _⟩

def belowR (n : Int) (r : Int) : Prop := 0 ≤ r ∧ (r < n ∨ r = 0)

set_option maxHeartbeats 400000 in
theorem below_c (b : Nat) (n : Int) (w : World) (hs : SeedAt w b) (h1 : -9223372036854775808 ≤ n) (h2 : n ≤ 9223372036854775807) :
    Calls Try.prog 40 #[.pointer (some ⟨b, 0, none⟩), .int .i64 n] w (Gen .i64 (belowR n) b w) := by
  by_cases hn : n < 2
  · go_enter Try.func40, Try.ntmps40
    go_wp2
    go_ret
    exact ⟨_, rfl, ⟨by simp, by simp⟩, hs, gb_refl _ _⟩
  · go_enter Try.func40, Try.ntmps40
    go_wp2_with (go_at_call 68; refine (next_c b _ hs).mono ?_; rintro e w1 ⟨r, rfl, ⟨hr1, hr2⟩, hs1, hg1⟩)
    go_ret
    have e1 : 0 ≤ r / 2 % n := Int.emod_nonneg _ (by omega)
    have e2 : r / 2 % n < n := Int.emod_lt_of_pos _ (by omega)
    exact ⟨_, rfl, by rw [IntWalk.wrap64_in _ ⟨by omega, by omega⟩]; exact ⟨e1, .inl e2⟩, hs1, hg1⟩

def fromR (low high : Int) (r : Int) : Prop := low ≤ r ∧ (r ≤ high ∨ r = low)

set_option maxHeartbeats 400000 in
theorem from_c (b : Nat) (low high : Int) (w : World) (hs : SeedAt w b) (h1 : -1000000000000 ≤ low) (h2 : low ≤ 1000000000000) (h3 : -1000000000000 ≤ high) (h4 : high ≤ 1000000000000) :
    Calls Try.prog 41 #[.pointer (some ⟨b, 0, none⟩), .int .i64 low, .int .i64 high] w (Gen .i64 (fromR low high) b w) := by
  go_enter Try.func41, Try.ntmps41
  go_wp2_with (go_at_call 40; refine (below_c b _ _ hs (by omega) (by omega)).mono ?_; rintro e w1 ⟨r, rfl, ⟨hr1, hr2⟩, hs1, hg1⟩)
  go_ret
  exact ⟨_, rfl, ⟨by omega, by omega⟩, hs1, hg1⟩

/-- A call hands back a bool; of what was there only the seed has turned. -/
def GenB (b : Nat) (w : World) (e : Ending) (w' : World) : Prop :=
  ∃ r : Bool, e = .returned (.bool r) ∧ SeedAt w' b ∧ w.grownBy w' (some b)

set_option maxHeartbeats 400000 in
theorem yes_c (b : Nat) (n : Int) (w : World) (hs : SeedAt w b) (h1 : -9223372036854775808 ≤ n) (h2 : n ≤ 9223372036854775807) :
    Calls Try.prog 39 #[.pointer (some ⟨b, 0, none⟩), .int .i64 n] w (GenB b w) := by
  go_enter Try.func39, Try.ntmps39
  go_wp2_with (go_at_call 40; refine (below_c b _ _ hs (by omega) (by omega)).mono ?_; rintro e w1 ⟨r, rfl, hr1, hs1, hg1⟩)
  go_ret
  exact ⟨_, rfl, hs1, hg1⟩

theorem of_none_c (b : Nat) (w : World) (hs : SeedAt w b) (a : Option Addr) (c : Nat) :
    Calls Try.prog 18 #[.pointer (some ⟨b, 0, none⟩), .slice a 0 c] w (Gen .i64 (fun r => r = 0) b w) := by
  go_enter Try.func18, Try.ntmps18
  go_wp2
  go_ret
  exact ⟨_, rfl, rfl, hs, gb_refl _ _⟩

set_option maxHeartbeats 400000 in
theorem of_c (b : Nat) (w : World) (hs : SeedAt w b) (g off n c : Nat) (l : Nat → Int) (h0 : 0 < n) (hn : n ≤ 9223372036854775807) (hgb : g ≠ b)
    (hl : ∀ i, i < n → w.cell? ⟨g, off + i, none⟩ = some (.int .i64 (l i))) :
    Calls Try.prog 18 #[.pointer (some ⟨b, 0, none⟩), .slice (some ⟨g, off, none⟩) n c] w (Gen .i64 (fun r => ∃ i, i < n ∧ r = l i) b w) := by
  have hgl : g < w.heap.size := cell_lt (hl 0 h0)
  have hl' : ∀ w1 : World, w.grownBy w1 (some b) → ∀ i, i < n → w1.cell? ⟨g, off + i, none⟩ = some (.int .i64 (l i)) :=
    fun w1 hg i hi => (gb_cell hg hgl (by simp; omega)).trans (hl i hi)
  have HL := Lib.hid hl'
  clear hl' hl
  go_enter Try.func18, Try.ntmps18
  go_wp2_with (go_at_call 40; refine (below_c b _ _ hs (by omega) (by omega)).mono ?_; rintro e w1 ⟨r, rfl, ⟨hr1, hr2⟩, hs1, hg1⟩; obtain ⟨k, rfl⟩ := Int.eq_ofNat_of_zero_le hr1; have hk : k < n := (by omega); have hcell := HL.out w1 hg1 k hk)
  go_ret
  exact ⟨_, rfl, ⟨k, hk, rfl⟩, hs1, hg1⟩
end Go.Proofs.Ytfifldbinnkdmaa
/- What the seed's draws of spans hand back. -/
namespace Go.Proofs.Ytfifldbinnkdmaa
open Go.RowKit

def insideR (lo hi r : Int) : Prop := r = lo ∨ r = hi ∨ fromR lo hi r

set_option maxHeartbeats 400000 in
theorem inside_c (b : Nat) (lo hi : Int) (w : World) (hs : SeedAt w b) (h1 : -1000000000000 ≤ lo) (h2 : lo ≤ 1000000000000) (h3 : -1000000000000 ≤ hi) (h4 : hi ≤ 1000000000000) :
    Calls Try.prog 34 #[.pointer (some ⟨b, 0, none⟩), .agg #[.int .i64 lo, .int .i64 hi]] w (Gen .i64 (insideR lo hi) b w) := by
  have hbl := hs.lt
  go_enter Try.func34, Try.ntmps34
  go_wp2
  obtain ⟨W0, hW0⟩ : ∃ W0, w.alloc (.cells #[.int .i64 lo, .int .i64 hi] 40) = W0 := ⟨_, rfl⟩
  have hg0 : w.grownBy W0 (some b) := hW0 ▸ gb_alloc (gb_refl _ _) _
  have hs0 : SeedAt W0 b := hW0 ▸ hs.alloc _
  have hx0 : W0.cell? ⟨w.heap.size, 0, none⟩ = some (.int .i64 lo) := by rw [← hW0]; simp [go_sem]
  have hx1 : W0.cell? ⟨w.heap.size, 1, none⟩ = some (.int .i64 hi) := by rw [← hW0]; simp [go_sem]
  have hB : some w.heap.size ≠ some b := by simp; omega
  rw [hW0]
  clear hW0
  go_region_held3 (fun W => W.cell? ⟨w.heap.size, 0, none⟩ = some (.int .i64 lo) ∧ W.cell? ⟨w.heap.size, 1, none⟩ = some (.int .i64 hi)) (go_keep)
    (first
    | (go_at_call 41; refine (from_c b lo hi _ hs0.drew h1 h2 h3 h4).mono ?_; rintro e w1 ⟨r, rfl, hr, hs1, hg1⟩; have hy0 := gbc hg1 hB hx0; have hy1 := gbc hg1 hB hx1; clear hs0)
    | (go_at_call 41; refine (from_c b lo hi _ hs1 h1 h2 h3 h4).mono ?_; rintro e w2 ⟨r2, rfl, hr2, hs2, hg2⟩; have hz0 := gbc hg2 hB hy0; have hz1 := gbc hg2 hB hy1; clear hs1)
    | (go_at_call 18; refine (of_c b _ (hs2.alloc _) w2.heap.size 0 4 4 (fun i => [lo, hi, r, r2].getD i 0) (by decide) (by decide) (by have := hs2.lt; omega) (fun i hi => by rcases i with _ | _ | _ | _ | i <;> first | (simp [go_sem]; done) | omega)).mono ?_; rintro e w3 ⟨r3, rfl, hr3, hs3, hg3⟩; have hv0 := gbc hg3 hB (alc _ hz0); have hv1 := gbc hg3 hB (alc _ hz1)))
  go_wp2
  go_ret
  refine ⟨_, rfl, ?_, hs3, gb_trans (gb_drew hg0) (gb_trans hg1 (gb_trans hg2 (gb_trans (gb_alloc (gb_refl _ _) _) hg3)))⟩
  obtain ⟨i, hi, rfl⟩ := hr3
  rcases i with _ | _ | _ | _ | i
  · exact .inl rfl
  · exact .inr (.inl rfl)
  · exact .inr (.inr hr)
  · exact .inr (.inr hr2)
  · omega

def spanV (lo hi : Int) : Value := .agg #[.int .i64 lo, .int .i64 hi]
/-- A span within bounds, in order. -/
def partR (lo hi : Int) (v : Value) (_ : World) : Prop := ∃ a c, v = .agg #[.int .i64 a, .int .i64 c] ∧ lo ≤ a ∧ a ≤ c ∧ c ≤ hi

set_option maxHeartbeats 400000 in
theorem part_c (b : Nat) (lo hi : Int) (w : World) (hs : SeedAt w b) (h1 : -1000000000000 ≤ lo) (h2 : lo ≤ hi) (h4 : hi ≤ 1000000000000) :
    Calls Try.prog 35 #[.pointer (some ⟨b, 0, none⟩), .agg #[.int .i64 lo, .int .i64 hi]] w (GenV (partR lo hi) b w) := by
  have hbl := hs.lt
  go_enter Try.func35, Try.ntmps35
  go_wp2
  obtain ⟨W0, hW0⟩ : ∃ W0, (w.alloc (.cells #[.int .i64 lo, .int .i64 hi] 40)).alloc (.cells #[.int .i64 0, .int .i64 0] 40) = W0 := ⟨_, rfl⟩
  have hg0 : w.grownBy W0 (some b) := hW0 ▸ gb_alloc (gb_alloc (gb_refl _ _) _) _
  have hs0 : SeedAt W0 b := hW0 ▸ (hs.alloc _).alloc _
  have hx0 : W0.cell? ⟨w.heap.size, 0, none⟩ = some (.int .i64 lo) := by rw [← hW0]; simp [go_sem]
  have hx1 : W0.cell? ⟨w.heap.size, 1, none⟩ = some (.int .i64 hi) := by rw [← hW0]; simp [go_sem]
  have hx2 : W0.cell? ⟨w.heap.size + 1, 0, none⟩ = some (.int .i64 0) := by rw [← hW0]; simp [go_sem]
  have hx3 : W0.cell? ⟨w.heap.size + 1, 1, none⟩ = some (.int .i64 0) := by rw [← hW0]; simp [go_sem]
  have hB : some w.heap.size ≠ some b := by simp; omega
  have hB1 : some (w.heap.size + 1) ≠ some b := by simp; omega
  have hf2 : W0.frozen? ⟨w.heap.size + 1, 0, none⟩ = false ∧ W0.frozen? ⟨w.heap.size + 1, 1, none⟩ = false := by rw [← hW0]; simp [go_sem]
  rw [hW0]
  have hlt : w.heap.size + 1 < W0.heap.size := by rw [← hW0]; simp
  clear hW0
  go_region_held3 (fun W => W.cell? ⟨w.heap.size, 0, none⟩ = some (.int .i64 lo) ∧ W.cell? ⟨w.heap.size, 1, none⟩ = some (.int .i64 hi)) (go_keep)
    (first
    | (go_at_call 34; refine (inside_c b lo hi _ hs0.drew h1 (by omega) (by omega) h4).mono ?_; rintro e w1 ⟨r, rfl, hr, hs1, hg1⟩; have hy0 := gbc hg1 hB hx0; have hy1 := gbc hg1 hB hx1; clear hs0)
    | (go_at_call 34; refine (inside_c b lo hi _ hs1 h1 (by omega) (by omega) h4).mono ?_; rintro e w2 ⟨r2, rfl, hr2, hs2, hg2⟩; have hz0 := gbc hg2 hB hy0; have hz1 := gbc hg2 hB hy1; clear hs1))
  have hc2 := gbc hg2 hB1 (gbc hg1 hB1 hx2)
  have hc3 := gbc hg2 hB1 (gbc hg1 hB1 hx3)
  have hl1 : W0.heap.size ≤ w1.heap.size := hg1.size
  have hf3 := (gb_frozen hg2 (o := 0) (by omega) hB1).trans ((gb_frozen hg1 hlt hB1).trans hf2.1)
  have hf4 := (gb_frozen hg2 (o := 1) (by omega) hB1).trans ((gb_frozen hg1 hlt hB1).trans hf2.2)
  clear hx0 hx1 hx2 hx3 hf2 hy0 hy1 hz0 hz1
  have hG := gb_trans (gb_drew hg0) (gb_trans hg1 hg2)
  have hw : ∀ x y : Int, w.grownBy ((w2.setCell ⟨w.heap.size + 1, 0, none⟩ (.int .i64 x)).setCell ⟨w.heap.size + 1, 1, none⟩ (.int .i64 y)) (some b) := fun x y => gb_setCell (gb_setCell hG (.inr (by simp)) _) (.inr (by simp)) _
  have hS : ∀ x y : Int, SeedAt ((w2.setCell ⟨w.heap.size + 1, 0, none⟩ (.int .i64 x)).setCell ⟨w.heap.size + 1, 1, none⟩ (.int .i64 y)) b := fun x y => (hs2.far (by simp; omega) _).far (by simp; omega) _
  have hlh : (lo ≤ r ∧ r ≤ hi) ∧ lo ≤ r2 ∧ r2 ≤ hi := by
    constructor
    · rcases hr with h | h | ⟨h, h'⟩ <;> omega
    · rcases hr2 with h | h | ⟨h, h'⟩ <;> omega
  have Hw := Lib.hid hw
  have HS := Lib.hid hS
  clear hw hS hG hr hr2
  go_wp2
  exact bodyPost_ret (v := .agg #[.int .i64 (min r r2), .int .i64 (max r r2)]) (by simp [results, Try.results35, go_sem, hc2, hc3]) rfl ⟨_, rfl, ⟨_, _, rfl, by omega⟩, HS.out _ _, Hw.out _ _⟩

end Go.Proofs.Ytfifldbinnkdmaa
/- What the seed's draw of a span within bounds hands back. -/
namespace Go.Proofs.Ytfifldbinnkdmaa
open Go.RowKit

set_option maxHeartbeats 400000 in
theorem spanOf_c (b : Nat) (lo hi : Int) (w : World) (hs : SeedAt w b) (h1 : -1000000000000 ≤ lo) (h2 : lo ≤ hi) (h4 : hi ≤ 1000000000000) :
    Calls Try.prog 28 #[.pointer (some ⟨b, 0, none⟩), .int .i64 lo, .int .i64 hi] w (GenV (partR lo hi) b w) := by
  have hbl := hs.lt
  have hdv : 0 ≤ hi - lo := by omega
  have hq : 0 ≤ (hi - lo) / 10 ∧ (hi - lo) / 10 ≤ hi - lo := by omega
  go_enter Try.func28, Try.ntmps28
  go_wp2_with (go_at_call 41; refine (from_c b lo hi _ (hs.alloc _) h1 (by omega) (by omega) h4).mono ?_; rintro e w1 ⟨r, rfl, ⟨hr1, hr2⟩, hs1, hg1⟩)
  have hr3 : r ≤ hi := by omega
  have hne : some w.heap.size ≠ some b := by simp; omega
  have ho1 := (Bk.new w 40 #[.int .i64 0, .int .i64 0]).gb hg1 hne
  have hG1 := gb_trans (gb_alloc (gb_refl w (some b)) _) hg1
  have hl1 : w.heap.size < w1.heap.size := ho1.lt
  have hne1 : some w1.heap.size ≠ some b := by simp; omega
  clear hr2
  go_wp2_with fail
  refine (below_c b 3 _ (hs1.alloc _) (by omega) (by omega)).mono ?_
  rintro e w2 ⟨k, rfl, ⟨hk1, hk2⟩, hs2, hg2⟩
  have hx2 := (Bk.new w1 40 #[.int .i64 r, .int .i64 r]).gb hg2 hne1
  have ho2 := (ho1.alloc _).gb hg2 hne
  have hG2 := gb_trans (gb_alloc hG1 _) hg2
  clear hg1 hg2 ho1
  have hxc := hx2.c2
  by_cases hk0 : k = 0
  · subst hk0
    clear hk1 hk2
    go_wp2_with fail
    refine (from_c b r (min hi (r + 1 + (hi - lo) / 10)) _ hs2 (by omega) (by omega) (by omega) (by omega)).mono ?_
    rintro e w3 ⟨c, rfl, ⟨hc1, hc2⟩, hs3, hg3⟩
    have hx3 := (hx2.gb hg3 hne1).c2
    have ho3 := (ho2.gb hg3 hne).c2
    have hcc : lo ≤ r ∧ r ≤ c ∧ c ≤ hi := ⟨hr1, hc1, by omega⟩
    have Hcc := Lib.hid hcc
    clear hcc hc1 hc2 hxc
    go_wp2_with fail
    exact bodyPost_ret (v := .agg #[.int .i64 r, .int .i64 c]) (by simp [results, Try.results28, go_sem, ho3]) rfl
      ⟨_, rfl, ⟨_, _, rfl, Hcc.out⟩, ((hs3.far (by simp; omega) _).far (by simp; omega) _).far (by simp; omega) _, gb_setCell (gb_setCell (gb_setCell (gb_trans hG2 hg3) (.inr (by simp; omega)) _) (.inr (by simp)) _) (.inr (by simp)) _⟩
  · by_cases hk1' : k = 1
    · subst hk1'
      clear hk1 hk2 hk0
      go_wp2_with fail
      refine (from_c b r hi _ hs2 (by omega) (by omega) (by omega) (by omega)).mono ?_
      rintro e w3 ⟨c, rfl, ⟨hc1, hc2⟩, hs3, hg3⟩
      have hx3 := (hx2.gb hg3 hne1).c2
      have ho3 := (ho2.gb hg3 hne).c2
      have hcc : lo ≤ r ∧ r ≤ c ∧ c ≤ hi := ⟨hr1, hc1, by omega⟩
      have Hcc := Lib.hid hcc
      clear hcc hc1 hc2 hxc
      go_wp2_with fail
      exact bodyPost_ret (v := .agg #[.int .i64 r, .int .i64 c]) (by simp [results, Try.results28, go_sem, ho3]) rfl
        ⟨_, rfl, ⟨_, _, rfl, Hcc.out⟩, ((hs3.far (by simp; omega) _).far (by simp; omega) _).far (by simp; omega) _, gb_setCell (gb_setCell (gb_setCell (gb_trans hG2 hg3) (.inr (by simp; omega)) _) (.inr (by simp)) _) (.inr (by simp)) _⟩
    · have e0 : (k == 0) = false := by simp [hk0]
      have e1 : (k == 1) = false := by simp [hk1']
      have hoc := ho2.c2
      go_wp2_with fail
      exact bodyPost_ret (v := .agg #[.int .i64 r, .int .i64 r]) (by simp [results, Try.results28, go_sem, hoc]) rfl
        ⟨_, rfl, ⟨_, _, rfl, by omega⟩, (hs2.far (by simp; omega) _).far (by simp; omega) _, gb_setCell (gb_setCell hG2 (.inr (by simp)) _) (.inr (by simp)) _⟩
end Go.Proofs.Ytfifldbinnkdmaa
/- One of two, of three numbers that a literal holds. -/
namespace Go.Proofs.Ytfifldbinnkdmaa
open Go.RowKit
theorem of2_c (b : Nat) (w : World) (g c : Nat) (x y : Int) (hs : SeedAt w b) (hgb : g ≠ b) (h0 : w.cell? ⟨g, 0, none⟩ = some (.int .i64 x)) (h1 : w.cell? ⟨g, 1, none⟩ = some (.int .i64 y)) :
    Calls Try.prog 18 #[.pointer (some ⟨b, 0, none⟩), .slice (some ⟨g, 0, none⟩) 2 c] w (Gen .i64 (fun r => r = x ∨ r = y) b w) := by
  refine (of_c b w hs g 0 2 c (fun i => [x, y].getD i 0) (by decide) (by decide) hgb (fun i hi => ?_)).mono ?_
  · rcases i with _ | _ | i
    · exact h0
    · exact h1
    · omega
  · rintro e w' ⟨r, rfl, ⟨i, hi, rfl⟩, hs, hg⟩
    refine ⟨_, rfl, ?_, hs, hg⟩
    rcases i with _ | _ | i
    · exact .inl rfl
    · exact .inr rfl
    · omega
theorem of3_c (b : Nat) (w : World) (g c : Nat) (x y z : Int) (hs : SeedAt w b) (hgb : g ≠ b) (h0 : w.cell? ⟨g, 0, none⟩ = some (.int .i64 x)) (h1 : w.cell? ⟨g, 1, none⟩ = some (.int .i64 y)) (h2 : w.cell? ⟨g, 2, none⟩ = some (.int .i64 z)) :
    Calls Try.prog 18 #[.pointer (some ⟨b, 0, none⟩), .slice (some ⟨g, 0, none⟩) 3 c] w (Gen .i64 (fun r => r = x ∨ r = y ∨ r = z) b w) := by
  refine (of_c b w hs g 0 3 c (fun i => [x, y, z].getD i 0) (by decide) (by decide) hgb (fun i hi => ?_)).mono ?_
  · rcases i with _ | _ | _ | i
    · exact h0
    · exact h1
    · exact h2
    · omega
  · rintro e w' ⟨r, rfl, ⟨i, hi, rfl⟩, hs, hg⟩
    refine ⟨_, rfl, ?_, hs, hg⟩
    rcases i with _ | _ | _ | i
    · exact .inl rfl
    · exact .inr (.inl rfl)
    · exact .inr (.inr rfl)
    · omega
end Go.Proofs.Ytfifldbinnkdmaa
