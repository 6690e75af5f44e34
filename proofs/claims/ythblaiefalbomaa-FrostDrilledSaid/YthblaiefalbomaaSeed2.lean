/- What the seed's draws of spans hand back. -/
import Derived.Test.YthblaiefalbomaaSeed
import Derived.Deep.QuietTactic
import Derived.BigQuiet
import Derived.Deep.RegionHeld3
import Derived.Lib.MinMax
set_option linter.unusedVariables false
set_option linter.unusedSimpArgs false
set_option linter.unnecessarySimpa false
namespace Go.Proofs.Ythblaiefalbomaa
open Go.RowKit

def insideR (lo hi r : Int) : Prop := r = lo ∨ r = hi ∨ fromR lo hi r

set_option maxHeartbeats 400000 in
theorem inside_c (b : Nat) (lo hi : Int) (w : World) (hs : SeedAt w b) (h1 : -1000000000000 ≤ lo) (h2 : lo ≤ 1000000000000) (h3 : -1000000000000 ≤ hi) (h4 : hi ≤ 1000000000000) :
    Calls Try.prog 85 #[.pointer (some ⟨b, 0, none⟩), .agg #[.int .i64 lo, .int .i64 hi]] w (Gen .i64 (insideR lo hi) b w) := by
  have hbl := hs.lt
  go_enter Try.func85, Try.ntmps85
  go_wp2
  obtain ⟨W0, hW0⟩ : ∃ W0, w.alloc (.cells #[.int .i64 lo, .int .i64 hi] 27) = W0 := ⟨_, rfl⟩
  have hg0 : w.grownBy W0 (some b) := hW0 ▸ gb_alloc (gb_refl _ _) _
  have hs0 : SeedAt W0 b := hW0 ▸ hs.alloc _
  have hx0 : W0.cell? ⟨w.heap.size, 0, none⟩ = some (.int .i64 lo) := by rw [← hW0]; simp [go_sem]
  have hx1 : W0.cell? ⟨w.heap.size, 1, none⟩ = some (.int .i64 hi) := by rw [← hW0]; simp [go_sem]
  have hB : some w.heap.size ≠ some b := by simp; omega
  rw [hW0]
  clear hW0
  go_region_held3 (fun W => W.cell? ⟨w.heap.size, 0, none⟩ = some (.int .i64 lo) ∧ W.cell? ⟨w.heap.size, 1, none⟩ = some (.int .i64 hi)) (go_keep)
    (first
    | (go_at_call 31; refine (from_c b lo hi _ hs0.drew h1 h2 h3 h4).mono ?_; rintro e w1 ⟨r, rfl, hr, hs1, hg1⟩; have hy0 := gbc hg1 hB hx0; have hy1 := gbc hg1 hB hx1; clear hs0)
    | (go_at_call 31; refine (from_c b lo hi _ hs1 h1 h2 h3 h4).mono ?_; rintro e w2 ⟨r2, rfl, hr2, hs2, hg2⟩; have hz0 := gbc hg2 hB hy0; have hz1 := gbc hg2 hB hy1; clear hs1)
    | (go_at_call 57; refine (of_c b _ (hs2.alloc _) w2.heap.size 0 4 4 (fun i => [lo, hi, r, r2].getD i 0) (by decide) (by decide) (by have := hs2.lt; omega) (fun i hi => by rcases i with _ | _ | _ | _ | i <;> first | (simp [go_sem]; done) | omega)).mono ?_; rintro e w3 ⟨r3, rfl, hr3, hs3, hg3⟩; have hv0 := gbc hg3 hB (alc _ hz0); have hv1 := gbc hg3 hB (alc _ hz1)))
  go_wp2
  go_ret
  refine ⟨_, rfl, ?_, hs3, gb_trans (gb_drew hg0) (gb_trans hg1 (gb_trans hg2 (gb_trans (gb_alloc (gb_refl _ _) _) hg3)))⟩
  obtain ⟨i, hi, rfl⟩ := hr3
  rcases i with _ | _ | _ | _ | i
  · exact .inl rfl
  · exact .inr (.inl rfl)
  · exact .inr (.inr hr)
  · exact .inr (.inr hr2)
  · omega

def spanV (lo hi : Int) : Value := .agg #[.int .i64 lo, .int .i64 hi]
/-- A span within bounds, in order. -/
def partR (lo hi : Int) (v : Value) (_ : World) : Prop := ∃ a c, v = .agg #[.int .i64 a, .int .i64 c] ∧ lo ≤ a ∧ a ≤ c ∧ c ≤ hi

set_option maxHeartbeats 400000 in
theorem part_c (b : Nat) (lo hi : Int) (w : World) (hs : SeedAt w b) (h1 : -1000000000000 ≤ lo) (h2 : lo ≤ hi) (h4 : hi ≤ 1000000000000) :
    Calls Try.prog 82 #[.pointer (some ⟨b, 0, none⟩), .agg #[.int .i64 lo, .int .i64 hi]] w (GenV (partR lo hi) b w) := by
  have hbl := hs.lt
  go_enter Try.func82, Try.ntmps82
  go_wp2
  obtain ⟨W0, hW0⟩ : ∃ W0, (w.alloc (.cells #[.int .i64 lo, .int .i64 hi] 27)).alloc (.cells #[.int .i64 0, .int .i64 0] 27) = W0 := ⟨_, rfl⟩
  have hg0 : w.grownBy W0 (some b) := hW0 ▸ gb_alloc (gb_alloc (gb_refl _ _) _) _
  have hs0 : SeedAt W0 b := hW0 ▸ (hs.alloc _).alloc _
  have hx0 : W0.cell? ⟨w.heap.size, 0, none⟩ = some (.int .i64 lo) := by rw [← hW0]; simp [go_sem]
  have hx1 : W0.cell? ⟨w.heap.size, 1, none⟩ = some (.int .i64 hi) := by rw [← hW0]; simp [go_sem]
  have hx2 : W0.cell? ⟨w.heap.size + 1, 0, none⟩ = some (.int .i64 0) := by rw [← hW0]; simp [go_sem]
  have hx3 : W0.cell? ⟨w.heap.size + 1, 1, none⟩ = some (.int .i64 0) := by rw [← hW0]; simp [go_sem]
  have hB : some w.heap.size ≠ some b := by simp; omega
  have hB1 : some (w.heap.size + 1) ≠ some b := by simp; omega
  have hf2 : W0.frozen? ⟨w.heap.size + 1, 0, none⟩ = false ∧ W0.frozen? ⟨w.heap.size + 1, 1, none⟩ = false := by rw [← hW0]; simp [go_sem]
  rw [hW0]
  have hlt : w.heap.size + 1 < W0.heap.size := by rw [← hW0]; simp
  clear hW0
  go_region_held3 (fun W => W.cell? ⟨w.heap.size, 0, none⟩ = some (.int .i64 lo) ∧ W.cell? ⟨w.heap.size, 1, none⟩ = some (.int .i64 hi)) (go_keep)
    (first
    | (go_at_call 85; refine (inside_c b lo hi _ hs0.drew h1 (by omega) (by omega) h4).mono ?_; rintro e w1 ⟨r, rfl, hr, hs1, hg1⟩; have hy0 := gbc hg1 hB hx0; have hy1 := gbc hg1 hB hx1; clear hs0)
    | (go_at_call 85; refine (inside_c b lo hi _ hs1 h1 (by omega) (by omega) h4).mono ?_; rintro e w2 ⟨r2, rfl, hr2, hs2, hg2⟩; have hz0 := gbc hg2 hB hy0; have hz1 := gbc hg2 hB hy1; clear hs1))
  have hc2 := gbc hg2 hB1 (gbc hg1 hB1 hx2)
  have hc3 := gbc hg2 hB1 (gbc hg1 hB1 hx3)
  have hl1 : W0.heap.size ≤ w1.heap.size := hg1.size
  have hf3 := (gb_frozen hg2 (o := 0) (by omega) hB1).trans ((gb_frozen hg1 hlt hB1).trans hf2.1)
  have hf4 := (gb_frozen hg2 (o := 1) (by omega) hB1).trans ((gb_frozen hg1 hlt hB1).trans hf2.2)
  clear hx0 hx1 hx2 hx3 hf2 hy0 hy1 hz0 hz1
  have hG := gb_trans (gb_drew hg0) (gb_trans hg1 hg2)
  have hw : ∀ x y : Int, w.grownBy ((w2.setCell ⟨w.heap.size + 1, 0, none⟩ (.int .i64 x)).setCell ⟨w.heap.size + 1, 1, none⟩ (.int .i64 y)) (some b) := fun x y => gb_setCell (gb_setCell hG (.inr (by simp)) _) (.inr (by simp)) _
  have hS : ∀ x y : Int, SeedAt ((w2.setCell ⟨w.heap.size + 1, 0, none⟩ (.int .i64 x)).setCell ⟨w.heap.size + 1, 1, none⟩ (.int .i64 y)) b := fun x y => (hs2.far (by simp; omega) _).far (by simp; omega) _
  have hlh : (lo ≤ r ∧ r ≤ hi) ∧ lo ≤ r2 ∧ r2 ≤ hi := by
    constructor
    · rcases hr with h | h | ⟨h, h'⟩ <;> omega
    · rcases hr2 with h | h | ⟨h, h'⟩ <;> omega
  have Hw := Lib.hid hw
  have HS := Lib.hid hS
  clear hw hS hG hr hr2
  go_wp2
  exact bodyPost_ret (v := .agg #[.int .i64 (min r r2), .int .i64 (max r r2)]) (by simp [results, Try.results82, go_sem, hc2, hc3]) rfl ⟨_, rfl, ⟨_, _, rfl, by omega⟩, HS.out _ _, Hw.out _ _⟩

end Go.Proofs.Ythblaiefalbomaa
