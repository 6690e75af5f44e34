/- One of two, of three numbers that a literal holds. -/
import Derived.Test.YthblaiefalbomaaSeed3
set_option linter.unusedVariables false
set_option linter.unusedSimpArgs false
set_option linter.unnecessarySimpa false
namespace Go.Proofs.Ythblaiefalbomaa
open Go.RowKit
theorem of2_c (b : Nat) (w : World) (g c : Nat) (x y : Int) (hs : SeedAt w b) (hgb : g ≠ b) (h0 : w.cell? ⟨g, 0, none⟩ = some (.int .i64 x)) (h1 : w.cell? ⟨g, 1, none⟩ = some (.int .i64 y)) :
    Calls Try.prog 57 #[.pointer (some ⟨b, 0, none⟩), .slice (some ⟨g, 0, none⟩) 2 c] w (Gen .i64 (fun r => r = x ∨ r = y) b w) := by
  refine (of_c b w hs g 0 2 c (fun i => [x, y].getD i 0) (by decide) (by decide) hgb (fun i hi => ?_)).mono ?_
  · rcases i with _ | _ | i
    · exact h0
    · exact h1
    · omega
  · rintro e w' ⟨r, rfl, ⟨i, hi, rfl⟩, hs, hg⟩
    refine ⟨_, rfl, ?_, hs, hg⟩
    rcases i with _ | _ | i
    · exact .inl rfl
    · exact .inr rfl
    · omega
theorem of3_c (b : Nat) (w : World) (g c : Nat) (x y z : Int) (hs : SeedAt w b) (hgb : g ≠ b) (h0 : w.cell? ⟨g, 0, none⟩ = some (.int .i64 x)) (h1 : w.cell? ⟨g, 1, none⟩ = some (.int .i64 y)) (h2 : w.cell? ⟨g, 2, none⟩ = some (.int .i64 z)) :
    Calls Try.prog 57 #[.pointer (some ⟨b, 0, none⟩), .slice (some ⟨g, 0, none⟩) 3 c] w (Gen .i64 (fun r => r = x ∨ r = y ∨ r = z) b w) := by
  refine (of_c b w hs g 0 3 c (fun i => [x, y, z].getD i 0) (by decide) (by decide) hgb (fun i hi => ?_)).mono ?_
  · rcases i with _ | _ | _ | i
    · exact h0
    · exact h1
    · exact h2
    · omega
  · rintro e w' ⟨r, rfl, ⟨i, hi, rfl⟩, hs, hg⟩
    refine ⟨_, rfl, ?_, hs, hg⟩
    rcases i with _ | _ | _ | i
    · exact .inl rfl
    · exact .inr (.inl rfl)
    · exact .inr (.inr rfl)
    · omega
end Go.Proofs.Ythblaiefalbomaa
