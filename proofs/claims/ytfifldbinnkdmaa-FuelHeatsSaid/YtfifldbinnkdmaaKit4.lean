/- The kit's colds and burns. -/
import Derived.Test.YtfifldbinnkdmaaLasts
import Derived.Test.YtfifldbinnkdmaaSeed3
import Derived.Test.YtfifldbinnkdmaaMarks
import Derived.Test.YtfifldbinnkdmaaFrame
set_option linter.unusedVariables false
set_option linter.unusedSimpArgs false
set_option linter.unnecessarySimpa false
namespace Go.Proofs.Ytfifldbinnkdmaa
open Go.RowKit
set_option maxRecDepth 100000

/-- Colds that are made: at most so many, each within what a cold may be. -/
def coldsR (lo : Nat) (most : Int) (v : Value) (w : World) : Prop := ∃ l : List Sp, Own spEnc 40 2 lo w v l ∧ l.length ≤ most ∧ ∀ i, i < l.length → -150 ≤ (sp l i).lo ∧ (sp l i).lo ≤ (sp l i).hi ∧ (sp l i).hi ≤ 350
theorem sp_app {l : List Sp} {x : Sp} {i : Nat} (h : i < l.length + 1) : sp (l ++ [x]) i = if i < l.length then sp l i else x := by
  unfold sp
  by_cases h1 : i < l.length
  · rw [if_pos h1]; simp [h1, List.getElem?_append_left]
  · rw [if_neg h1, show i = l.length by omega]; simp
set_option maxHeartbeats 1000000 in
theorem coldsOf_c (sb : Nat) (most : Int) (w : World) (hs : SeedAt w sb) (h0 : 0 ≤ most) (h1 : most ≤ 1000) :
    Calls Try.prog 56 #[.pointer (some ⟨sb, 0, none⟩), .int .i64 most] w (GenV (coldsR w.heap.size most) sb w) := by
  have hsl := hs.lt
  go_enter Try.func56, Try.ntmps56
  go_wp2_with fail
  refine (below_c sb (most + 1) _ hs (by omega) (by omega)).mono ?_
  rintro e w1 ⟨r, rfl, ⟨hr1, hr2⟩, hs1, hg1⟩
  go_wp2_with fail
  go_loopw [5, 6] (fun v i wr => ∃ (k : Nat) (l : List Sp), i = .int .i64 k ∧ l.length + k ≤ most ∧ Own spEnc 40 2 w.heap.size wr v l ∧ (∀ i, i < l.length → -150 ≤ (sp l i).lo ∧ (sp l i).lo ≤ (sp l i).hi ∧ (sp l i).hi ≤ 350) ∧ SeedAt wr sb ∧ w.grownBy wr (some sb)) (fun _ i _ => (intOf i).toNat)
  case atStart => exact ⟨r.toNat, [], by rw [Int.toNat_of_nonneg hr1], by simp; omega, Own.nil _ _ _ _ _, fun i h => by simp at h, hs1, hg1⟩
  case round =>
    clear hs1 hg1
    obtain ⟨k, l, rfl, hk, hown, hl, hsd, hg⟩ := hrel
    have hgs := hg.size
    by_cases hk0 : 0 < k
    · have HO := Lib.hid (And.intro hown (And.intro hl hg))
      clear hown hl hg
      go_wp2_with fail
      refine (spanOf_c sb (-150) 350 _ hsd (by omega) (by omega) (by omega)).mono ?_
      rintro e w2 ⟨v2, rfl, ⟨a, c, rfl, ha1, ha2, ha3⟩, hs2, hg2⟩
      have hob : ∀ m, u5.ownBlock = some m → w.heap.size ≤ m := fun m e => (HO.out.1.lt m e).1
      have hO2 := HO.out.1.gb hg2 (fun m e e' => by cases e; have := hob _ e'; omega)
      have hg2s := hg2.size
      go_wp2_with (at_builtin; refine wpList_app _ okSp rfl _ _ rfl w.heap.size u5 l [(⟨a, c⟩ : Sp)] rfl (by exact hO2.alloc _) ⟨_, 0, none⟩ 1 1 rfl rfl (by decide) (news_of (Bk.newAt _ _ _ (by simp))) (l.length + 1) (by simp) (by omega) (by simp; omega) _ rfl ?_; intro g cap w5 hp)
      have hw2 := gb_alloc (gb_trans HO.out.2.2 hg2) (.cells #[.int .i64 a, .int .i64 c] 40)
      have hfin := gb_trans' hw2 hp.gb (fun m e => .inr (hob m e))
      go_roundw
      case rel =>
        refine ⟨k - 1, l ++ [⟨a, c⟩], by rw [show ((k : Int) - 1) = ((k - 1 : Nat) : Int) by omega], by simp; omega, by simpa using hp.own, fun i hi => ?_, (hs2.alloc _).gb hp.gb (fun e => by have := hob sb e.symm; omega), hfin⟩
        rw [sp_app (by simpa using hi)]
        split
        · rename_i h; exact HO.out.2.1 i h
        · exact ⟨ha1, ha2, ha3⟩
      case measure => simp [intOf]; omega
    · obtain rfl : k = 0 := by omega
      go_wp2_with fail
      go_ret
      exact ⟨_, rfl, ⟨l, hown, by omega, hl⟩, hsd, hg⟩
end Go.Proofs.Ytfifldbinnkdmaa
