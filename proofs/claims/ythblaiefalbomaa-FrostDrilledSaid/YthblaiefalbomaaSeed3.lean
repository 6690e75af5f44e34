/- What the seed's draw of a span within bounds hands back. -/
import Derived.Test.YthblaiefalbomaaSeed2
set_option linter.unusedVariables false
set_option linter.unusedSimpArgs false
set_option linter.unnecessarySimpa false
namespace Go.Proofs.Ythblaiefalbomaa
open Go.RowKit

set_option maxHeartbeats 400000 in
theorem spanOf_c (b : Nat) (lo hi : Int) (w : World) (hs : SeedAt w b) (h1 : -1000000000000 ≤ lo) (h2 : lo ≤ hi) (h4 : hi ≤ 1000000000000) :
    Calls Try.prog 58 #[.pointer (some ⟨b, 0, none⟩), .int .i64 lo, .int .i64 hi] w (GenV (partR lo hi) b w) := by
  have hbl := hs.lt
  have hdv : 0 ≤ hi - lo := by omega
  have hq : 0 ≤ (hi - lo) / 10 ∧ (hi - lo) / 10 ≤ hi - lo := by omega
  go_enter Try.func58, Try.ntmps58
  go_wp2_with (go_at_call 31; refine (from_c b lo hi _ (hs.alloc _) h1 (by omega) (by omega) h4).mono ?_; rintro e w1 ⟨r, rfl, ⟨hr1, hr2⟩, hs1, hg1⟩)
  have hr3 : r ≤ hi := by omega
  have hne : some w.heap.size ≠ some b := by simp; omega
  have ho1 := (Bk.new w 27 #[.int .i64 0, .int .i64 0]).gb hg1 hne
  have hG1 := gb_trans (gb_alloc (gb_refl w (some b)) _) hg1
  have hl1 : w.heap.size < w1.heap.size := ho1.lt
  have hne1 : some w1.heap.size ≠ some b := by simp; omega
  clear hr2
  go_wp2_with fail
  refine (below_c b 3 _ (hs1.alloc _) (by omega) (by omega)).mono ?_
  rintro e w2 ⟨k, rfl, ⟨hk1, hk2⟩, hs2, hg2⟩
  have hx2 := (Bk.new w1 27 #[.int .i64 r, .int .i64 r]).gb hg2 hne1
  have ho2 := (ho1.alloc _).gb hg2 hne
  have hG2 := gb_trans (gb_alloc hG1 _) hg2
  clear hg1 hg2 ho1
  have hxc := hx2.c2
  by_cases hk0 : k = 0
  · subst hk0
    clear hk1 hk2
    go_wp2_with fail
    refine (from_c b r (min hi (r + 1 + (hi - lo) / 10)) _ hs2 (by omega) (by omega) (by omega) (by omega)).mono ?_
    rintro e w3 ⟨c, rfl, ⟨hc1, hc2⟩, hs3, hg3⟩
    have hx3 := (hx2.gb hg3 hne1).c2
    have ho3 := (ho2.gb hg3 hne).c2
    have hcc : lo ≤ r ∧ r ≤ c ∧ c ≤ hi := ⟨hr1, hc1, by omega⟩
    have Hcc := Lib.hid hcc
    clear hcc hc1 hc2 hxc
    go_wp2_with fail
    exact bodyPost_ret (v := .agg #[.int .i64 r, .int .i64 c]) (by simp [results, Try.results58, go_sem, ho3]) rfl
      ⟨_, rfl, ⟨_, _, rfl, Hcc.out⟩, ((hs3.far (by simp; omega) _).far (by simp; omega) _).far (by simp; omega) _, gb_setCell (gb_setCell (gb_setCell (gb_trans hG2 hg3) (.inr (by simp; omega)) _) (.inr (by simp)) _) (.inr (by simp)) _⟩
  · by_cases hk1' : k = 1
    · subst hk1'
      clear hk1 hk2 hk0
      go_wp2_with fail
      refine (from_c b r hi _ hs2 (by omega) (by omega) (by omega) (by omega)).mono ?_
      rintro e w3 ⟨c, rfl, ⟨hc1, hc2⟩, hs3, hg3⟩
      have hx3 := (hx2.gb hg3 hne1).c2
      have ho3 := (ho2.gb hg3 hne).c2
      have hcc : lo ≤ r ∧ r ≤ c ∧ c ≤ hi := ⟨hr1, hc1, by omega⟩
      have Hcc := Lib.hid hcc
      clear hcc hc1 hc2 hxc
      go_wp2_with fail
      exact bodyPost_ret (v := .agg #[.int .i64 r, .int .i64 c]) (by simp [results, Try.results58, go_sem, ho3]) rfl
        ⟨_, rfl, ⟨_, _, rfl, Hcc.out⟩, ((hs3.far (by simp; omega) _).far (by simp; omega) _).far (by simp; omega) _, gb_setCell (gb_setCell (gb_setCell (gb_trans hG2 hg3) (.inr (by simp; omega)) _) (.inr (by simp)) _) (.inr (by simp)) _⟩
    · have e0 : (k == 0) = false := by simp [hk0]
      have e1 : (k == 1) = false := by simp [hk1']
      have hoc := ho2.c2
      go_wp2_with fail
      exact bodyPost_ret (v := .agg #[.int .i64 r, .int .i64 r]) (by simp [results, Try.results58, go_sem, hoc]) rfl
        ⟨_, rfl, ⟨_, _, rfl, by omega⟩, (hs2.far (by simp; omega) _).far (by simp; omega) _, gb_setCell (gb_setCell hG2 (.inr (by simp)) _) (.inr (by simp)) _⟩
end Go.Proofs.Ythblaiefalbomaa
