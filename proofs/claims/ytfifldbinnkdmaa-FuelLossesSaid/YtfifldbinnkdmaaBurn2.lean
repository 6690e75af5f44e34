/- What a camp may burn on a day: the entry of a cold, the span of the entries between two colds. -/
import Derived.Test.YtfifldbinnkdmaaBurn1
import Derived.Test.YtfifldbinnkdmaaSearch
import Derived.Test.YtfifldbinnkdmaaReg
import Derived.Test.YtfifldbinnkdmaaMarks
import Derived.Lib.MinMax
import Derived.WalkLawsBesides
import Derived.Deep.RegionHeld3
set_option linter.unusedVariables false
set_option linter.unusedSimpArgs false
set_option linter.unnecessarySimpa false
namespace Go.Proofs.Ytfifldbinnkdmaa
open Go.RowKit
set_option maxRecDepth 100000


def plF (l : List Bn) (c : Int) : Nat → Nat
  | 0 => 0
  | k + 1 => if (bn l k).cold ≤ c then k else plF l c k
/-- The last entry that is not colder than c; the first one if all are. -/
def pl (l : List Bn) (c : Int) : Nat := plF l c l.length
theorem plF_lt {l : List Bn} {c : Int} : ∀ k, 0 < k → plF l c k < k := by
  intro k
  induction k with
  | zero => intro h; omega
  | succ k ih =>
    intro _
    unfold plF
    split
    · omega
    · rcases Nat.eq_zero_or_pos k with rfl | h
      · simp [plF]
      · have := ih h; omega
theorem pl_lt {l : List Bn} (c : Int) (h : 0 < l.length) : pl l c < l.length := plF_lt _ h
theorem inc_all {l : List Bn} (h : BnOk l) : ∀ i j, i < j → j < l.length → (bn l i).cold < (bn l j).cold := by
  intro i j hij hj
  induction j with
  | zero => omega
  | succ j ih =>
    have := h.inc (j + 1) (by omega) hj
    simp only [Nat.add_sub_cancel] at this
    rcases Nat.lt_or_ge i j with h1 | h1
    · have := ih h1 (by omega); omega
    · obtain rfl : i = j := by omega
      exact this
theorem plF_eq {l : List Bn} {c : Int} {s : Nat} : ∀ k, s ≤ k → (∀ i, s ≤ i → i < k → c < (bn l i).cold) → (∀ i, i < s → (bn l i).cold ≤ c) → plF l c k = s - 1 := by
  intro k
  induction k with
  | zero => intro h _ _; simp [plF]; omega
  | succ k ih =>
    intro h h1 h2
    unfold plF
    rcases Nat.eq_or_lt_of_le h with e | e
    · subst e
      rw [if_pos (h2 k (by omega))]
      omega
    · rw [if_neg (by have := h1 k (by omega) (by omega); omega)]
      exact ih (by omega) (fun i a b => h1 i a (by omega)) h2
theorem pl_mono {l : List Bn} {c d : Int} (h : c ≤ d) : ∀ k, plF l c k ≤ plF l d k := by
  intro k
  induction k with
  | zero => simp [plF]
  | succ k ih =>
    unfold plF
    by_cases h1 : (bn l k).cold ≤ c
    · rw [if_pos h1, if_pos (by omega)]
      exact Nat.le_refl _
    · rw [if_neg h1]
      split
      · rcases Nat.eq_zero_or_pos k with rfl | hk
        · simp [plF]
        · have := plF_lt (l := l) (c := c) k hk; omega
      · exact ih
/-- The least and the greatest of k entries from f on, beginning with those of f. -/
def brnF (l : List Bn) (f : Nat) : Nat → Sp
  | 0 => (bn l f).li
  | k + 1 => ⟨min (brnF l f k).lo (bn l (f + k)).li.lo, max (brnF l f k).hi (bn l (f + k)).li.hi⟩
def brn (l : List Bn) (c : Sp) : Sp := brnF l (pl l c.lo) (pl l c.hi + 1 - pl l c.lo)
theorem brnF_one (l : List Bn) (f : Nat) : brnF l f 1 = (bn l f).li := by simp [brnF]
theorem brnF_bd {l : List Bn} (h : BnOk l) {f : Nat} : ∀ k, f < l.length → f + k ≤ l.length → (0 ≤ (brnF l f k).lo ∧ (brnF l f k).lo ≤ (brnF l f k).hi) ∧ (brnF l f k).hi ≤ 1000000000 := by
  intro k
  induction k with
  | zero => intro h1 _; have := (h.one f h1).2; simp only [brnF]; omega
  | succ k ih =>
    intro h1 h2
    have := ih h1 (by omega)
    have b := (h.one (f + k) (by omega)).2
    simp only [brnF]
    omega

theorem pred_c (bx by_ : Nat) (l1 h1 : Nat) (v : Value) (l : List Bn) (c : Int) (w : World) (hh : Bns l1 h1 w v l) (i : Nat) (hi : i < l.length)
    (hx : Bk w bx 85 #[v]) (hy : Bk w by_ 3 #[.int .i64 c]) :
    Calls Try.prog 118 #[.int .i64 i, .pointer (some ⟨bx, 0, none⟩), .pointer (some ⟨by_, 0, none⟩)] w fun e w' => e = .returned (.bool (decide (c < (bn l i).cold))) ∧ w.grownBy w' none := by
  have hm := hh.len
  unfold maxLen at hm
  obtain ⟨b, off, c', rfl, _, _, H1⟩ := Bns.at hh (by omega)
  have g1 := (H1 i hi).1
  have g2 := hx.c1
  have g3 := hy.c1
  clear H1 hh hx hy
  go_enter Try.func118, Try.ntmps118
  go_wp2_with fail
  go_quiet (fail)
  go_wp2_with fail
  go_ret
  exact ⟨rfl, gb_drewN (gb_refl _ _) _⟩

theorem entry_c (bx : Nat) (l1 h1 : Nat) (v : Value) (l : List Bn) (c : Int) (w : World) (hh : Bns l1 h1 w v l) (hok : BnOk l) (hx : Bk w bx 85 #[v]) (b1 : h1 ≤ w.heap.size) :
    Calls Try.prog 117 #[.int .i64 c, .pointer (some ⟨bx, 0, none⟩)] w (Ret (.int .i64 (pl l c : Nat)) w) := by
  have hn := hok.n0
  have hn' := hok.n12
  have hm := hh.len
  obtain ⟨a, cp, ev⟩ := hh.any
  subst ev
  have hxl := hx.lt
  have hY := Bk.new w 3 #[.int .i64 c]
  have hsr := search_c l.length (by omega) 118 #[.pointer (some ⟨bx, 0, none⟩), .pointer (some ⟨w.heap.size, 0, none⟩)] (fun i => decide (c < (bn l i).cold))
    (w.alloc (.cells #[.int .i64 c] 3)) (enters_of Try.func118 (by kernel_rfl) rfl)
    (fun i hi W hg => pred_c bx w.heap.size l1 h1 _ l c W ((hh.alloc _).gb hg (fun _ e => by cases e)) i hi ((hx.alloc _).gb hg (by simp)) (hY.gb hg (by simp)))
  have HS := Lib.hid hsr
  have HK := Lib.hid hok
  have g1 := hx.c1
  have g1' := alc (.cells #[.int .i64 c] 3) g1.1
  clear hsr hh hok hx hY
  go_enter Try.func117, Try.ntmps117
  go_wp2_with fail
  refine HS.out.mono ?_
  rintro e w1 ⟨s, rfl, hs, s1, s2, hg1⟩
  have hp : pl l c = s - 1 := by
    refine plF_eq l.length hs (fun i a b => ?_) (fun i a => ?_)
    · rcases s2 with s2 | s2
      · omega
      · have h2 : c < (bn l s).cold := by simpa using s2
        rcases Nat.eq_or_lt_of_le a with rfl | h3
        · exact h2
        · have := inc_all HK.out s i h3 b; omega
    · rcases s1 with s1 | s1
      · omega
      · have h2 : (bn l (s - 1)).cold ≤ c := by simpa using s1
        rcases Nat.lt_or_ge i (s - 1) with h3 | h3
        · have := inc_all HK.out i (s - 1) h3 (by omega); omega
        · rw [show i = s - 1 by omega]; exact h2
  have HP := Lib.hid hp
  clear hp s1 s2 g1 g1'
  go_wp2_with fail
  go_ret
  refine ⟨ret_int ?_, gb_trans (gb_alloc (gb_refl _ _) _) hg1⟩
  rw [HP.out]
  omega
theorem place_c (l1 h1 : Nat) (v : Value) (l : List Bn) (c : Int) (w : World) (hh : Bns l1 h1 w v l) (hok : BnOk l) :
    Calls Try.prog 119 #[v, .int .i64 c] w fun e w' => e = .returned (.int .i64 (pl l c : Nat)) ∧ w = w' := by
  have hn := hok.n0
  have hn' := hok.n12
  obtain ⟨x, ox, cp, rfl, _, _, H1⟩ := Bns.at hh hn
  have HA := Lib.hid H1
  clear H1 hh hok
  go_enter Try.func119, Try.ntmps119
  go_wp2_with fail
  go_loop [5, 6] (fun a i => ∃ k : Nat, 1 ≤ k ∧ k ≤ l.length ∧ i = .int .i64 k ∧ a = .int .i64 (plF l c k : Nat)) (fun _ i => l.length - (intOf i).toNat)
  case atStart => exact ⟨1, Nat.le_refl _, by omega, rfl, by simp [plF]⟩
  case round =>
    obtain ⟨k, hk1, hk, rfl, rfl⟩ := hrel
    by_cases hlt : k < l.length
    · have g1 := (HA.out k hlt).1
      have HS : Hid (plF l c (k + 1) = if (bn l k).cold ≤ c then k else plF l c k) := Lib.hid rfl
      by_cases he : (bn l k).cold ≤ c
      · go_wp2_with fail
        go_round
        case rel => exact ⟨k + 1, by omega, by omega, by go_num, by rw [HS.out, if_pos he]⟩
        case measure => simp [intOf]; omega
      · go_wp2_with fail
        go_round
        case rel => exact ⟨k + 1, by omega, by omega, by go_num, by rw [HS.out, if_neg he]⟩
        case measure => simp [intOf]; omega
    · obtain rfl : k = l.length := by omega
      go_wp2_with fail
      go_ret
      exact ⟨rfl, rfl⟩
end Go.Proofs.Ytfifldbinnkdmaa
