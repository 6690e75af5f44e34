/- Burns: their error, by the program and by the reference. -/
import Derived.Test.YtcndphefomigeaaDoorPK0
import Derived.Deep.QuietTactic
import Derived.BigQuiet
import Derived.Test.YtcndphefomigeaaDoorPSearch
import Derived.Test.YtcndphefomigeaaDoorPReg
import Derived.Test.YtcndphefomigeaaDoorPMarks
import Derived.Lib.MinMax
import Derived.WalkLawsBesides
import Derived.Deep.RegionHeld3
set_option linter.unusedVariables false
set_option linter.unusedSimpArgs false
set_option linter.unnecessarySimpa false
namespace Go.Proofs.YtcndphefomigeaaDoor
open Go.RowKit
set_option maxRecDepth 100000

structure Bn where
  cold : Int
  li : Sp
def bnEnc (b : Bn) : List Value := [.int .i64 b.cold, .int .i64 b.li.lo, .int .i64 b.li.hi]
abbrev Bns (lo hi : Nat) (w : World) (v : Value) (l : List Bn) : Prop := Sl bnEnc 3 lo hi w v l
def bn (l : List Bn) (i : Nat) : Bn := l.getD i ⟨0, ⟨0, 0⟩⟩
theorem bn_get {l : List Bn} {i : Nat} (h : i < l.length) : bn l i = l[i] := by simp [bn, h]
def BnCell (w : World) (b o : Nat) (x : Bn) : Prop := w.cell? ⟨b, o, none⟩ = some (.int .i64 x.cold) ∧ w.cell? ⟨b, o + 1, none⟩ = some (.int .i64 x.li.lo) ∧ w.cell? ⟨b, o + 2, none⟩ = some (.int .i64 x.li.hi)
theorem Bns.at {lo hi : Nat} {w : World} {v : Value} {l : List Bn} (h : Bns lo hi w v l) (hne : 0 < l.length) : ∃ b off c, v = .slice (some ⟨b, off, none⟩) l.length c ∧ lo ≤ b ∧ b < hi ∧ ∀ i, i < l.length → BnCell w b (off + i * 3) (bn l i) := by
  obtain ⟨b, off, c, hv, h1, h2, h3⟩ := Sl.form h hne
  exact ⟨b, off, c, hv, h1, h2, fun i hi' => by
    rw [bn_get hi']
    exact ⟨h3 i hi' 0 _ rfl, h3 i hi' 1 _ rfl, h3 i hi' 2 _ rfl⟩⟩
theorem Bns.cell {lo hi : Nat} {w : World} {x ox n c : Nat} {l : List Bn} (h : Bns lo hi w (.slice (some ⟨x, ox, none⟩) n c) l) {i : Nat} (hi' : i < l.length) : BnCell w x (ox + i * 3) (bn l i) := by
  obtain ⟨x', ox', c', ev, _, _, H⟩ := Bns.at h (by omega)
  injection ev with e1 _ e2
  injection e1 with e1
  injection e1 with e3 e4
  subst e3 e4
  exact H i hi'
def bnErr (l : List Bn) (i : Nat) : Int :=
  if inB (bn l i).cold (-1000) 1000 = true then (if 0 < i ∧ (bn l i).cold ≤ (bn l (i - 1)).cold then 11 else spE (bn l i).li) else 2
def bnFrom (l : List Bn) : Nat → Nat → Int
  | 0, _ => 0
  | f + 1, i => if bnErr l i = 0 then bnFrom l f (i + 1) else bnErr l i
def bnE (l : List Bn) : Int := if l.length = 0 then 6 else if 12 < l.length then 8 else bnFrom l l.length 0
theorem bnFrom_step {l : List Bn} {f i : Nat} (h : bnErr l i = 0) : bnFrom l (f + 1) i = bnFrom l f (i + 1) := by rw [bnFrom, if_pos h]
theorem bnFrom_stop {l : List Bn} {f i : Nat} {e : Int} (h : bnErr l i = e) (he : e ≠ 0) : bnFrom l (f + 1) i = e := by rw [bnFrom, if_neg (by rw [h]; exact he), h]
structure BnOk (l : List Bn) : Prop where
  n0 : 0 < l.length
  n12 : l.length ≤ 12
  one : ∀ i, i < l.length → (-1000 ≤ (bn l i).cold ∧ (bn l i).cold ≤ 1000) ∧ 0 ≤ (bn l i).li.lo ∧ (bn l i).li.lo ≤ (bn l i).li.hi ∧ (bn l i).li.hi ≤ 1000000000
  inc : ∀ i, 0 < i → i < l.length → (bn l (i - 1)).cold < (bn l i).cold
theorem bnErr_ok {l : List Bn} {i : Nat} (h : bnErr l i = 0) : ((-1000 ≤ (bn l i).cold ∧ (bn l i).cold ≤ 1000) ∧ 0 ≤ (bn l i).li.lo ∧ (bn l i).li.lo ≤ (bn l i).li.hi ∧ (bn l i).li.hi ≤ 1000000000) ∧ (0 < i → (bn l (i - 1)).cold < (bn l i).cold) := by
  unfold bnErr at h
  split at h
  · rename_i h1
    have := inB_yes h1
    split at h
    · cases h
    · exact ⟨⟨this, spanErr_ok h⟩, fun h0 => by omega⟩
  · cases h
theorem bnFrom_ok {l : List Bn} : ∀ f k, bnFrom l f k = 0 → ∀ i, k ≤ i → i < k + f → bnErr l i = 0 := by
  intro f
  induction f with
  | zero => intro k _ i h1 h2; omega
  | succ f ih =>
    intro k hk i h1 h2
    unfold bnFrom at hk
    split at hk
    · rename_i h
      rcases Nat.eq_or_lt_of_le h1 with rfl | h3
      · exact h
      · exact ih (k + 1) hk i h3 (by omega)
    · rename_i h
      exact absurd hk h
theorem bn_ok {l : List Bn} (h : bnE l = 0) : BnOk l := by
  unfold bnE at h
  split at h
  · cases h
  · split at h
    · cases h
    · exact ⟨by omega, by omega, fun i hi => (bnErr_ok (bnFrom_ok _ _ h i (Nat.zero_le _) (by omega))).1, fun i h0 hi => (bnErr_ok (bnFrom_ok _ _ h i (Nat.zero_le _) (by omega))).2 h0⟩

set_option maxHeartbeats 2000000 in
theorem checkBurn_c (lo hi : Nat) (v : Value) (l : List Bn) (w : World) (hh : Bns lo hi w v l) :
    Calls Tryd.prog 59 #[v] w (Ret (.int .i64 (bnE l)) w) := by
  have hm := hh.len
  unfold maxLen at hm
  by_cases c1 : l.length = 0
  · have Hx : Hid (bnE l = 6) := Lib.hid (by simp [bnE, c1])
    obtain ⟨a, c, rfl, _⟩ := hh.nil_ c1
    clear hh c1
    go_enter Tryd.func59, Tryd.ntmps59
    go_wp2_with fail
    go_ret
    exact ⟨by rw [Hx.out]; rfl, gb_refl _ _⟩
  by_cases c2 : 12 < l.length
  · have Hx : Hid (bnE l = 8) := Lib.hid (by simp [bnE, c1, c2])
    obtain ⟨a, c, rfl⟩ := hh.any
    have c3 : ((l.length : Int) == 0) = false := by rw [beq_eq_false_iff_ne]; omega
    clear hh
    go_enter Tryd.func59, Tryd.ntmps59
    go_wp2_with fail
    go_ret
    exact ⟨by rw [Hx.out]; rfl, gb_refl _ _⟩
  have Hx : Hid (bnE l = bnFrom l l.length 0) := Lib.hid (by simp [bnE, c1, c2])
  obtain ⟨x, ox, c, rfl, _, _, H1⟩ := Bns.at hh (by omega)
  have HA := Lib.hid H1
  have c3 : ((l.length : Int) == 0) = false := by rw [beq_eq_false_iff_ne]; omega
  have c4 : ¬ ((12 : Int) < (l.length : Int)) := by omega
  have hle : l.length ≤ 12 := by omega
  clear H1 hh c1 c2
  go_enter Tryd.func59, Tryd.ntmps59
  go_wp2_with fail
  go_loopw [16] (fun i wr => ∃ k : Nat, k ≤ l.length ∧ i = .int .i64 k ∧ bnE l = bnFrom l (l.length - k) k ∧ w.grownBy wr none) (fun i _ => l.length - (intOf i).toNat)
  case atStart => exact ⟨0, Nat.zero_le _, rfl, Hx.out, gb_refl _ _⟩
  case round =>
    clear c3 c4
    obtain ⟨k, hk, rfl, hrem, hg⟩ := hrel
    have HR := Lib.hid hrem
    clear hrem Hx
    by_cases hlt : k < l.length
    · have g0 := HA.out k hlt
      have g1 := gbc hg (by simp) g0.1
      have g2 := gbc hg (by simp) g0.2.1
      have g3 := gbc hg (by simp) g0.2.2
      have hbx := (Bk.new wr 82 #[.int .i64 (bn l k).cold, .int .i64 (bn l k).li.lo, .int .i64 (bn l k).li.hi]).c3
      have hlx : x < wr.heap.size := cell_lt g1
      obtain ⟨f, hf⟩ : ∃ f, l.length - k = f + 1 := ⟨l.length - k - 1, by omega⟩
      have Hf := Lib.hid hf
      clear hf g0
      cases b1 : inB (bn l k).cold (-1000) 1000 with
      | false =>
        have Hy : Hid (bnE l = 2) := Lib.hid (by rw [HR.out, Hf.out]; exact bnFrom_stop (by simp [bnErr, b1]) (by decide))
        have Hg := Lib.hid hg
        clear HR hg
        go_wp2_with (go_at_call 49; refine (in_c _ _ _ _).mono ?_; rintro e w' ⟨rfl, rfl⟩)
        go_ret
        exact ⟨by rw [Hy.out]; rfl, (gb_alloc Hg.out (.cells #[.int .i64 (bn l k).cold, .int .i64 (bn l k).li.lo, .int .i64 (bn l k).li.hi] 82))⟩
      | true =>
        have step : bnErr l k = 0 → bnE l = bnFrom l (l.length - (k + 1)) (k + 1) := fun h => by
          rw [HR.out, Hf.out, bnFrom_step h]
          congr 1
          have := Hf.out
          omega
        have stop : ∀ e, bnErr l k = e → e ≠ 0 → bnE l = e := fun e h h' => by rw [HR.out, Hf.out, bnFrom_stop h h']
        by_cases hk0 : 0 < k
        · have g4 : wr.cell? ⟨x, ox + (k - 1) * 3, none⟩ = some (.int .i64 (bn l (k - 1)).cold) := gbc hg (by simp) (HA.out (k - 1) (by omega)).1
          by_cases e1 : (bn l k).cold ≤ (bn l (k - 1)).cold
          · have Hy := Lib.hid (stop 11 (by simp [bnErr, b1, hk0, e1]) (by decide))
            have hd0 : decide ((0 : Int) < (k : Int)) = true := by simp; omega
            have hd1 : decide ((bn l k).cold ≤ (bn l (k - 1)).cold) = true := by simpa using e1
            have Hg := Lib.hid hg
            clear step stop HR hg e1
            go_wp2_with (go_at_call 49; refine (in_c _ _ _ _).mono ?_; rintro e w' ⟨rfl, rfl⟩)
            clear b1
            go_quiet (fail)
            go_wp2_with fail
            go_ret
            exact ⟨by rw [Hy.out]; rfl, gb_drewN ((gb_alloc Hg.out (.cells #[.int .i64 (bn l k).cold, .int .i64 (bn l k).li.lo, .int .i64 (bn l k).li.hi] 82))) _⟩
          · have hd0 : decide ((0 : Int) < (k : Int)) = true := by simp; omega
            have hd1 : decide ((bn l k).cold ≤ (bn l (k - 1)).cold) = false := by simpa using e1
            have HN : Hid (spE (bn l k).li = 0 → bnE l = bnFrom l (l.length - (k + 1)) (k + 1)) := Lib.hid fun h => step (by simp [bnErr, b1, e1, h])
            have HB : Hid (spE (bn l k).li ≠ 0 → bnE l = spE (bn l k).li) := Lib.hid fun h => stop _ (by simp [bnErr, b1, e1]) h
            clear step stop e1
            go_wp2_with (go_at_call 49; refine (in_c _ _ _ _).mono ?_; rintro e w' ⟨rfl, rfl⟩)
            clear b1
            go_quiet (fail)
            clear hd0 hd1 g4
            by_cases hs : spE (bn l k).li = 0
            · have hne : (spanErr (bn l k).li.lo (bn l k).li.hi 0 1000000000 != 0) = false := by simpa [spE] using hs
              have HM := Lib.hid (HN.out hs)
              have Hg := Lib.hid hg
              clear HN hs HR
              go_wp2_with (go_at_call 21; refine (checkSpan_c _ _ _ _ _).mono ?_; rintro e w2 ⟨rfl, hg2⟩)
              go_roundw
              case rel => exact ⟨k + 1, by omega, by go_num, HM.out, gb_trans (gb_drewN ((gb_alloc Hg.out (.cells #[.int .i64 (bn l k).cold, .int .i64 (bn l k).li.lo, .int .i64 (bn l k).li.hi] 82))) _) hg2⟩
              case measure => simp [intOf]; omega
            · have hne : (spanErr (bn l k).li.lo (bn l k).li.hi 0 1000000000 != 0) = true := by simpa [spE] using hs
              have HM := Lib.hid (HB.out hs)
              have Hg := Lib.hid hg
              clear HN hs HR HB
              go_wp2_with (go_at_call 21; refine (checkSpan_c _ _ _ _ _).mono ?_; rintro e w2 ⟨rfl, hg2⟩)
              go_ret
              exact ⟨by rw [HM.out]; rfl, gb_trans (gb_drewN ((gb_alloc Hg.out (.cells #[.int .i64 (bn l k).cold, .int .i64 (bn l k).li.lo, .int .i64 (bn l k).li.hi] 82))) _) hg2⟩
        · have hd0 : decide ((0 : Int) < (k : Int)) = false := by simp; omega
          have HN : Hid (spE (bn l k).li = 0 → bnE l = bnFrom l (l.length - (k + 1)) (k + 1)) := Lib.hid fun h => step (by simp [bnErr, b1, hk0, h])
          have HB : Hid (spE (bn l k).li ≠ 0 → bnE l = spE (bn l k).li) := Lib.hid fun h => stop _ (by simp [bnErr, b1, hk0]) h
          clear step stop
          go_wp2_with (go_at_call 49; refine (in_c _ _ _ _).mono ?_; rintro e w' ⟨rfl, rfl⟩)
          clear b1
          go_quiet (fail)
          clear hd0
          by_cases hs : spE (bn l k).li = 0
          · have hne : (spanErr (bn l k).li.lo (bn l k).li.hi 0 1000000000 != 0) = false := by simpa [spE] using hs
            have HM := Lib.hid (HN.out hs)
            have Hg := Lib.hid hg
            clear HN hs HR
            go_wp2_with (go_at_call 21; refine (checkSpan_c _ _ _ _ _).mono ?_; rintro e w2 ⟨rfl, hg2⟩)
            go_roundw
            case rel => exact ⟨k + 1, by omega, by go_num, HM.out, gb_trans (gb_drewN ((gb_alloc Hg.out (.cells #[.int .i64 (bn l k).cold, .int .i64 (bn l k).li.lo, .int .i64 (bn l k).li.hi] 82))) _) hg2⟩
            case measure => simp [intOf]; omega
          · have hne : (spanErr (bn l k).li.lo (bn l k).li.hi 0 1000000000 != 0) = true := by simpa [spE] using hs
            have HM := Lib.hid (HB.out hs)
            have Hg := Lib.hid hg
            clear HN hs HR HB
            go_wp2_with (go_at_call 21; refine (checkSpan_c _ _ _ _ _).mono ?_; rintro e w2 ⟨rfl, hg2⟩)
            go_ret
            exact ⟨by rw [HM.out]; rfl, gb_trans (gb_drewN ((gb_alloc Hg.out (.cells #[.int .i64 (bn l k).cold, .int .i64 (bn l k).li.lo, .int .i64 (bn l k).li.hi] 82))) _) hg2⟩
    · have Hy : Hid (bnE l = 0) := Lib.hid (by rw [HR.out, show l.length - k = 0 by omega]; rfl)
      have Hg := Lib.hid hg
      clear HR hg
      go_wp2_with fail
      go_ret
      exact ⟨by rw [Hy.out]; rfl, Hg.out⟩

end Go.Proofs.YtcndphefomigeaaDoor
/- What a camp may burn on a day: the entry of a cold, the span of the entries between two colds. -/
namespace Go.Proofs.YtcndphefomigeaaDoor
open Go.RowKit
set_option maxRecDepth 100000


def plF (l : List Bn) (c : Int) : Nat → Nat
  | 0 => 0
  | k + 1 => if (bn l k).cold ≤ c then k else plF l c k
/-- The last entry that is not colder than c; the first one if all are. -/
def pl (l : List Bn) (c : Int) : Nat := plF l c l.length
theorem plF_lt {l : List Bn} {c : Int} : ∀ k, 0 < k → plF l c k < k := by
  intro k
  induction k with
  | zero => intro h; omega
  | succ k ih =>
    intro _
    unfold plF
    split
    · omega
    · rcases Nat.eq_zero_or_pos k with rfl | h
      · simp [plF]
      · have := ih h; omega
theorem pl_lt {l : List Bn} (c : Int) (h : 0 < l.length) : pl l c < l.length := plF_lt _ h
theorem inc_all {l : List Bn} (h : BnOk l) : ∀ i j, i < j → j < l.length → (bn l i).cold < (bn l j).cold := by
  intro i j hij hj
  induction j with
  | zero => omega
  | succ j ih =>
    have := h.inc (j + 1) (by omega) hj
    simp only [Nat.add_sub_cancel] at this
    rcases Nat.lt_or_ge i j with h1 | h1
    · have := ih h1 (by omega); omega
    · obtain rfl : i = j := by omega
      exact this
theorem plF_eq {l : List Bn} {c : Int} {s : Nat} : ∀ k, s ≤ k → (∀ i, s ≤ i → i < k → c < (bn l i).cold) → (∀ i, i < s → (bn l i).cold ≤ c) → plF l c k = s - 1 := by
  intro k
  induction k with
  | zero => intro h _ _; simp [plF]; omega
  | succ k ih =>
    intro h h1 h2
    unfold plF
    rcases Nat.eq_or_lt_of_le h with e | e
    · subst e
      rw [if_pos (h2 k (by omega))]
      omega
    · rw [if_neg (by have := h1 k (by omega) (by omega); omega)]
      exact ih (by omega) (fun i a b => h1 i a (by omega)) h2
theorem pl_mono {l : List Bn} {c d : Int} (h : c ≤ d) : ∀ k, plF l c k ≤ plF l d k := by
  intro k
  induction k with
  | zero => simp [plF]
  | succ k ih =>
    unfold plF
    by_cases h1 : (bn l k).cold ≤ c
    · rw [if_pos h1, if_pos (by omega)]
      exact Nat.le_refl _
    · rw [if_neg h1]
      split
      · rcases Nat.eq_zero_or_pos k with rfl | hk
        · simp [plF]
        · have := plF_lt (l := l) (c := c) k hk; omega
      · exact ih
/-- The least and the greatest of k entries from f on, beginning with those of f. -/
def brnF (l : List Bn) (f : Nat) : Nat → Sp
  | 0 => (bn l f).li
  | k + 1 => ⟨min (brnF l f k).lo (bn l (f + k)).li.lo, max (brnF l f k).hi (bn l (f + k)).li.hi⟩
def brn (l : List Bn) (c : Sp) : Sp := brnF l (pl l c.lo) (pl l c.hi + 1 - pl l c.lo)
theorem brnF_bd {l : List Bn} (h : BnOk l) {f : Nat} : ∀ k, f < l.length → f + k ≤ l.length → (0 ≤ (brnF l f k).lo ∧ (brnF l f k).lo ≤ (brnF l f k).hi) ∧ (brnF l f k).hi ≤ 1000000000 := by
  intro k
  induction k with
  | zero => intro h1 _; have := (h.one f h1).2; simp only [brnF]; omega
  | succ k ih =>
    intro h1 h2
    have := ih h1 (by omega)
    have b := (h.one (f + k) (by omega)).2
    simp only [brnF]
    omega

theorem pred_c (bx by_ : Nat) (l1 h1 : Nat) (v : Value) (l : List Bn) (c : Int) (w : World) (hh : Bns l1 h1 w v l) (i : Nat) (hi : i < l.length)
    (hx : Bk w bx 83 #[v]) (hy : Bk w by_ 3 #[.int .i64 c]) :
    Calls Tryd.prog 72 #[.int .i64 i, .pointer (some ⟨bx, 0, none⟩), .pointer (some ⟨by_, 0, none⟩)] w fun e w' => e = .returned (.bool (decide (c < (bn l i).cold))) ∧ w.grownBy w' none := by
  have hm := hh.len
  unfold maxLen at hm
  obtain ⟨b, off, c', rfl, _, _, H1⟩ := Bns.at hh (by omega)
  have g1 := (H1 i hi).1
  have g2 := hx.c1
  have g3 := hy.c1
  clear H1 hh hx hy
  go_enter Tryd.func72, Tryd.ntmps72
  go_wp2_with fail
  go_quiet (fail)
  go_wp2_with fail
  go_ret
  exact ⟨rfl, gb_drewN (gb_refl _ _) _⟩

theorem entry_c (bx : Nat) (l1 h1 : Nat) (v : Value) (l : List Bn) (c : Int) (w : World) (hh : Bns l1 h1 w v l) (hok : BnOk l) (hx : Bk w bx 83 #[v]) (b1 : h1 ≤ w.heap.size) :
    Calls Tryd.prog 71 #[.int .i64 c, .pointer (some ⟨bx, 0, none⟩)] w (Ret (.int .i64 (pl l c : Nat)) w) := by
  have hn := hok.n0
  have hn' := hok.n12
  have hm := hh.len
  obtain ⟨a, cp, ev⟩ := hh.any
  subst ev
  have hxl := hx.lt
  have hY := Bk.new w 3 #[.int .i64 c]
  have hsr := search_c l.length (by omega) 72 #[.pointer (some ⟨bx, 0, none⟩), .pointer (some ⟨w.heap.size, 0, none⟩)] (fun i => decide (c < (bn l i).cold))
    (w.alloc (.cells #[.int .i64 c] 3)) (enters_of Tryd.func72 (by kernel_rfl) rfl)
    (fun i hi W hg => pred_c bx w.heap.size l1 h1 _ l c W ((hh.alloc _).gb hg (fun _ e => by cases e)) i hi ((hx.alloc _).gb hg (by simp)) (hY.gb hg (by simp)))
  have HS := Lib.hid hsr
  have HK := Lib.hid hok
  have g1 := hx.c1
  have g1' := alc (.cells #[.int .i64 c] 3) g1.1
  clear hsr hh hok hx hY
  go_enter Tryd.func71, Tryd.ntmps71
  go_wp2_with fail
  refine HS.out.mono ?_
  rintro e w1 ⟨s, rfl, hs, s1, s2, hg1⟩
  have hp : pl l c = s - 1 := by
    refine plF_eq l.length hs (fun i a b => ?_) (fun i a => ?_)
    · rcases s2 with s2 | s2
      · omega
      · have h2 : c < (bn l s).cold := by simpa using s2
        rcases Nat.eq_or_lt_of_le a with rfl | h3
        · exact h2
        · have := inc_all HK.out s i h3 b; omega
    · rcases s1 with s1 | s1
      · omega
      · have h2 : (bn l (s - 1)).cold ≤ c := by simpa using s1
        rcases Nat.lt_or_ge i (s - 1) with h3 | h3
        · have := inc_all HK.out i (s - 1) h3 (by omega); omega
        · rw [show i = s - 1 by omega]; exact h2
  have HP := Lib.hid hp
  clear hp s1 s2 g1 g1'
  go_wp2_with fail
  go_ret
  refine ⟨ret_int ?_, gb_trans (gb_alloc (gb_refl _ _) _) hg1⟩
  rw [HP.out]
  omega
end Go.Proofs.YtcndphefomigeaaDoor
/- What a camp may burn on a day, by the program and by the reference. -/
namespace Go.Proofs.YtcndphefomigeaaDoor
open Go.RowKit
set_option maxRecDepth 100000

/-- A slice's capacity is no less than its length. -/
def CapOk (v : Value) : Prop := ∀ a n c, v = .slice a n c → n ≤ c ∧ c ≤ maxLen

theorem Bk.eq' {w : World} {g : Nat} {t : TypeId} {cs cs' : Array Value} (h : Bk w g t cs) (e : cs = cs') : Bk w g t cs' := e ▸ h
set_option maxHeartbeats 1000000 in
theorem burnt_c (l1 h1 : Nat) (v : Value) (l : List Bn) (cold : Sp) (w : World) (hh : Bns l1 h1 w v l) (hok : BnOk l) (hcap : CapOk v) (hc : cold.lo ≤ cold.hi) (b1 : h1 ≤ w.heap.size) :
    Calls Tryd.prog 60 #[v, cold.v] w (Ret (brn l cold).v w) := by
  have hn := hok.n0
  have hn' := hok.n12
  have hpl := pl_lt (l := l) cold.lo hn
  have hpt := pl_lt (l := l) cold.hi hn
  have hpm : pl l cold.lo ≤ pl l cold.hi := pl_mono hc _
  obtain ⟨x, ox, cp, rfl, hx1, hx2, _⟩ := Bns.at hh hn
  obtain ⟨hcp1, hcp2⟩ := hcap _ _ _ rfl
  unfold maxLen at hcp2
  have HB : Hid (brn l cold = brnF l (pl l cold.lo) (pl l cold.hi + 1 - pl l cold.lo)) := Lib.hid rfl
  have HN := Lib.hid hh
  have HK := Lib.hid hok
  clear hh hok hcap
  simp only [Sp.v]
  obtain ⟨W0, hW0⟩ : ∃ W0, (((w.alloc (.cells #[.slice (some ⟨x, ox, none⟩) l.length cp] 83)).alloc (.cells #[.int .i64 cold.lo, .int .i64 cold.hi] 23)).alloc (.cells #[.int .i64 0, .int .i64 0] 23)) = W0 := ⟨_, rfl⟩
  have hB1 : Bk W0 w.heap.size 83 #[.slice (some ⟨x, ox, none⟩) l.length cp] := by rw [← hW0]; exact (((Bk.new w 83 #[.slice (some ⟨x, ox, none⟩) l.length cp]).alloc (.cells #[.int .i64 cold.lo, .int .i64 cold.hi] 23)).alloc (.cells #[.int .i64 0, .int .i64 0] 23))
  have hB2 : Bk W0 (w.heap.size + 1) 23 #[.int .i64 cold.lo, .int .i64 cold.hi] := by
    have hx_ := ((Bk.new (w.alloc (.cells #[.slice (some ⟨x, ox, none⟩) l.length cp] 83)) 23 #[.int .i64 cold.lo, .int .i64 cold.hi]).alloc (.cells #[.int .i64 0, .int .i64 0] 23))
    rw [← hW0]
    simpa using hx_
  have hB3 : Bk W0 (w.heap.size + 2) 23 #[.int .i64 0, .int .i64 0] := by
    have hx_ := (Bk.new ((w.alloc (.cells #[.slice (some ⟨x, ox, none⟩) l.length cp] 83)).alloc (.cells #[.int .i64 cold.lo, .int .i64 cold.hi] 23)) 23 #[.int .i64 0, .int .i64 0])
    rw [← hW0]
    simpa using hx_
  have hgW0 : w.grownBy W0 none := hW0 ▸ gb_alloc (gb_alloc (gb_alloc (gb_refl _ _) _) _) _
  have HW0 := Lib.hid hW0
  clear hW0
  have hs0 : W0.heap.size = w.heap.size + 3 := by rw [← HW0.out]; simp
  go_enter Tryd.func60, Tryd.ntmps60
  go_wp2_with fail
  rw [HW0.out]
  clear HW0
  have hN := (HN.out.gb hgW0 (fun _ e => by cases e)).drew
  have hX := hB1.drew
  have hC := hB2.drew
  have hD := hB3.drew
  have hG := gb_drew hgW0
  have q2 := hC.c2
  have hsz : h1 ≤ W0.drew.heap.size := by show h1 ≤ W0.heap.size; omega
  clear hB1 hB2 hB3 hgW0
  go_region_held3 (fun W => W.cell? ⟨w.heap.size + 1, 0, none⟩ = some (.int .i64 cold.lo) ∧ W.cell? ⟨w.heap.size + 1, 1, none⟩ = some (.int .i64 cold.hi)) (go_keep)
    (first
    | (go_at_call 71; refine (entry_c w.heap.size l1 h1 _ l _ _ hN HK.out hX hsz).mono ?_; rintro e w1 ⟨rfl, hg⟩; replace hN := hN.gb hg (fun _ e => by cases e); replace hX := hX.gb hg (by simp); replace hC := hC.gb hg (by simp); replace hD := hD.gb hg (by simp); replace hG := gb_trans hG hg; replace hsz := Nat.le_trans hsz hg.size; replace q2 := hC.c2; clear hg))
  obtain ⟨f, hf⟩ : ∃ f, pl l cold.lo = f := ⟨_, rfl⟩
  obtain ⟨t, ht⟩ : ∃ t, pl l cold.hi = t := ⟨_, rfl⟩
  rw [hf] at hpl hpm HB ⊢
  rw [ht] at hpt hpm HB ⊢
  clear hf ht q2
  obtain ⟨g1, g2, g3⟩ := Bns.cell hN hpl
  have q1 := hX.c1
  have i1 : (f : Int) ≤ (t : Int) + 1 := by omega
  have i2 : (t : Int) + 1 ≤ (cp : Int) := by omega
  have i3 : ((t : Int) + 1).toNat = t + 1 := by omega
  have i4 : f ≤ t + 1 := by omega
  have i5 : t + 1 ≤ cp := by omega
  have hxl := hX.lt
  have hxw : x < w1.heap.size := by omega
  go_wp2_with fail
  obtain ⟨m, hm⟩ : ∃ m, t + 1 - f = m := ⟨_, rfl⟩
  rw [hm] at HB ⊢
  have hml : f + m ≤ l.length := by omega
  have hm0 : m ≤ 12 := by omega
  clear g1 g2 g3 q1 i1 i2 i3 i4 i5
  have HN2 := Lib.hid hN
  have HX := Lib.hid hX
  have hO := Bk.new w1 23 #[.int .i64 (bn l f).li.lo, .int .i64 (bn l f).li.hi]
  have hD1 := hD.alloc (.cells #[.int .i64 (bn l f).li.lo, .int .i64 (bn l f).li.hi] 23)
  have hdl := hD.lt
  clear hN hX hC hD
  go_loopw [31] (fun i wr => ∃ j : Nat, j ≤ m ∧ i = .int .i64 j ∧ Bk wr w1.heap.size 23 #[.int .i64 (brnF l f j).lo, .int .i64 (brnF l f j).hi] ∧ Bk wr (w.heap.size + 2) 23 #[.int .i64 0, .int .i64 0] ∧ w1.grownBy wr none) (fun i _ => m - (intOf i).toNat)
  case atStart => exact ⟨0, Nat.zero_le _, rfl, hO, hD1, gb_alloc (gb_refl _ _) _⟩
  case round =>
    clear hO hD1
    obtain ⟨j, hj, rfl, hO, hD1, hg⟩ := hrel
    have q1 := hO.c2
    have ql := hO.lt
    by_cases hlt : j < m
    · obtain ⟨g1, g2, g3⟩ := Bns.cell (Sl.gb HN2.out hg (fun _ e => by cases e)) (i := f + j) (by omega)
      rw [show ox + (f + j) * 3 = ox + f * 3 + j * 3 by omega] at g1 g2 g3
      have HSt : Hid (brnF l f (j + 1) = ⟨min (brnF l f j).lo (bn l (f + j)).li.lo, max (brnF l f j).hi (bn l (f + j)).li.hi⟩) := Lib.hid rfl
      have H1 := Lib.hid (And.intro hO (And.intro hD1 hg))
      clear hO hD1 hg
      go_wp2_with fail
      go_roundw
      case rel =>
        refine ⟨j + 1, by omega, by go_num, ?_, ((H1.out.2.1.far (by simp <;> omega) _).far (by simp <;> omega) _).alloc _, gb_alloc (gb_setCell (gb_setCell H1.out.2.2 (.inr (by simp)) _) (.inr (by simp)) _) _⟩
        refine Bk.alloc (Bk.eq' ((H1.out.1.set 0 _).set 1 _) ?_) _
        rw [HSt.out]
        simp
      case measure => simp [intOf]; omega
    · obtain rfl : j = m := by omega
      have q3 := ((hD1.set 0 (.int .i64 (brnF l f j).lo)).set 1 (.int .i64 (brnF l f j).hi)).c2
      have qd := hD1.c2
      have qdl := hD1.lt
      have Hg := Lib.hid hg
      clear hO hg
      go_wp2_with fail
      refine bodyPost_ret (v := .agg #[.int .i64 (brnF l f j).lo, .int .i64 (brnF l f j).hi]) (by simp [results, Tryd.results60, go_sem, q3]) rfl ⟨by rw [HB.out], gb_setCell (gb_setCell (gb_trans hG Hg.out) (.inr (by dsimp only; omega)) _) (.inr (by dsimp only; omega)) _⟩
end Go.Proofs.YtcndphefomigeaaDoor
