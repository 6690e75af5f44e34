/- Burns: their error, by the program and by the reference. -/
import Derived.Test.YtfifldbinnkdmaaBook
import Derived.Deep.QuietTactic
import Derived.BigQuiet
set_option linter.unusedVariables false
set_option linter.unusedSimpArgs false
set_option linter.unnecessarySimpa false
namespace Go.Proofs.Ytfifldbinnkdmaa
open Go.RowKit
set_option maxRecDepth 100000

structure Bn where
  cold : Int
  li : Sp
def bnEnc (b : Bn) : List Value := [.int .i64 b.cold, .int .i64 b.li.lo, .int .i64 b.li.hi]
abbrev Bns (lo hi : Nat) (w : World) (v : Value) (l : List Bn) : Prop := Sl bnEnc 3 lo hi w v l
def bn (l : List Bn) (i : Nat) : Bn := l.getD i ⟨0, ⟨0, 0⟩⟩
theorem bn_get {l : List Bn} {i : Nat} (h : i < l.length) : bn l i = l[i] := by simp [bn, h]
def BnCell (w : World) (b o : Nat) (x : Bn) : Prop := w.cell? ⟨b, o, none⟩ = some (.int .i64 x.cold) ∧ w.cell? ⟨b, o + 1, none⟩ = some (.int .i64 x.li.lo) ∧ w.cell? ⟨b, o + 2, none⟩ = some (.int .i64 x.li.hi)
theorem Bns.at {lo hi : Nat} {w : World} {v : Value} {l : List Bn} (h : Bns lo hi w v l) (hne : 0 < l.length) : ∃ b off c, v = .slice (some ⟨b, off, none⟩) l.length c ∧ lo ≤ b ∧ b < hi ∧ ∀ i, i < l.length → BnCell w b (off + i * 3) (bn l i) := by
  obtain ⟨b, off, c, hv, h1, h2, h3⟩ := Sl.form h hne
  exact ⟨b, off, c, hv, h1, h2, fun i hi' => by
    rw [bn_get hi']
    exact ⟨h3 i hi' 0 _ rfl, h3 i hi' 1 _ rfl, h3 i hi' 2 _ rfl⟩⟩
theorem Bns.cell {lo hi : Nat} {w : World} {x ox n c : Nat} {l : List Bn} (h : Bns lo hi w (.slice (some ⟨x, ox, none⟩) n c) l) {i : Nat} (hi' : i < l.length) : BnCell w x (ox + i * 3) (bn l i) := by
  obtain ⟨x', ox', c', ev, _, _, H⟩ := Bns.at h (by omega)
  injection ev with e1 _ e2
  injection e1 with e1
  injection e1 with e3 e4
  subst e3 e4
  exact H i hi'
def bnErr (l : List Bn) (i : Nat) : Int :=
  if inB (bn l i).cold (-1000) 1000 = true then (if 0 < i ∧ (bn l i).cold ≤ (bn l (i - 1)).cold then 11 else spE (bn l i).li) else 2
def bnFrom (l : List Bn) : Nat → Nat → Int
  | 0, _ => 0
  | f + 1, i => if bnErr l i = 0 then bnFrom l f (i + 1) else bnErr l i
def bnE (l : List Bn) : Int := if l.length = 0 then 6 else if 12 < l.length then 8 else bnFrom l l.length 0
theorem bnFrom_step {l : List Bn} {f i : Nat} (h : bnErr l i = 0) : bnFrom l (f + 1) i = bnFrom l f (i + 1) := by rw [bnFrom, if_pos h]
theorem bnFrom_stop {l : List Bn} {f i : Nat} {e : Int} (h : bnErr l i = e) (he : e ≠ 0) : bnFrom l (f + 1) i = e := by rw [bnFrom, if_neg (by rw [h]; exact he), h]
structure BnOk (l : List Bn) : Prop where
  n0 : 0 < l.length
  n12 : l.length ≤ 12
  one : ∀ i, i < l.length → (-1000 ≤ (bn l i).cold ∧ (bn l i).cold ≤ 1000) ∧ 0 ≤ (bn l i).li.lo ∧ (bn l i).li.lo ≤ (bn l i).li.hi ∧ (bn l i).li.hi ≤ 1000000000
  inc : ∀ i, 0 < i → i < l.length → (bn l (i - 1)).cold < (bn l i).cold
theorem bnErr_ok {l : List Bn} {i : Nat} (h : bnErr l i = 0) : ((-1000 ≤ (bn l i).cold ∧ (bn l i).cold ≤ 1000) ∧ 0 ≤ (bn l i).li.lo ∧ (bn l i).li.lo ≤ (bn l i).li.hi ∧ (bn l i).li.hi ≤ 1000000000) ∧ (0 < i → (bn l (i - 1)).cold < (bn l i).cold) := by
  unfold bnErr at h
  split at h
  · rename_i h1
    have := inB_yes h1
    split at h
    · cases h
    · exact ⟨⟨this, spanErr_ok h⟩, fun h0 => by omega⟩
  · cases h
theorem bnFrom_ok {l : List Bn} : ∀ f k, bnFrom l f k = 0 → ∀ i, k ≤ i → i < k + f → bnErr l i = 0 := by
  intro f
  induction f with
  | zero => intro k _ i h1 h2; omega
  | succ f ih =>
    intro k hk i h1 h2
    unfold bnFrom at hk
    split at hk
    · rename_i h
      rcases Nat.eq_or_lt_of_le h1 with rfl | h3
      · exact h
      · exact ih (k + 1) hk i h3 (by omega)
    · rename_i h
      exact absurd hk h
theorem bn_ok {l : List Bn} (h : bnE l = 0) : BnOk l := by
  unfold bnE at h
  split at h
  · cases h
  · split at h
    · cases h
    · exact ⟨by omega, by omega, fun i hi => (bnErr_ok (bnFrom_ok _ _ h i (Nat.zero_le _) (by omega))).1, fun i h0 hi => (bnErr_ok (bnFrom_ok _ _ h i (Nat.zero_le _) (by omega))).2 h0⟩

set_option maxHeartbeats 2000000 in
theorem checkBurn_c (lo hi : Nat) (v : Value) (l : List Bn) (w : World) (hh : Bns lo hi w v l) :
    Calls Try.prog 94 #[v] w (Ret (.int .i64 (bnE l)) w) := by
  have hm := hh.len
  unfold maxLen at hm
  by_cases c1 : l.length = 0
  · have Hx : Hid (bnE l = 6) := Lib.hid (by simp [bnE, c1])
    obtain ⟨a, c, rfl, _⟩ := hh.nil_ c1
    clear hh c1
    go_enter Try.func94, Try.ntmps94
    go_wp2_with fail
    go_ret
    exact ⟨by rw [Hx.out]; rfl, gb_refl _ _⟩
  by_cases c2 : 12 < l.length
  · have Hx : Hid (bnE l = 8) := Lib.hid (by simp [bnE, c1, c2])
    obtain ⟨a, c, rfl⟩ := hh.any
    have c3 : ((l.length : Int) == 0) = false := by rw [beq_eq_false_iff_ne]; omega
    clear hh
    go_enter Try.func94, Try.ntmps94
    go_wp2_with fail
    go_ret
    exact ⟨by rw [Hx.out]; rfl, gb_refl _ _⟩
  have Hx : Hid (bnE l = bnFrom l l.length 0) := Lib.hid (by simp [bnE, c1, c2])
  obtain ⟨x, ox, c, rfl, _, _, H1⟩ := Bns.at hh (by omega)
  have HA := Lib.hid H1
  have c3 : ((l.length : Int) == 0) = false := by rw [beq_eq_false_iff_ne]; omega
  have c4 : ¬ ((12 : Int) < (l.length : Int)) := by omega
  have hle : l.length ≤ 12 := by omega
  clear H1 hh c1 c2
  go_enter Try.func94, Try.ntmps94
  go_wp2_with fail
  go_loopw [16] (fun i wr => ∃ k : Nat, k ≤ l.length ∧ i = .int .i64 k ∧ bnE l = bnFrom l (l.length - k) k ∧ w.grownBy wr none) (fun i _ => l.length - (intOf i).toNat)
  case atStart => exact ⟨0, Nat.zero_le _, rfl, Hx.out, gb_refl _ _⟩
  case round =>
    clear c3 c4
    obtain ⟨k, hk, rfl, hrem, hg⟩ := hrel
    have HR := Lib.hid hrem
    clear hrem Hx
    by_cases hlt : k < l.length
    · have g0 := HA.out k hlt
      have g1 := gbc hg (by simp) g0.1
      have g2 := gbc hg (by simp) g0.2.1
      have g3 := gbc hg (by simp) g0.2.2
      have hbx := (Bk.new wr 136 #[.int .i64 (bn l k).cold, .int .i64 (bn l k).li.lo, .int .i64 (bn l k).li.hi]).c3
      have hlx : x < wr.heap.size := cell_lt g1
      obtain ⟨f, hf⟩ : ∃ f, l.length - k = f + 1 := ⟨l.length - k - 1, by omega⟩
      have Hf := Lib.hid hf
      clear hf g0
      cases b1 : inB (bn l k).cold (-1000) 1000 with
      | false =>
        have Hy : Hid (bnE l = 2) := Lib.hid (by rw [HR.out, Hf.out]; exact bnFrom_stop (by simp [bnErr, b1]) (by decide))
        have Hg := Lib.hid hg
        clear HR hg
        go_wp2_with (go_at_call 83; refine (in_c _ _ _ _).mono ?_; rintro e w' ⟨rfl, rfl⟩)
        go_ret
        exact ⟨by rw [Hy.out]; rfl, (gb_alloc Hg.out (.cells #[.int .i64 (bn l k).cold, .int .i64 (bn l k).li.lo, .int .i64 (bn l k).li.hi] 136))⟩
      | true =>
        have step : bnErr l k = 0 → bnE l = bnFrom l (l.length - (k + 1)) (k + 1) := fun h => by
          rw [HR.out, Hf.out, bnFrom_step h]
          congr 1
          have := Hf.out
          omega
        have stop : ∀ e, bnErr l k = e → e ≠ 0 → bnE l = e := fun e h h' => by rw [HR.out, Hf.out, bnFrom_stop h h']
        by_cases hk0 : 0 < k
        · have g4 : wr.cell? ⟨x, ox + (k - 1) * 3, none⟩ = some (.int .i64 (bn l (k - 1)).cold) := gbc hg (by simp) (HA.out (k - 1) (by omega)).1
          by_cases e1 : (bn l k).cold ≤ (bn l (k - 1)).cold
          · have Hy := Lib.hid (stop 11 (by simp [bnErr, b1, hk0, e1]) (by decide))
            have hd0 : decide ((0 : Int) < (k : Int)) = true := by simp; omega
            have hd1 : decide ((bn l k).cold ≤ (bn l (k - 1)).cold) = true := by simpa using e1
            have Hg := Lib.hid hg
            clear step stop HR hg e1
            go_wp2_with (go_at_call 83; refine (in_c _ _ _ _).mono ?_; rintro e w' ⟨rfl, rfl⟩)
            clear b1
            go_quiet (fail)
            go_wp2_with fail
            go_ret
            exact ⟨by rw [Hy.out]; rfl, gb_drewN ((gb_alloc Hg.out (.cells #[.int .i64 (bn l k).cold, .int .i64 (bn l k).li.lo, .int .i64 (bn l k).li.hi] 136))) _⟩
          · have hd0 : decide ((0 : Int) < (k : Int)) = true := by simp; omega
            have hd1 : decide ((bn l k).cold ≤ (bn l (k - 1)).cold) = false := by simpa using e1
            have HN : Hid (spE (bn l k).li = 0 → bnE l = bnFrom l (l.length - (k + 1)) (k + 1)) := Lib.hid fun h => step (by simp [bnErr, b1, e1, h])
            have HB : Hid (spE (bn l k).li ≠ 0 → bnE l = spE (bn l k).li) := Lib.hid fun h => stop _ (by simp [bnErr, b1, e1]) h
            clear step stop e1
            go_wp2_with (go_at_call 83; refine (in_c _ _ _ _).mono ?_; rintro e w' ⟨rfl, rfl⟩)
            clear b1
            go_quiet (fail)
            clear hd0 hd1 g4
            by_cases hs : spE (bn l k).li = 0
            · have hne : (spanErr (bn l k).li.lo (bn l k).li.hi 0 1000000000 != 0) = false := by simpa [spE] using hs
              have HM := Lib.hid (HN.out hs)
              have Hg := Lib.hid hg
              clear HN hs HR
              go_wp2_with (go_at_call 74; refine (checkSpan_c _ _ _ _ _).mono ?_; rintro e w2 ⟨rfl, hg2⟩)
              go_roundw
              case rel => exact ⟨k + 1, by omega, by go_num, HM.out, gb_trans (gb_drewN ((gb_alloc Hg.out (.cells #[.int .i64 (bn l k).cold, .int .i64 (bn l k).li.lo, .int .i64 (bn l k).li.hi] 136))) _) hg2⟩
              case measure => simp [intOf]; omega
            · have hne : (spanErr (bn l k).li.lo (bn l k).li.hi 0 1000000000 != 0) = true := by simpa [spE] using hs
              have HM := Lib.hid (HB.out hs)
              have Hg := Lib.hid hg
              clear HN hs HR HB
              go_wp2_with (go_at_call 74; refine (checkSpan_c _ _ _ _ _).mono ?_; rintro e w2 ⟨rfl, hg2⟩)
              go_ret
              exact ⟨by rw [HM.out]; rfl, gb_trans (gb_drewN ((gb_alloc Hg.out (.cells #[.int .i64 (bn l k).cold, .int .i64 (bn l k).li.lo, .int .i64 (bn l k).li.hi] 136))) _) hg2⟩
        · have hd0 : decide ((0 : Int) < (k : Int)) = false := by simp; omega
          have HN : Hid (spE (bn l k).li = 0 → bnE l = bnFrom l (l.length - (k + 1)) (k + 1)) := Lib.hid fun h => step (by simp [bnErr, b1, hk0, h])
          have HB : Hid (spE (bn l k).li ≠ 0 → bnE l = spE (bn l k).li) := Lib.hid fun h => stop _ (by simp [bnErr, b1, hk0]) h
          clear step stop
          go_wp2_with (go_at_call 83; refine (in_c _ _ _ _).mono ?_; rintro e w' ⟨rfl, rfl⟩)
          clear b1
          go_quiet (fail)
          clear hd0
          by_cases hs : spE (bn l k).li = 0
          · have hne : (spanErr (bn l k).li.lo (bn l k).li.hi 0 1000000000 != 0) = false := by simpa [spE] using hs
            have HM := Lib.hid (HN.out hs)
            have Hg := Lib.hid hg
            clear HN hs HR
            go_wp2_with (go_at_call 74; refine (checkSpan_c _ _ _ _ _).mono ?_; rintro e w2 ⟨rfl, hg2⟩)
            go_roundw
            case rel => exact ⟨k + 1, by omega, by go_num, HM.out, gb_trans (gb_drewN ((gb_alloc Hg.out (.cells #[.int .i64 (bn l k).cold, .int .i64 (bn l k).li.lo, .int .i64 (bn l k).li.hi] 136))) _) hg2⟩
            case measure => simp [intOf]; omega
          · have hne : (spanErr (bn l k).li.lo (bn l k).li.hi 0 1000000000 != 0) = true := by simpa [spE] using hs
            have HM := Lib.hid (HB.out hs)
            have Hg := Lib.hid hg
            clear HN hs HR HB
            go_wp2_with (go_at_call 74; refine (checkSpan_c _ _ _ _ _).mono ?_; rintro e w2 ⟨rfl, hg2⟩)
            go_ret
            exact ⟨by rw [HM.out]; rfl, gb_trans (gb_drewN ((gb_alloc Hg.out (.cells #[.int .i64 (bn l k).cold, .int .i64 (bn l k).li.lo, .int .i64 (bn l k).li.hi] 136))) _) hg2⟩
    · have Hy : Hid (bnE l = 0) := Lib.hid (by rw [HR.out, show l.length - k = 0 by omega]; rfl)
      have Hg := Lib.hid hg
      clear HR hg
      go_wp2_with fail
      go_ret
      exact ⟨by rw [Hy.out]; rfl, Hg.out⟩

set_option maxHeartbeats 2000000 in
theorem rcheckBurn_c (lo hi : Nat) (v : Value) (l : List Bn) (w : World) (hh : Bns lo hi w v l) :
    Calls Try.prog 96 #[v] w (Ret (.int .i64 (bnE l)) w) := by
  have hm := hh.len
  unfold maxLen at hm
  by_cases c1 : l.length = 0
  · have Hx : Hid (bnE l = 6) := Lib.hid (by simp [bnE, c1])
    obtain ⟨a, c, rfl, _⟩ := hh.nil_ c1
    clear hh c1
    go_enter Try.func96, Try.ntmps96
    go_wp2_with fail
    go_ret
    exact ⟨by rw [Hx.out]; rfl, gb_refl _ _⟩
  by_cases c2 : 12 < l.length
  · have Hx : Hid (bnE l = 8) := Lib.hid (by simp [bnE, c1, c2])
    obtain ⟨a, c, rfl⟩ := hh.any
    have c3 : ((l.length : Int) == 0) = false := by rw [beq_eq_false_iff_ne]; omega
    clear hh
    go_enter Try.func96, Try.ntmps96
    go_wp2_with fail
    go_ret
    exact ⟨by rw [Hx.out]; rfl, gb_refl _ _⟩
  have Hx : Hid (bnE l = bnFrom l l.length 0) := Lib.hid (by simp [bnE, c1, c2])
  obtain ⟨x, ox, c, rfl, _, _, H1⟩ := Bns.at hh (by omega)
  have HA := Lib.hid H1
  have c3 : ((l.length : Int) == 0) = false := by rw [beq_eq_false_iff_ne]; omega
  have c4 : ¬ ((12 : Int) < (l.length : Int)) := by omega
  have hle : l.length ≤ 12 := by omega
  clear H1 hh c1 c2
  go_enter Try.func96, Try.ntmps96
  go_wp2_with fail
  go_loopw [3] (fun i wr => ∃ k : Nat, k ≤ l.length ∧ i = .int .i64 k ∧ bnE l = bnFrom l (l.length - k) k ∧ w.grownBy wr none) (fun i _ => l.length - (intOf i).toNat)
  case atStart => exact ⟨0, Nat.zero_le _, rfl, Hx.out, gb_refl _ _⟩
  case round =>
    clear c3 c4
    obtain ⟨k, hk, rfl, hrem, hg⟩ := hrel
    have HR := Lib.hid hrem
    clear hrem Hx
    by_cases hlt : k < l.length
    · have g0 := HA.out k hlt
      have g1 := gbc hg (by simp) g0.1
      have g2 := gbc hg (by simp) g0.2.1
      have g3 := gbc hg (by simp) g0.2.2
      obtain ⟨f, hf⟩ : ∃ f, l.length - k = f + 1 := ⟨l.length - k - 1, by omega⟩
      have Hf := Lib.hid hf
      clear hf g0
      cases b1 : inB (bn l k).cold (-1000) 1000 with
      | false =>
        have Hy : Hid (bnE l = 2) := Lib.hid (by rw [HR.out, Hf.out]; exact bnFrom_stop (by simp [bnErr, b1]) (by decide))
        have Hg := Lib.hid hg
        clear HR hg
        go_wp2_with (go_at_call 85; refine (within_c _ _ _ _).mono ?_; rintro e w' ⟨rfl, rfl⟩)
        go_ret
        exact ⟨by rw [Hy.out]; rfl, Hg.out⟩
      | true =>
        have step : bnErr l k = 0 → bnE l = bnFrom l (l.length - (k + 1)) (k + 1) := fun h => by
          rw [HR.out, Hf.out, bnFrom_step h]
          congr 1
          have := Hf.out
          omega
        have stop : ∀ e, bnErr l k = e → e ≠ 0 → bnE l = e := fun e h h' => by rw [HR.out, Hf.out, bnFrom_stop h h']
        by_cases hk0 : 0 < k
        · have g4 : wr.cell? ⟨x, ox + (k - 1) * 3, none⟩ = some (.int .i64 (bn l (k - 1)).cold) := gbc hg (by simp) (HA.out (k - 1) (by omega)).1
          by_cases e1 : (bn l k).cold ≤ (bn l (k - 1)).cold
          · have Hy := Lib.hid (stop 11 (by simp [bnErr, b1, hk0, e1]) (by decide))
            have hd0 : decide ((0 : Int) < (k : Int)) = true := by simp; omega
            have hd1 : decide ((bn l k).cold ≤ (bn l (k - 1)).cold) = true := by simpa using e1
            have Hg := Lib.hid hg
            clear step stop HR hg e1
            go_wp2_with (go_at_call 85; refine (within_c _ _ _ _).mono ?_; rintro e w' ⟨rfl, rfl⟩)
            clear b1
            go_quiet (fail)
            go_wp2_with fail
            go_ret
            exact ⟨by rw [Hy.out]; rfl, gb_drewN (Hg.out) _⟩
          · have hd0 : decide ((0 : Int) < (k : Int)) = true := by simp; omega
            have hd1 : decide ((bn l k).cold ≤ (bn l (k - 1)).cold) = false := by simpa using e1
            have HN : Hid (spE (bn l k).li = 0 → bnE l = bnFrom l (l.length - (k + 1)) (k + 1)) := Lib.hid fun h => step (by simp [bnErr, b1, e1, h])
            have HB : Hid (spE (bn l k).li ≠ 0 → bnE l = spE (bn l k).li) := Lib.hid fun h => stop _ (by simp [bnErr, b1, e1]) h
            clear step stop e1
            go_wp2_with (go_at_call 85; refine (within_c _ _ _ _).mono ?_; rintro e w' ⟨rfl, rfl⟩)
            clear b1
            go_quiet (fail)
            clear hd0 hd1 g4
            by_cases hs : spE (bn l k).li = 0
            · have hne : (spanErr (bn l k).li.lo (bn l k).li.hi 0 1000000000 != 0) = false := by simpa [spE] using hs
              have HM := Lib.hid (HN.out hs)
              have Hg := Lib.hid hg
              clear HN hs HR
              go_wp2_with (go_at_call 79; refine (rcheckSpan_c _ _ _ _ _).mono ?_; rintro e w2 ⟨rfl, hg2⟩)
              go_roundw
              case rel => exact ⟨k + 1, by omega, by go_num, HM.out, gb_trans (gb_drewN (Hg.out) _) hg2⟩
              case measure => simp [intOf]; omega
            · have hne : (spanErr (bn l k).li.lo (bn l k).li.hi 0 1000000000 != 0) = true := by simpa [spE] using hs
              have HM := Lib.hid (HB.out hs)
              have Hg := Lib.hid hg
              clear HN hs HR HB
              go_wp2_with (go_at_call 79; refine (rcheckSpan_c _ _ _ _ _).mono ?_; rintro e w2 ⟨rfl, hg2⟩)
              go_ret
              exact ⟨by rw [HM.out]; rfl, gb_trans (gb_drewN (Hg.out) _) hg2⟩
        · have hd0 : decide ((0 : Int) < (k : Int)) = false := by simp; omega
          have HN : Hid (spE (bn l k).li = 0 → bnE l = bnFrom l (l.length - (k + 1)) (k + 1)) := Lib.hid fun h => step (by simp [bnErr, b1, hk0, h])
          have HB : Hid (spE (bn l k).li ≠ 0 → bnE l = spE (bn l k).li) := Lib.hid fun h => stop _ (by simp [bnErr, b1, hk0]) h
          clear step stop
          go_wp2_with (go_at_call 85; refine (within_c _ _ _ _).mono ?_; rintro e w' ⟨rfl, rfl⟩)
          clear b1
          go_quiet (fail)
          clear hd0
          by_cases hs : spE (bn l k).li = 0
          · have hne : (spanErr (bn l k).li.lo (bn l k).li.hi 0 1000000000 != 0) = false := by simpa [spE] using hs
            have HM := Lib.hid (HN.out hs)
            have Hg := Lib.hid hg
            clear HN hs HR
            go_wp2_with (go_at_call 79; refine (rcheckSpan_c _ _ _ _ _).mono ?_; rintro e w2 ⟨rfl, hg2⟩)
            go_roundw
            case rel => exact ⟨k + 1, by omega, by go_num, HM.out, gb_trans (gb_drewN (Hg.out) _) hg2⟩
            case measure => simp [intOf]; omega
          · have hne : (spanErr (bn l k).li.lo (bn l k).li.hi 0 1000000000 != 0) = true := by simpa [spE] using hs
            have HM := Lib.hid (HB.out hs)
            have Hg := Lib.hid hg
            clear HN hs HR HB
            go_wp2_with (go_at_call 79; refine (rcheckSpan_c _ _ _ _ _).mono ?_; rintro e w2 ⟨rfl, hg2⟩)
            go_ret
            exact ⟨by rw [HM.out]; rfl, gb_trans (gb_drewN (Hg.out) _) hg2⟩
    · have Hy : Hid (bnE l = 0) := Lib.hid (by rw [HR.out, show l.length - k = 0 by omega]; rfl)
      have Hg := Lib.hid hg
      clear HR hg
      go_wp2_with fail
      go_ret
      exact ⟨by rw [Hy.out]; rfl, Hg.out⟩
end Go.Proofs.Ytfifldbinnkdmaa
