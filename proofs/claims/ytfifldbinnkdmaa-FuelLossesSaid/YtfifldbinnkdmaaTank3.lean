/- fuel and its reference: what is in a tank. -/
import Derived.Test.YtfifldbinnkdmaaTank2
import Derived.Deep.RegionHeld3
set_option linter.unusedVariables false
set_option linter.unusedSimpArgs false
set_option linter.unnecessarySimpa false
namespace Go.Proofs.Ytfifldbinnkdmaa
open Go.RowKit

def volLo (hs ls : List Int) (h : Int) : Int := gi ls (seg hs h) + (gi ls (seg hs h + 1) - gi ls (seg hs h)) * (h - gi hs (seg hs h)) / (gi hs (seg hs h + 1) - gi hs (seg hs h))
def volHi (hs ls : List Int) (h : Int) : Int := gi ls (seg hs h) + upD ((gi ls (seg hs h + 1) - gi ls (seg hs h)) * (h - gi hs (seg hs h))) (gi hs (seg hs h + 1) - gi hs (seg hs h))
def volErr (hs ls : List Int) (a b : Int) : Int := if tankErr hs ls = 0 then spanErr a b (gi hs 0) (gi hs (hs.length - 1)) else tankErr hs ls
/-- What Volume hands back. -/
def volV (hs ls : List Int) (a b : Int) : Value :=
  if volErr hs ls a b = 0 then .tuple #[.agg #[.int .i64 (volLo hs ls a), .int .i64 (volHi hs ls b)], .int .i64 0] else .tuple #[.agg #[.int .i64 0, .int .i64 0], .int .i64 (volErr hs ls a b)]

theorem volV_err {hs ls : List Int} {a b e : Int} (h : volErr hs ls a b = e) (he : e ≠ 0) : volV hs ls a b = .tuple #[.agg #[.int .i64 0, .int .i64 0], .int .i64 e] := by
  subst h
  rw [volV, if_neg he]
theorem volV_ok {hs ls : List Int} {a b : Int} (h : volErr hs ls a b = 0) : volV hs ls a b = .tuple #[.agg #[.int .i64 (volLo hs ls a), .int .i64 (volHi hs ls b)], .int .i64 0] := by
  rw [volV, if_pos h]
/-- What lies on a line of a valid tank is within bounds. -/
theorem seg_facts {hs ls : List Int} (ok : tankErr hs ls = 0) {h : Int} (h0 : gi hs 0 ≤ h) (h1 : h ≤ 100000) :
    0 < gi hs (seg hs h + 1) - gi hs (seg hs h) ∧ gi hs (seg hs h + 1) - gi hs (seg hs h) ≤ 100000 ∧ 0 ≤ gi ls (seg hs h) ∧ gi ls (seg hs h) ≤ 1000000000 ∧
    0 ≤ (gi ls (seg hs h + 1) - gi ls (seg hs h)) * (h - gi hs (seg hs h)) ∧ (gi ls (seg hs h + 1) - gi ls (seg hs h)) * (h - gi hs (seg hs h)) ≤ 100000000000000 := by
  obtain ⟨k1, k2, k3, k4, k5⟩ := tank_ok ok
  obtain ⟨_, sb, sc, sd⟩ := segF_prop hs h (hs.length - 2) 0
  have hs' : segF hs h (hs.length - 2) 0 = seg hs h := rfl
  rw [hs'] at sb sc sd
  have hk := k4 (seg hs h) (by omega)
  have hk1 := k4 (seg hs h + 1) (by omega)
  have hi := k5 (seg hs h + 1) (by omega) (by omega)
  simp only [Nat.add_sub_cancel] at hi
  have hlow : gi hs (seg hs h) ≤ h := by
    rcases Nat.eq_zero_or_pos (seg hs h) with e | e
    · rw [e]; exact h0
    · have := sc (seg hs h - 1) (Nat.zero_le _) (by omega)
      rw [show seg hs h - 1 + 1 = seg hs h by omega] at this
      omega
  have hm := mul_bd (x := gi ls (seg hs h + 1) - gi ls (seg hs h)) (y := h - gi hs (seg hs h)) (a := 1000000000) (b := 100000) (by omega) (by omega) (by omega) (by omega)
  omega

theorem upD_bd {n d : Int} (hd : 0 < d) (h : 0 ≤ n) : 0 ≤ upD n d ∧ upD n d ≤ n := by
  unfold upD
  have h1 : -n ≤ -n / d := (Int.le_ediv_iff_mul_le hd).2 (by
    have := Int.mul_le_mul_of_nonpos_left (a := -n) (b := d) (c := 1) (by omega) (by omega)
    omega)
  have h2 : -n / d ≤ 0 := by
    have := Int.ediv_le_ediv hd (show -n ≤ 0 by omega)
    simpa using this
  omega
theorem line_open {hs ls : List Int} (ok : tankErr hs ls = 0) {h : Int} (h0 : gi hs 0 ≤ h) (h1 : h ≤ 100000) : ∃ l x m d : Int, lineV hs ls h = .tuple #[.int .i64 l, .int .i64 x, .int .i64 m, .int .i64 d] ∧
    contentV hs ls h = .tuple #[.int .i64 l, .int .i64 (m * x), .int .i64 d] ∧ volLo hs ls h = l + m * x / d ∧ volHi hs ls h = l + upD (m * x) d ∧
    0 < d ∧ d ≤ 100000 ∧ 0 ≤ l ∧ l ≤ 1000000000 ∧ 0 ≤ m * x ∧ m * x ≤ 100000000000000 ∧ 0 ≤ m * x / d ∧ m * x / d ≤ 100000000000000 ∧ 0 ≤ upD (m * x) d ∧ upD (m * x) d ≤ 100000000000000 := by
  obtain ⟨f1, f2, f3, f4, f5, f6⟩ := seg_facts ok h0 h1
  have g1 := Int.ediv_nonneg f5 (Int.le_of_lt f1)
  have g2 := Int.ediv_le_self (gi hs (seg hs h + 1) - gi hs (seg hs h)) f5
  have g3 := upD_bd f1 f5
  exact ⟨_, _, _, _, rfl, rfl, rfl, rfl, f1, f2, f3, f4, f5, f6, g1, by omega, g3.1, by omega⟩

set_option maxHeartbeats 2000000 in
theorem volume_c (l1 h1 l2 h2 : Nat) (vh vl : Value) (hs ls : List Int) (a b : Int) (w : World) (hh : Ints l1 h1 w vh hs) (hl : Ints l2 h2 w vl ls) (b1 : h1 ≤ w.heap.size) (b2 : h2 ≤ w.heap.size) :
    Calls Try.prog 30 #[.agg #[vh, vl], .agg #[.int .i64 a, .int .i64 b]] w (Ret (volV hs ls a b) w) := by
  obtain ⟨a1, c1, ev1⟩ := hh.any
  obtain ⟨a2, c2, ev2⟩ := hl.any
  subst ev1 ev2
  have hB1 := Bk.new w 51 #[.slice a1 hs.length c1, .slice a2 ls.length c2]
  have hB2 : Bk ((w.alloc (.cells #[.slice a1 hs.length c1, .slice a2 ls.length c2] 51)).alloc (.cells #[.int .i64 a, .int .i64 b] 40)) (w.heap.size + 1) 40 #[.int .i64 a, .int .i64 b] := by
    simpa using Bk.new (w.alloc (.cells #[.slice a1 hs.length c1, .slice a2 ls.length c2] 51)) 40 #[.int .i64 a, .int .i64 b]
  obtain ⟨W0, hW0⟩ : ∃ W0, ((w.alloc (.cells #[.slice a1 hs.length c1, .slice a2 ls.length c2] 51)).alloc (.cells #[.int .i64 a, .int .i64 b] 40)).alloc (.cells #[.int .i64 0, .int .i64 0] 40) = W0 := ⟨_, rfl⟩
  have hB3 : Bk W0 (w.heap.size + 2) 40 #[.int .i64 0, .int .i64 0] := by
    rw [← hW0]
    simpa using Bk.new ((w.alloc (.cells #[.slice a1 hs.length c1, .slice a2 ls.length c2] 51)).alloc (.cells #[.int .i64 a, .int .i64 b] 40)) 40 #[.int .i64 0, .int .i64 0]
  have hg0 : w.grownBy W0 none := hW0 ▸ gb_alloc (gb_alloc (gb_alloc (gb_refl _ _) _) _) _
  replace hB1 : Bk W0 w.heap.size 51 #[.slice a1 hs.length c1, .slice a2 ls.length c2] := hW0 ▸ (hB1.alloc _).alloc _
  replace hB2 : Bk W0 (w.heap.size + 1) 40 #[.int .i64 a, .int .i64 b] := hW0 ▸ hB2.alloc _
  have HW0 := Lib.hid hW0
  have HH := Lib.hid (And.intro hh hl)
  clear hW0 hh hl
  go_enter Try.func30, Try.ntmps30
  go_wp2_with fail
  rw [HW0.out]
  refine (checkTank_c l1 h1 l2 h2 _ _ hs ls _ (HH.out.1.below (below_of_gb hg0) b1) (HH.out.2.below (below_of_gb hg0) b2)).mono ?_
  rintro e w1 ⟨rfl, hg1⟩
  clear HW0
  replace hB1 := hB1.gb hg1 (by simp)
  replace hB2 := hB2.gb hg1 (by simp)
  replace hB3 := hB3.gb hg1 (by simp)
  have hG1 := gb_trans hg0 hg1
  clear hg0 hg1
  have q1 := hB1.c2
  have q2 := hB2.c2
  have q3 := hB3.c2
  by_cases e1 : tankErr hs ls = 0
  · obtain ⟨k1, k2, k3, k4, k5⟩ := tank_ok e1
    obtain ⟨x, ox, cx, ex, _, _, X1⟩ := Ints.at (HH.out.1.below (below_of_gb hG1) b1) (by omega)
    injection ex with ex1 _ ex2
    subst ex1 ex2
    have x0 := X1 0 (by omega)
    have x1 := X1 (hs.length - 1) (by omega)
    rw [Nat.add_zero] at x0
    have K45 := Lib.hid (And.intro k4 k5)
    have K3 := Lib.hid k3
    clear X1 k4 k5 k3
    have hne : (tankErr hs ls != 0) = false := by simp [e1]
    have E1 := Lib.hid e1
    clear e1
    go_wp2_with fail
    have hp1 : (0 : Int) < (hs.length : Int) := by omega
    have hp0 : 0 < hs.length := by omega
    have hp6 : (1 : Int) ≤ (hs.length : Int) := by omega
    have hp7 : 1 ≤ hs.length := by omega
    have hp2 : (0 : Int) ≤ (hs.length : Int) - 1 := by omega
    have hp3 : (hs.length : Int) - 1 < (hs.length : Int) := by omega
    have hp4 : ((hs.length : Int) - 1).toNat = hs.length - 1 := by omega
    have hp5 : IntKind.i64.wrap ((hs.length : Int) - 1) = (hs.length : Int) - 1 := IntWalk.i64_in _ (by omega)
    go_region_held3 (fun W => W.cell? ⟨w.heap.size, 0, none⟩ = some (.slice (some ⟨x, ox, none⟩) hs.length c1) ∧ W.cell? ⟨w.heap.size + 1, 0, none⟩ = some (.int .i64 a) ∧ W.cell? ⟨w.heap.size + 1, 1, none⟩ = some (.int .i64 b) ∧
        W.cell? ⟨x, ox, none⟩ = some (.int .i64 (gi hs 0)) ∧ W.cell? ⟨x, ox + (hs.length - 1), none⟩ = some (.int .i64 (gi hs (hs.length - 1)))) (go_keep)
      (first
      | (go_at_call 74; refine (checkSpan_c _ _ _ _ _).mono ?_; rintro e w2 ⟨rfl, hg2⟩; have r1 := gbc hg2 (by simp) q1.1; have r2 := gbc hg2 (by simp) q2.1; have r3 := gbc hg2 (by simp) q2.2.1; have r4 := gbc hg2 (by simp) x0; have r5 := gbc hg2 (by simp) x1))
    have hG2 := gb_trans (gb_drew hG1) hg2
    replace hB1 := hB1.drew.gb hg2 (by simp)
    replace hB2 := hB2.drew.gb hg2 (by simp)
    replace hB3 := hB3.drew.gb hg2 (by simp)
    replace q3 := hB3.c2
    replace q2 := hB2.c2
    replace q1 := hB1.c2
    clear hG1 hg2 r1 r2 r3 r4 r5 x0 x1 hp0 hp1 hp2 hp3 hp4 hp5 hp6 hp7 hne
    have E2 : volErr hs ls a b = spanErr a b (gi hs 0) (gi hs (hs.length - 1)) := by rw [volErr, if_pos E1.out]
    have HE2 := Lib.hid E2
    clear E2
    by_cases e2 : spanErr a b (gi hs 0) (gi hs (hs.length - 1)) = 0
    · have hsp := spanErr_ok e2
      have HV := Lib.hid (volV_ok (HE2.out.trans e2))
      have hne : (spanErr a b (gi hs 0) (gi hs (hs.length - 1)) != 0) = false := by simp [e2]
      obtain ⟨l, x', m, d, L1, _, V1, _, hl1, hl2, hl3, hl4, hl5, hl6, hl7, hl8, _, _⟩ := line_open E1.out (h := a) hsp.1 (by have := (K45.out.1 (hs.length - 1) (by omega)).1; omega)
      obtain ⟨l', y', m', d', L2, _, _, V2, hr1, hr2, hr3, hr4, hr5, hr6, _, _, hr7, hr8⟩ := line_open E1.out (h := b) (by omega) (by have := (K45.out.1 (hs.length - 1) (by omega)).1; omega)
      have hab : (0 ≤ a ∧ a ≤ 100000) ∧ 0 ≤ b ∧ b ≤ 100000 := by
        have := (K45.out.1 (hs.length - 1) (by omega)).1
        have := (K45.out.1 0 (by omega)).1
        omega
      have hLa := line_c l1 h1 l2 h2 _ _ hs ls a w2 (HH.out.1.below (below_of_gb hG2) b1) (HH.out.2.below (below_of_gb hG2) b2) E1.out (Nat.le_trans b1 hG2.size) (Nat.le_trans b2 hG2.size) hab.1.1 hab.1.2
      rw [L1] at hLa
      have HLa := Lib.hid hLa
      have HL2 := Lib.hid L2
      have HV12 := Lib.hid (And.intro V1 V2)
      clear hLa L1 L2 V1 V2 e2 hsp
      go_wp2_with fail
      refine HLa.out.mono ?_
      rintro e w3 ⟨rfl, hg3⟩
      clear HLa
      have hG3 := gb_trans hG2 hg3
      replace hB1 := hB1.gb hg3 (by simp)
      replace hB2 := hB2.gb hg3 (by simp)
      replace hB3 := hB3.gb hg3 (by simp)
      replace q3 := hB3.c2
      replace q2 := hB2.c2
      replace q1 := hB1.c2
      have t1 := hB1.lt
      have t2 := hB2.lt
      have t3 := hB3.lt
      clear hG2 hg3
      go_wp2_with (go_at_call 76; refine (floor_c _ _ _ hl1 (by omega) (by omega) (by omega)).mono ?_; rintro e w' ⟨rfl, rfl⟩)
      have hO := Bk.new w3 40 #[.int .i64 (l + m * x' / d), .int .i64 0]
      have hG3' : w.grownBy (w3.alloc (.cells #[.int .i64 (l + m * x' / d), .int .i64 0] 40)) none := gb_alloc hG3 _
      have hLb := line_c l1 h1 l2 h2 _ _ hs ls b (w3.alloc (.cells #[.int .i64 (l + m * x' / d), .int .i64 0] 40)) (HH.out.1.below (below_of_gb hG3') b1) (HH.out.2.below (below_of_gb hG3') b2) E1.out (Nat.le_trans b1 hG3'.size) (Nat.le_trans b2 hG3'.size) hab.2.1 hab.2.2
      rw [HL2.out] at hLb
      refine hLb.mono ?_
      rintro e w4 ⟨rfl, hg4⟩
      have hG4 := gb_trans hG3' hg4
      replace hB1 := (hB1.alloc _).gb hg4 (by simp)
      replace hB2 := (hB2.alloc _).gb hg4 (by simp)
      replace hB3 := (hB3.alloc _).gb hg4 (by simp)
      replace hO := hO.gb hg4 (by simp)
      replace q3 := hB3.c2
      replace q2 := hB2.c2
      replace q1 := hB1.c2
      have q4 := hO.c2
      clear hLb hG3 hG3' hg4
      go_wp2_with (go_at_call 77; refine (ceil_c _ _ _ hr1 (by omega) (by omega) (by omega)).mono ?_; rintro e w' ⟨rfl, rfl⟩)
      exact bodyPost_ret (v := .tuple #[.agg #[.int .i64 (l + m * x' / d), .int .i64 (l' + upD (m' * y') d')], .int .i64 0]) (by simp [results, Try.results30, go_sem, q3]) rfl
        ⟨by rw [HV.out, HV12.out.1, HV12.out.2], gb_setCell (gb_setCell (gb_setCell hG4 (.inr (by simp <;> omega)) _) (.inr (by simp <;> omega)) _) (.inr (by simp <;> omega)) _⟩
    · have hne : (spanErr a b (gi hs 0) (gi hs (hs.length - 1)) != 0) = true := by simp [e2]
      have HV := Lib.hid (volV_err HE2.out e2)
      clear e2
      go_wp2_with fail
      exact bodyPost_ret (v := .tuple #[.agg #[.int .i64 0, .int .i64 0], .int .i64 (spanErr a b (gi hs 0) (gi hs (hs.length - 1)))]) (by simp [results, Try.results30, go_sem, q3]) rfl
        ⟨by rw [HV.out], gb_setCell (gb_setCell hG2 (.inr (by simp <;> omega)) _) (.inr (by simp <;> omega)) _⟩
  · have hne : (tankErr hs ls != 0) = true := by simp [e1]
    have HV := Lib.hid (volV_err (a := a) (b := b) (show volErr hs ls a b = tankErr hs ls by rw [volErr, if_neg e1]) e1)
    clear e1
    go_wp2_with fail
    exact bodyPost_ret (v := .tuple #[.agg #[.int .i64 0, .int .i64 0], .int .i64 (tankErr hs ls)]) (by simp [results, Try.results30, go_sem, q3]) rfl
      ⟨by rw [HV.out], gb_setCell (gb_setCell hG1 (.inr (by simp <;> omega)) _) (.inr (by simp <;> omega)) _⟩
set_option maxHeartbeats 2000000 in
theorem rvolume_c (l1 h1 l2 h2 : Nat) (vh vl : Value) (hs ls : List Int) (a b : Int) (w : World) (hh : Ints l1 h1 w vh hs) (hl : Ints l2 h2 w vl ls) (b1 : h1 ≤ w.heap.size) (b2 : h2 ≤ w.heap.size) :
    Calls Try.prog 31 #[.agg #[vh, vl], .agg #[.int .i64 a, .int .i64 b]] w (Ret (volV hs ls a b) w) := by
  obtain ⟨a1, c1, ev1⟩ := hh.any
  obtain ⟨a2, c2, ev2⟩ := hl.any
  subst ev1 ev2
  have hB1 := Bk.new w 51 #[.slice a1 hs.length c1, .slice a2 ls.length c2]
  have hB2 : Bk ((w.alloc (.cells #[.slice a1 hs.length c1, .slice a2 ls.length c2] 51)).alloc (.cells #[.int .i64 a, .int .i64 b] 40)) (w.heap.size + 1) 40 #[.int .i64 a, .int .i64 b] := by
    simpa using Bk.new (w.alloc (.cells #[.slice a1 hs.length c1, .slice a2 ls.length c2] 51)) 40 #[.int .i64 a, .int .i64 b]
  obtain ⟨W0, hW0⟩ : ∃ W0, ((w.alloc (.cells #[.slice a1 hs.length c1, .slice a2 ls.length c2] 51)).alloc (.cells #[.int .i64 a, .int .i64 b] 40)).alloc (.cells #[.int .i64 0, .int .i64 0] 40) = W0 := ⟨_, rfl⟩
  have hB3 : Bk W0 (w.heap.size + 2) 40 #[.int .i64 0, .int .i64 0] := by
    rw [← hW0]
    simpa using Bk.new ((w.alloc (.cells #[.slice a1 hs.length c1, .slice a2 ls.length c2] 51)).alloc (.cells #[.int .i64 a, .int .i64 b] 40)) 40 #[.int .i64 0, .int .i64 0]
  have hg0 : w.grownBy W0 none := hW0 ▸ gb_alloc (gb_alloc (gb_alloc (gb_refl _ _) _) _) _
  replace hB1 : Bk W0 w.heap.size 51 #[.slice a1 hs.length c1, .slice a2 ls.length c2] := hW0 ▸ (hB1.alloc _).alloc _
  replace hB2 : Bk W0 (w.heap.size + 1) 40 #[.int .i64 a, .int .i64 b] := hW0 ▸ hB2.alloc _
  have HW0 := Lib.hid hW0
  have HH := Lib.hid (And.intro hh hl)
  clear hW0 hh hl
  go_enter Try.func31, Try.ntmps31
  go_wp2_with fail
  rw [HW0.out]
  refine (rcheckTank_c l1 h1 l2 h2 _ _ hs ls _ (HH.out.1.below (below_of_gb hg0) b1) (HH.out.2.below (below_of_gb hg0) b2)).mono ?_
  rintro e w1 ⟨rfl, hg1⟩
  clear HW0
  replace hB1 := hB1.gb hg1 (by simp)
  replace hB2 := hB2.gb hg1 (by simp)
  replace hB3 := hB3.gb hg1 (by simp)
  have hG1 := gb_trans hg0 hg1
  clear hg0 hg1
  have q1 := hB1.c2
  have q2 := hB2.c2
  have q3 := hB3.c2
  by_cases e1 : tankErr hs ls = 0
  · obtain ⟨k1, k2, k3, k4, k5⟩ := tank_ok e1
    obtain ⟨x, ox, cx, ex, _, _, X1⟩ := Ints.at (HH.out.1.below (below_of_gb hG1) b1) (by omega)
    injection ex with ex1 _ ex2
    subst ex1 ex2
    have x0 := X1 0 (by omega)
    have x1 := X1 (hs.length - 1) (by omega)
    rw [Nat.add_zero] at x0
    have K45 := Lib.hid (And.intro k4 k5)
    have K3 := Lib.hid k3
    clear X1 k4 k5 k3
    have hne : (tankErr hs ls != 0) = false := by simp [e1]
    have E1 := Lib.hid e1
    clear e1
    go_wp2_with fail
    have hp1 : (0 : Int) < (hs.length : Int) := by omega
    have hp0 : 0 < hs.length := by omega
    have hp6 : (1 : Int) ≤ (hs.length : Int) := by omega
    have hp7 : 1 ≤ hs.length := by omega
    have hp2 : (0 : Int) ≤ (hs.length : Int) - 1 := by omega
    have hp3 : (hs.length : Int) - 1 < (hs.length : Int) := by omega
    have hp4 : ((hs.length : Int) - 1).toNat = hs.length - 1 := by omega
    have hp5 : IntKind.i64.wrap ((hs.length : Int) - 1) = (hs.length : Int) - 1 := IntWalk.i64_in _ (by omega)
    go_region_held3 (fun W => W.cell? ⟨w.heap.size, 0, none⟩ = some (.slice (some ⟨x, ox, none⟩) hs.length c1) ∧ W.cell? ⟨w.heap.size + 1, 0, none⟩ = some (.int .i64 a) ∧ W.cell? ⟨w.heap.size + 1, 1, none⟩ = some (.int .i64 b) ∧
        W.cell? ⟨x, ox, none⟩ = some (.int .i64 (gi hs 0)) ∧ W.cell? ⟨x, ox + (hs.length - 1), none⟩ = some (.int .i64 (gi hs (hs.length - 1)))) (go_keep)
      (first
      | (go_at_call 79; refine (rcheckSpan_c _ _ _ _ _).mono ?_; rintro e w2 ⟨rfl, hg2⟩; have r1 := gbc hg2 (by simp) q1.1; have r2 := gbc hg2 (by simp) q2.1; have r3 := gbc hg2 (by simp) q2.2.1; have r4 := gbc hg2 (by simp) x0; have r5 := gbc hg2 (by simp) x1))
    have hG2 := gb_trans (gb_drew hG1) hg2
    replace hB1 := hB1.drew.gb hg2 (by simp)
    replace hB2 := hB2.drew.gb hg2 (by simp)
    replace hB3 := hB3.drew.gb hg2 (by simp)
    replace q3 := hB3.c2
    replace q2 := hB2.c2
    replace q1 := hB1.c2
    clear hG1 hg2 r1 r2 r3 r4 r5 x0 x1 hp0 hp1 hp2 hp3 hp4 hp5 hp6 hp7 hne
    have E2 : volErr hs ls a b = spanErr a b (gi hs 0) (gi hs (hs.length - 1)) := by rw [volErr, if_pos E1.out]
    have HE2 := Lib.hid E2
    clear E2
    by_cases e2 : spanErr a b (gi hs 0) (gi hs (hs.length - 1)) = 0
    · have hsp := spanErr_ok e2
      have HV := Lib.hid (volV_ok (HE2.out.trans e2))
      have hne : (spanErr a b (gi hs 0) (gi hs (hs.length - 1)) != 0) = false := by simp [e2]
      obtain ⟨l, x', m, d, _, L1, V1, _, hl1, hl2, hl3, hl4, hl5, hl6, hl7, hl8, _, _⟩ := line_open E1.out (h := a) hsp.1 (by have := (K45.out.1 (hs.length - 1) (by omega)).1; omega)
      obtain ⟨l', y', m', d', _, L2, _, V2, hr1, hr2, hr3, hr4, hr5, hr6, _, _, hr7, hr8⟩ := line_open E1.out (h := b) (by omega) (by have := (K45.out.1 (hs.length - 1) (by omega)).1; omega)
      have hLa := content_c l1 h1 l2 h2 _ _ hs ls a w2 (HH.out.1.below (below_of_gb hG2) b1) (HH.out.2.below (below_of_gb hG2) b2) E1.out hsp.1 (by omega)
      rw [L1] at hLa
      have HLa := Lib.hid hLa
      have HL2 := Lib.hid L2
      have HV12 := Lib.hid (And.intro V1 V2)
      have HSP := Lib.hid hsp
      generalize m * x' = n1 at *
      generalize m' * y' = n2 at *
      clear hLa L1 L2 V1 V2 e2 hsp
      go_wp2_with fail
      refine HLa.out.mono ?_
      rintro e w3 ⟨rfl, hg3⟩
      clear HLa
      have hG3 := gb_trans hG2 hg3
      replace hB1 := hB1.gb hg3 (by simp)
      replace hB2 := hB2.gb hg3 (by simp)
      replace hB3 := hB3.gb hg3 (by simp)
      replace q3 := hB3.c2
      replace q2 := hB2.c2
      replace q1 := hB1.c2
      clear hG2 hg3
      go_wp2_with fail
      have hLb := content_c l1 h1 l2 h2 _ _ hs ls b w3 (HH.out.1.below (below_of_gb hG3) b1) (HH.out.2.below (below_of_gb hG3) b2) E1.out (by have := HSP.out; omega) (by have := HSP.out; omega)
      rw [HL2.out] at hLb
      refine hLb.mono ?_
      rintro e w4 ⟨rfl, hg4⟩
      have hG4 := gb_trans hG3 hg4
      replace hB3 := hB3.gb hg4 (by simp)
      replace q3 := hB3.c2
      clear hLb hG3 hg4 hB1 hB2 q1 q2
      go_wp2_with (first
        | (go_at_call 81; refine (down_c _ _ _ hl1 (by omega) (by omega) (by omega)).mono ?_; rintro e w' ⟨rfl, rfl⟩)
        | (go_at_call 82; refine (rup_c _ _ _ hr1 (by omega) (by omega) (by omega)).mono ?_; rintro e w' ⟨rfl, rfl⟩))
      exact bodyPost_ret (v := .tuple #[.agg #[.int .i64 (l + n1 / d), .int .i64 (l' + upD n2 d')], .int .i64 0]) (by simp [results, Try.results31, go_sem, q3]) rfl
        ⟨by rw [HV.out, HV12.out.1, HV12.out.2], gb_setCell (gb_setCell hG4 (.inr (by simp <;> omega)) _) (.inr (by simp <;> omega)) _⟩
    · have hne : (spanErr a b (gi hs 0) (gi hs (hs.length - 1)) != 0) = true := by simp [e2]
      have HV := Lib.hid (volV_err HE2.out e2)
      clear e2
      go_wp2_with fail
      exact bodyPost_ret (v := .tuple #[.agg #[.int .i64 0, .int .i64 0], .int .i64 (spanErr a b (gi hs 0) (gi hs (hs.length - 1)))]) (by simp [results, Try.results31, go_sem, q3]) rfl
        ⟨by rw [HV.out], gb_setCell (gb_setCell hG2 (.inr (by simp <;> omega)) _) (.inr (by simp <;> omega)) _⟩
  · have hne : (tankErr hs ls != 0) = true := by simp [e1]
    have HV := Lib.hid (volV_err (a := a) (b := b) (show volErr hs ls a b = tankErr hs ls by rw [volErr, if_neg e1]) e1)
    clear e1
    go_wp2_with fail
    exact bodyPost_ret (v := .tuple #[.agg #[.int .i64 0, .int .i64 0], .int .i64 (tankErr hs ls)]) (by simp [results, Try.results31, go_sem, q3]) rfl
      ⟨by rw [HV.out], gb_setCell (gb_setCell hG1 (.inr (by simp <;> omega)) _) (.inr (by simp <;> omega)) _⟩
end Go.Proofs.Ytfifldbinnkdmaa
