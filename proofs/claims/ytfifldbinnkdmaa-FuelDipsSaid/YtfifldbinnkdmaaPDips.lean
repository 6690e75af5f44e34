/- FuelDips, the plain law: litres rise with the height, and a narrower span has none wider. -/
import Derived.Test.YtfifldbinnkdmaaTank3
import Derived.Test.YtfifldbinnkdmaaTankOf
import Derived.Test.YtfifldbinnkdmaaStd1
namespace Go.Proofs.Ytfifldbinnkdmaa

theorem upD_mul {n d : Int} (hd : 0 < d) : n ≤ upD n d * d := by
  unfold upD
  have h := Int.ediv_mul_le (-n) (Int.ne_of_gt hd)
  have h2 : -(-n / d) * d = -(-n / d * d) := by rw [Int.neg_mul]
  omega
theorem upD_le {n m d : Int} (hd : 0 < d) (h : n ≤ m) : upD n d ≤ upD m d := by
  unfold upD
  have := Int.ediv_le_ediv hd (show -m ≤ -n by omega)
  omega
theorem upD_top {n d k : Int} (hd : 0 < d) (h : n ≤ k * d) : upD n d ≤ k := by
  unfold upD
  have h1 : -k ≤ -n / d := (Int.le_ediv_iff_mul_le hd).2 (by rw [Int.neg_mul]; omega)
  omega
theorem upD_one {n d : Int} (hd : 0 < d) : upD n d ≤ n / d + 1 := by
  apply upD_top hd
  have h := Int.lt_ediv_add_one_mul_self n hd
  omega
theorem floor_le_up {n d : Int} (hd : 0 < d) : n / d ≤ upD n d := by
  have h1 := Int.ediv_mul_le n (Int.ne_of_gt hd)
  have h2 := upD_mul (n := n) hd
  exact Int.le_of_mul_le_mul_right (Int.le_trans h1 h2) hd

theorem TankInv.err {hs ls : List Int} {n : Nat} (h : TankInv hs ls n) (h2 : 2 ≤ n) : tankErr hs ls = 0 := by
  obtain ⟨h3, h4, _, h5, h6, h7⟩ := h
  have key : ∀ f i, i + f ≤ n → tankFrom hs ls f i = 0 := by
    intro f
    induction f with
    | zero => intro i _; rfl
    | succ f ih =>
      intro i hi
      have a := h6 i (by omega)
      have b1 : inB (gi hs i) 0 100000 = true := by simp only [inB, Bool.and_eq_true, decide_eq_true_eq]; omega
      have b2 : inB (gi ls i) 0 1000000000 = true := by simp only [inB, Bool.and_eq_true, decide_eq_true_eq]; omega
      unfold tankFrom
      by_cases h0 : 0 < i
      · have c := h7 i h0 (by omega)
        simp only [b1, b2]
        have g : ¬ (gi hs i ≤ gi hs (i - 1) ∨ gi ls i < gi ls (i - 1)) := by omega
        simp [h0, g, ih (i + 1) (by omega)]
      · simp [b1, b2, h0, ih (i + 1) (by omega)]
  unfold tankErr
  rw [if_neg (by omega), if_neg (by omega), if_neg (by omega)]
  exact key _ _ (by omega)

section
variable {hs ls : List Int} (ok : tankErr hs ls = 0)
include ok
/-- What a height in a tank knows of its segment. -/
theorem seg_in {h : Int} (h0 : gi hs 0 ≤ h) (h1 : h ≤ gi hs (hs.length - 1)) :
    seg hs h + 1 < hs.length ∧ gi hs (seg hs h) ≤ h ∧ h ≤ gi hs (seg hs h + 1) ∧ (∀ i, i < seg hs h → gi hs (i + 1) < h) := by
  obtain ⟨k1, k2, k3, k4, k5⟩ := tank_ok ok
  obtain ⟨_, sb, sc, sd⟩ := segF_prop hs h (hs.length - 2) 0
  have hs' : segF hs h (hs.length - 2) 0 = seg hs h := rfl
  rw [hs'] at sb sc sd
  refine ⟨by omega, ?_, ?_, fun i hi => sc i (Nat.zero_le _) hi⟩
  · rcases Nat.eq_zero_or_pos (seg hs h) with e | e
    · rw [e]; exact h0
    · have := sc (seg hs h - 1) (Nat.zero_le _) (by omega)
      rw [show seg hs h - 1 + 1 = seg hs h by omega] at this
      omega
  · rcases sd with sd | sd
    · rw [sd, show 0 + (hs.length - 2) + 1 = hs.length - 1 by omega]; exact h1
    · exact sd
theorem lit_mono {i j : Nat} (hij : i ≤ j) (hj : j < hs.length) : gi ls i ≤ gi ls j := by
  obtain ⟨k1, k2, k3, k4, k5⟩ := tank_ok ok
  induction j with
  | zero => obtain rfl : i = 0 := by omega
            exact Int.le_refl _
  | succ j ih =>
    rcases Nat.eq_or_lt_of_le hij with rfl | h
    · exact Int.le_refl _
    · have h1 := ih (by omega) (by omega)
      have h2 := (k5 (j + 1) (by omega) hj).2
      simp only [Nat.add_sub_cancel] at h2
      omega
/-- A height's litres lie within those of its segment. -/
theorem vol_seg {h : Int} (h0 : gi hs 0 ≤ h) (h1 : h ≤ gi hs (hs.length - 1)) :
    gi ls (seg hs h) ≤ volLo hs ls h ∧ volLo hs ls h ≤ volHi hs ls h ∧ volHi hs ls h ≤ gi ls (seg hs h + 1) ∧ volHi hs ls h - volLo hs ls h ≤ 1 := by
  obtain ⟨s1, s2, s3, _⟩ := seg_in ok h0 h1
  obtain ⟨k1, k2, k3, k4, k5⟩ := tank_ok ok
  have hd := (k5 (seg hs h + 1) (by omega) s1).1
  simp only [Nat.add_sub_cancel] at hd
  have hl := lit_mono ok (i := seg hs h) (j := seg hs h + 1) (by omega) s1
  unfold volLo volHi
  generalize gi hs (seg hs h) = a at *
  generalize gi hs (seg hs h + 1) = b at *
  generalize gi ls (seg hs h) = x at *
  generalize gi ls (seg hs h + 1) = y at *
  have hp : 0 < b - a := by omega
  have n0 : 0 ≤ (y - x) * (h - a) := Int.mul_nonneg (by omega) (by omega)
  have n1 : (y - x) * (h - a) ≤ (y - x) * (b - a) := Int.mul_le_mul_of_nonneg_left (by omega) (by omega)
  have q0 := Int.ediv_nonneg n0 (Int.le_of_lt hp)
  have q1 := upD_top hp n1
  have q2 := upD_one (n := (y - x) * (h - a)) hp
  have q3 := floor_le_up (n := (y - x) * (h - a)) hp
  omega
theorem vol_mono {h h' : Int} (h0 : gi hs 0 ≤ h) (hle : h ≤ h') (h1 : h' ≤ gi hs (hs.length - 1)) : volLo hs ls h ≤ volLo hs ls h' ∧ volHi hs ls h ≤ volHi hs ls h' := by
  obtain ⟨a1, a2, a3, a4⟩ := seg_in ok h0 (by omega)
  obtain ⟨b1, b2, b3, b4⟩ := seg_in ok (h := h') (by omega) h1
  have va := vol_seg ok h0 (by omega)
  have vb := vol_seg ok (h := h') (by omega) h1
  by_cases e : seg hs h = seg hs h'
  · obtain ⟨k1, k2, k3, k4, k5⟩ := tank_ok ok
    have hd := (k5 (seg hs h' + 1) (by omega) b1).1
    simp only [Nat.add_sub_cancel] at hd
    have hl := lit_mono ok (i := seg hs h') (j := seg hs h' + 1) (by omega) b1
    unfold volLo volHi
    rw [e]
    have hm : (gi ls (seg hs h' + 1) - gi ls (seg hs h')) * (h - gi hs (seg hs h')) ≤ (gi ls (seg hs h' + 1) - gi ls (seg hs h')) * (h' - gi hs (seg hs h')) := Int.mul_le_mul_of_nonneg_left (by omega) (by omega)
    have q1 := Int.ediv_le_ediv (c := gi hs (seg hs h' + 1) - gi hs (seg hs h')) (by omega) hm
    have q2 := upD_le (d := gi hs (seg hs h' + 1) - gi hs (seg hs h')) (by omega) hm
    omega
  · have hlt : seg hs h < seg hs h' := by
      rcases Nat.lt_or_ge (seg hs h) (seg hs h') with q | q
      · exact q
      · have := a4 (seg hs h') (by omega)
        omega
    have := lit_mono ok (i := seg hs h + 1) (j := seg hs h') (by omega) (by omega)
    omega
/-- What truly is in a tank lies between the two numbers. -/
theorem vol_true {h : Int} (h0 : gi hs 0 ≤ h) (h1 : h ≤ gi hs (hs.length - 1)) :
    volLo hs ls h * (gi hs (seg hs h + 1) - gi hs (seg hs h)) ≤ gi ls (seg hs h) * (gi hs (seg hs h + 1) - gi hs (seg hs h)) + (gi ls (seg hs h + 1) - gi ls (seg hs h)) * (h - gi hs (seg hs h)) ∧
    gi ls (seg hs h) * (gi hs (seg hs h + 1) - gi hs (seg hs h)) + (gi ls (seg hs h + 1) - gi ls (seg hs h)) * (h - gi hs (seg hs h)) ≤ volHi hs ls h * (gi hs (seg hs h + 1) - gi hs (seg hs h)) := by
  obtain ⟨s1, s2, s3, _⟩ := seg_in ok h0 h1
  obtain ⟨k1, k2, k3, k4, k5⟩ := tank_ok ok
  have hd := (k5 (seg hs h + 1) (by omega) s1).1
  simp only [Nat.add_sub_cancel] at hd
  unfold volLo volHi
  generalize gi hs (seg hs h) = a at *
  generalize gi hs (seg hs h + 1) = b at *
  generalize gi ls (seg hs h) = x at *
  generalize (gi ls (seg hs h + 1) - x) * (h - a) = m at *
  have hp : 0 < b - a := by omega
  have q1 := Int.ediv_mul_le m (Int.ne_of_gt hp)
  have q2 := upD_mul (n := m) hp
  rw [Int.add_mul, Int.add_mul]
  omega
end

/-! ### standard litres -/
theorem lin_bd {k x y z : Int} (h1 : x ≤ y) (h2 : y ≤ z) : min (k * x) (k * z) ≤ k * y ∧ k * y ≤ max (k * x) (k * z) := by
  rcases Int.le_total 0 k with hk | hk
  · have a := Int.mul_le_mul_of_nonneg_left h1 hk
    have b := Int.mul_le_mul_of_nonneg_left h2 hk
    omega
  · have a := Int.mul_le_mul_of_nonpos_left hk h1
    have b := Int.mul_le_mul_of_nonpos_left hk h2
    omega
theorem corner_bd {c d e f q p : Int} (h1 : c ≤ q) (h2 : q ≤ d) (h3 : e ≤ p) (h4 : p ≤ f) :
    mn4 (c * (e - 150)) (c * (f - 150)) (d * (e - 150)) (d * (f - 150)) ≤ q * (p - 150) ∧ q * (p - 150) ≤ mx4 (c * (e - 150)) (c * (f - 150)) (d * (e - 150)) (d * (f - 150)) := by
  have a := lin_bd (k := q) (show e - 150 ≤ p - 150 by omega) (show p - 150 ≤ f - 150 by omega)
  have b := lin_bd (k := e - 150) h1 h2
  have g := lin_bd (k := f - 150) h1 h2
  rw [Int.mul_comm (e - 150) c, Int.mul_comm (e - 150) d, Int.mul_comm (e - 150) q] at b
  rw [Int.mul_comm (f - 150) c, Int.mul_comm (f - 150) d, Int.mul_comm (f - 150) q] at g
  unfold mn4 mx4
  omega
theorem corner_in {c d e f c' d' e' f' : Int} (h1 : c ≤ c') (h2 : c' ≤ d') (h3 : d' ≤ d) (h4 : e ≤ e') (h5 : e' ≤ f') (h6 : f' ≤ f) :
    mn4 (c * (e - 150)) (c * (f - 150)) (d * (e - 150)) (d * (f - 150)) ≤ mn4 (c' * (e' - 150)) (c' * (f' - 150)) (d' * (e' - 150)) (d' * (f' - 150)) ∧
    mx4 (c' * (e' - 150)) (c' * (f' - 150)) (d' * (e' - 150)) (d' * (f' - 150)) ≤ mx4 (c * (e - 150)) (c * (f - 150)) (d * (e - 150)) (d * (f - 150)) := by
  have a := corner_bd (c := c) (d := d) (e := e) (f := f) (q := c') (p := e') h1 (by omega) h4 (by omega)
  have b := corner_bd (c := c) (d := d) (e := e) (f := f) (q := c') (p := f') h1 (by omega) (by omega) h6
  have g := corner_bd (c := c) (d := d) (e := e) (f := f) (q := d') (p := e') (by omega) h3 h4 (by omega)
  have k := corner_bd (c := c) (d := d) (e := e) (f := f) (q := d') (p := f') (by omega) h3 (by omega) h6
  generalize mn4 (c * (e - 150)) (c * (f - 150)) (d * (e - 150)) (d * (f - 150)) = x at *
  generalize mx4 (c * (e - 150)) (c * (f - 150)) (d * (e - 150)) (d * (f - 150)) = y at *
  unfold mn4 mx4
  omega
theorem mx4_bd {c d e f : Int} (h1 : 0 ≤ c) (h2 : c ≤ d) (h3 : d ≤ 200) (h4 : -1000 ≤ e) (h5 : e ≤ f) (h6 : f ≤ 1000) :
    (-230000 ≤ mn4 (c * (e - 150)) (c * (f - 150)) (d * (e - 150)) (d * (f - 150)) ∧ mx4 (c * (e - 150)) (c * (f - 150)) (d * (e - 150)) (d * (f - 150)) ≤ 230000) ∧
    mn4 (c * (e - 150)) (c * (f - 150)) (d * (e - 150)) (d * (f - 150)) ≤ mx4 (c * (e - 150)) (c * (f - 150)) (d * (e - 150)) (d * (f - 150)) := by
  have a := prod_bd (c := c) (e := e) h1 (by omega) h4 (by omega)
  have b := prod_bd (c := c) (e := f) h1 (by omega) (by omega) h6
  have g := prod_bd (c := d) (e := e) (by omega) h3 h4 (by omega)
  have k := prod_bd (c := d) (e := f) (by omega) h3 (by omega) h6
  unfold mn4 mx4
  omega
/-- Narrower spans have no wider standard litres. -/
theorem std_in {a b c d e f a' b' c' d' e' f' : Int} (x0 : 0 ≤ a) (x1 : a ≤ a') (x2 : b' ≤ b) (x3 : a' ≤ b') (h1 : c ≤ c') (h2 : c' ≤ d') (h3 : d' ≤ d) (h4 : e ≤ e') (h5 : e' ≤ f') (h6 : f' ≤ f) (g1 : 0 ≤ c) (g3 : d ≤ 200) (g4 : -1000 ≤ e) (g6 : f ≤ 1000) :
    stdLo a c d e f ≤ stdLo a' c' d' e' f' ∧ stdHi b' c' d' e' f' ≤ stdHi b c d e f := by
  have hc := corner_in h1 h2 h3 h4 h5 h6
  have hb := mx4_bd (c := c) (d := d) (e := e) (f := f) g1 (by omega) g3 g4 (by omega) g6
  have hb' := mx4_bd (c := c') (d := d') (e := e') (f := f') (by omega) h2 (by omega) (by omega) h5 (by omega)
  unfold stdLo stdHi
  generalize mx4 (c * (e - 150)) (c * (f - 150)) (d * (e - 150)) (d * (f - 150)) = M at *
  generalize mn4 (c * (e - 150)) (c * (f - 150)) (d * (e - 150)) (d * (f - 150)) = m at *
  generalize mx4 (c' * (e' - 150)) (c' * (f' - 150)) (d' * (e' - 150)) (d' * (f' - 150)) = M' at *
  generalize mn4 (c' * (e' - 150)) (c' * (f' - 150)) (d' * (e' - 150)) (d' * (f' - 150)) = m' at *
  have p1 : a * (1000000 - M) ≤ a' * (1000000 - M') := Int.mul_le_mul x1 (by omega) (by omega) (by omega)
  have p2 : b' * (1000000 - m') ≤ b * (1000000 - m) := Int.mul_le_mul x2 (by omega) (by omega) (by omega)
  exact ⟨Int.ediv_le_ediv (by omega) p1, upD_le (by omega) p2⟩
/-- What standard litres truly are lies between the two numbers. -/
theorem std_true {a b c d e f v q p : Int} (x0 : 0 ≤ a) (x1 : a ≤ v) (x2 : v ≤ b) (h1 : c ≤ q) (h2 : q ≤ d) (h4 : e ≤ p) (h5 : p ≤ f) (g1 : 0 ≤ c) (g3 : d ≤ 200) (g4 : -1000 ≤ e) (g6 : f ≤ 1000) :
    stdLo a c d e f * 1000000 ≤ v * (1000000 - q * (p - 150)) ∧ v * (1000000 - q * (p - 150)) ≤ stdHi b c d e f * 1000000 := by
  have hc := corner_bd h1 h2 h4 h5
  have hb := mx4_bd (c := c) (d := d) (e := e) (f := f) g1 (by omega) g3 g4 (by omega) g6
  unfold stdLo stdHi
  generalize mx4 (c * (e - 150)) (c * (f - 150)) (d * (e - 150)) (d * (f - 150)) = M at *
  generalize mn4 (c * (e - 150)) (c * (f - 150)) (d * (e - 150)) (d * (f - 150)) = m at *
  generalize q * (p - 150) = u at *
  have p1 : a * (1000000 - M) ≤ v * (1000000 - u) := Int.mul_le_mul x1 (by omega) (by omega) (by omega)
  have p2 : v * (1000000 - u) ≤ b * (1000000 - m) := Int.mul_le_mul x2 (by omega) (by omega) (by omega)
  have q1 := Int.ediv_mul_le (a * (1000000 - M)) (show (1000000 : Int) ≠ 0 by omega)
  have q2 := upD_mul (n := b * (1000000 - m)) (d := 1000000) (by omega)
  omega
theorem std_bd {a b c d e f : Int} (x0 : 0 ≤ a) (x1 : a ≤ b) (x2 : b ≤ 1000000000) (h1 : 0 ≤ c) (h2 : c ≤ d) (h3 : d ≤ 200) (h4 : -1000 ≤ e) (h5 : e ≤ f) (h6 : f ≤ 1000) :
    (0 ≤ stdLo a c d e f ∧ stdLo a c d e f ≤ 2000000000) ∧ 0 ≤ stdHi b c d e f ∧ stdHi b c d e f ≤ 2000000000 := by
  have hb := mx4_bd h1 h2 h3 h4 h5 h6
  unfold stdLo stdHi
  generalize mx4 (c * (e - 150)) (c * (f - 150)) (d * (e - 150)) (d * (f - 150)) = M at *
  generalize mn4 (c * (e - 150)) (c * (f - 150)) (d * (e - 150)) (d * (f - 150)) = m at *
  have p1 := mul_bd' (x := a) (y := 1000000 - M) (a := 1000000000) (b := 1230000) x0 (by omega) (by omega) (by omega)
  have p2 := mul_bd' (x := b) (y := 1000000 - m) (a := 1000000000) (b := 1230000) (by omega) (by omega) (by omega) (by omega)
  have q2 := upD_top (n := b * (1000000 - m)) (d := 1000000) (k := 2000000000) (by omega) (by omega)
  have q3 := floor_le_up (n := b * (1000000 - m)) (d := 1000000) (by omega)
  omega
end Go.Proofs.Ytfifldbinnkdmaa
