/- frost, in plain numbers: a day of true ice lies within what is known, and the reference says the same as the code. -/
import Derived.Test.YthblaiefalbomaaF18
set_option linter.unusedVariables false
set_option linter.unusedSimpArgs false
set_option linter.unnecessarySimpa false
namespace Go.Proofs.Ythblaiefalbomaa
open Go.RowKit
set_option maxRecDepth 100000

def lowT (x : Ice) : Tr := ⟨x.bl.lo, x.wh.lo, x.we.lo, x.sn.lo⟩
def hiT (x : Ice) : Tr := ⟨x.bl.hi, x.wh.hi, x.we.hi, x.sn.hi⟩
theorem opn_low (l : Fro) (x : Ice) (d : Wea) : opn l (lowT x) d d.fall.lo = lowT (cvd l x d) := by
  unfold opn cvd lowT
  split <;> rfl
theorem opn_hi (l : Fro) (x : Ice) (d : Wea) : opn l (hiT x) d d.fall.hi = hiT (cvd l x d) := by
  unfold opn cvd hiT
  split <;> rfl
theorem lowT_K {x : Ice} {k m : Int} (h : IceK x k m) : TrK (lowT x) k m := ⟨h.bl.1, h.wh.1, h.we.1, h.sn.1, h.sum.1⟩
theorem hiT_K {x : Ice} {k m : Int} (h : IceK x k m) : TrK (hiT x) k m := ⟨h.bl.2, h.wh.2, h.we.2, h.sn.2, h.sum.2⟩
/-- The reference's cold day, warm day, day. -/
noncomputable def rcold (l : Fro) (low high : Tr) (a b : Int) : Ice :=
  ⟨⟨(frT l ⟨low.bl, high.wh, high.we, 0⟩ (thC l high.sn a).lo false).bl, (frT l ⟨high.bl, low.wh, low.we, 0⟩ (thC l low.sn b).hi true).bl⟩, ⟨(frT l low (thC l high.sn a).lo false).wh, (frT l high (thC l low.sn b).hi true).wh⟩,
   ⟨(frT l low (thC l low.sn b).hi false).we, (frT l high (thC l high.sn a).lo false).we⟩, ⟨low.sn, high.sn⟩⟩
def rwarm (l : Fro) (low high : Tr) (a b : Int) : Ice :=
  ⟨⟨(mlT low (thW l b).hi).bl, (mlT high (thW l a).lo).bl⟩, ⟨(mlT low (thW l b).hi).wh, (mlT high (thW l a).lo).wh⟩, ⟨(mlT low (thW l b).hi).we, (mlT high (thW l a).lo).we⟩, ⟨(mlT low (thW l b).hi).sn, (mlT high (thW l a).lo).sn⟩⟩
noncomputable def rstep (l : Fro) (x : Ice) (d : Wea) : Ice :=
  if 0 ≤ d.cold.lo then rcold l (opn l (lowT x) d d.fall.lo) (opn l (hiT x) d d.fall.hi) d.cold.lo d.cold.hi
  else if d.cold.hi < 0 then rwarm l (opn l (lowT x) d d.fall.lo) (opn l (hiT x) d d.fall.hi) (-d.cold.hi) (-d.cold.lo)
  else jnd (rcold l (opn l (lowT x) d d.fall.lo) (opn l (hiT x) d d.fall.hi) 0 d.cold.hi) (rwarm l (opn l (lowT x) d d.fall.lo) (opn l (hiT x) d d.fall.hi) 1 (-d.cold.lo))
theorem frT_bl {l : Fro} {t : Tr} {c : Int} {up : Bool} : (frT l t c up).bl = if t.we ≤ c / l.la then (if up = true then roof else root) ((t.bl + (t.wh + t.we)) * (t.bl + (t.wh + t.we)) + l.gr * (c - t.we * l.la)) - (t.wh + t.we) else t.bl := by
  unfold frT frZ
  by_cases h : t.we ≤ c / l.la
  · rw [if_neg (by omega), if_pos h, show min t.we (c / l.la) = t.we by omega]
    cases up <;> rfl
  · rw [if_pos (by omega), if_neg h]
theorem frT_wh {l : Fro} {t : Tr} {c : Int} {up : Bool} : (frT l t c up).wh = t.wh + min t.we (c / l.la) := by
  unfold frT frZ
  split <;> rfl
theorem frT_we {l : Fro} {t : Tr} {c : Int} {up : Bool} : (frT l t c up).we = t.we - min t.we (c / l.la) := by
  unfold frT frZ
  split <;> rfl
theorem frT_sn {l : Fro} {t : Tr} {c : Int} {up : Bool} : (frT l t c up).sn = t.sn := by
  unfold frT frZ
  split <;> rfl
theorem Ice.eqs {a b : Ice} (h1 : a.bl.lo = b.bl.lo) (h2 : a.bl.hi = b.bl.hi) (h3 : a.wh.lo = b.wh.lo) (h4 : a.wh.hi = b.wh.hi) (h5 : a.we.lo = b.we.lo) (h6 : a.we.hi = b.we.hi) (h7 : a.sn.lo = b.sn.lo) (h8 : a.sn.hi = b.sn.hi) : a = b := by
  obtain ⟨⟨_, _⟩, ⟨_, _⟩, ⟨_, _⟩, _, _⟩ := a
  obtain ⟨⟨_, _⟩, ⟨_, _⟩, ⟨_, _⟩, _, _⟩ := b
  simp_all
theorem rcold_eq (l : Fro) (y : Ice) (c : Sp) : rcold l (lowT y) (hiT y) c.lo c.hi = frz l y c := by
  refine Ice.eqs ?_ ?_ ?_ ?_ ?_ ?_ rfl rfl
  · exact frT_bl
  · exact frT_bl
  · exact frT_wh
  · exact frT_wh
  · refine frT_we.trans ?_; show _ = max 0 (_ - _); show y.we.lo - min y.we.lo (manyC l y c / l.la) = _; omega
  · refine frT_we.trans ?_; show _ = max 0 (_ - _); show y.we.hi - min y.we.hi (fewC l y c / l.la) = _; omega
theorem mlT_eq {t : Tr} {n : Int} (h : (0 ≤ t.bl ∧ 0 ≤ t.wh) ∧ 0 ≤ t.sn ∧ 0 ≤ n) : mlT t n = ⟨max 0 (t.bl - max 0 (max 0 (n - t.sn) - t.wh)), max 0 (t.wh - max 0 (n - t.sn)), t.we, max 0 (t.sn - n)⟩ := by
  unfold mlT
  congr 1 <;> omega
theorem rwarm_eq {l : Fro} {y : Ice} {c : Sp} {k m : Int} (hL : LawOk l) (hy : IceK y k m) (hc : -1000 ≤ c.lo ∧ c.lo ≤ c.hi ∧ c.hi < 0) : rwarm l (lowT y) (hiT y) (-c.hi) (-c.lo) = mlt l y c := by
  have hm := hL.melt
  have f1 := dn_bd7 (n := -c.hi) (p := l.melt.lo) (by omega) (by omega) (by omega)
  have f2 := up_bd7 (n := -c.lo) (p := l.melt.hi) (by omega) (by omega) (by omega)
  have e1 : mlT (lowT y) (thW l (-c.lo)).hi = _ := mlT_eq ⟨⟨hy.bl.1.1, hy.wh.1.1⟩, hy.sn.1, f2.1⟩
  have e2 : mlT (hiT y) (thW l (-c.hi)).lo = _ := mlT_eq ⟨⟨hy.bl.2.1, hy.wh.2.1⟩, hy.sn.2, f1.1⟩
  unfold rwarm
  rw [e1, e2]
  rfl
theorem rstep_eq {l : Fro} {x : Ice} {d : Wea} {k : Int} (hL : LawOk l) (hx : IceK x k k) (hd : WeaOk d) : rstep l x d = aft l x d := by
  have h1 := cvd_K hL hx hd
  have hc := hd.cold
  unfold rstep aft
  rw [opn_low, opn_hi]
  split
  · exact rcold_eq l _ _
  · split
    · exact rwarm_eq hL h1 ⟨by omega, by omega, by assumption⟩
    · have a := rcold_eq l (cvd l x d) ⟨0, d.cold.hi⟩
      have b := rwarm_eq (c := ⟨d.cold.lo, -1⟩) hL h1 ⟨by show -1000 ≤ d.cold.lo; omega, by show d.cold.lo ≤ -1; omega, by show (-1 : Int) < 0; omega⟩
      show jnd (rcold l _ _ (⟨0, d.cold.hi⟩ : Sp).lo (⟨0, d.cold.hi⟩ : Sp).hi) (rwarm l _ _ (-(⟨d.cold.lo, -1⟩ : Sp).hi) (-(⟨d.cold.lo, -1⟩ : Sp).lo)) = _
      rw [a, b]

/-! ### covers keep the less cold out the less snow there is -/
def spLe (a b : Sp) : Prop := a.lo ≤ b.lo ∧ a.hi ≤ b.hi
def Falls : List Cov → Prop := List.Pairwise fun a b => spLe b.pt a.pt
theorem thrF_mono {s s' : Int} (hs : s ≤ s') : ∀ (cs : List Cov) (p p' : Sp), Falls cs → (∀ c ∈ cs, spLe c.pt p ∧ spLe c.pt p') → spLe p' p → spLe (thrF s' p' cs) (thrF s p cs)
  | [], p, p', _, _, h => h
  | c :: cs, p, p', hf, hp, h => by
    unfold Falls at hf
    rw [List.pairwise_cons] at hf
    unfold thrF
    by_cases h1 : c.dp ≤ s
    · rw [if_pos h1, if_pos (by omega)]
      exact thrF_mono hs cs _ _ hf.2 (fun c' hc' => ⟨hf.1 c' hc', hf.1 c' hc'⟩) ⟨Int.le_refl _, Int.le_refl _⟩
    · rw [if_neg h1]
      split
      · exact thrF_mono hs cs _ _ hf.2 (fun c' hc' => ⟨(hp c' (.tail _ hc')).1, hf.1 c' hc'⟩) (hp c (.head _)).1
      · exact thrF_mono hs cs _ _ hf.2 (fun c' hc' => hp c' (.tail _ hc')) h
theorem thr_mono {cs : List Cov} (hf : Falls cs) {s s' : Int} (hs : s ≤ s') : spLe (thr cs s') (thr cs s) := by
  have hr : ∀ a : Sp, spLe a a := fun a => ⟨Int.le_refl _, Int.le_refl _⟩
  refine thrF_mono hs cs _ _ hf (fun c hc => ?_) (hr _)
  cases cs with
  | nil => cases hc
  | cons c0 cs =>
    rcases List.mem_cons.1 hc with rfl | hc
    · exact ⟨hr _, hr _⟩
    · have := (List.pairwise_cons.1 hf).1 c hc; exact ⟨this, this⟩
theorem covErr_falls : ∀ (cs : List Cov) (p : Option Cov), covErr p cs = 0 → Falls cs ∧ ∀ q, p = some q → ∀ c ∈ cs, spLe c.pt q.pt
  | [], _, _ => ⟨.nil, fun _ _ c h => by cases h⟩
  | c :: cs, p, h => by
    unfold covErr at h
    split at h
    · cases h
    · split at h
      · cases h
      · split at h
        · contradiction
        · split at h
          · cases h
          · rename_i h4
            obtain ⟨a, b⟩ := covErr_falls cs _ h
            have b' := b c rfl
            refine ⟨List.pairwise_cons.2 ⟨b', a⟩, fun q hq c' hc' => ?_⟩
            subst hq
            simp only [moreB, decide_eq_true_eq] at h4
            have h0 : spLe c.pt q.pt := ⟨by omega, by omega⟩
            rcases List.mem_cons.1 hc' with rfl | hc'
            · exact h0
            · have := b' c' hc'; exact ⟨Int.le_trans this.1 h0.1, Int.le_trans this.2 h0.2⟩
theorem lawFalls {l : Fro} (h : froErr l = 0) : Falls l.cov := by
  unfold froErr at h
  split at h
  · cases h
  · split at h
    · contradiction
    · rename_i h2
      have h2' := Classical.not_not.1 h2
      unfold covsE at h2'
      split at h2'
      · cases h2'
      · split at h2'
        · cases h2'
        · exact (covErr_falls _ _ h2').1

/-! ### true ice within -/
def inI (t : Tr) (x : Ice) : Prop := ((x.bl.lo ≤ t.bl ∧ t.bl ≤ x.bl.hi) ∧ x.wh.lo ≤ t.wh ∧ t.wh ≤ x.wh.hi) ∧ (x.we.lo ≤ t.we ∧ t.we ≤ x.we.hi) ∧ x.sn.lo ≤ t.sn ∧ t.sn ≤ x.sn.hi
theorem dn_mono {n n' p p' : Int} (h0 : 0 ≤ n) (h : n ≤ n') (h1 : 0 ≤ p) (hp : p ≤ p') : dn n p ≤ dn n' p' := by
  unfold dn
  have h2 : n * p ≤ n' * p' := Int.mul_le_mul h hp h1 (by omega)
  exact Int.ediv_le_ediv (by omega) h2
theorem upp_mono {n n' p p' : Int} (h0 : 0 ≤ n) (h : n ≤ n') (h1 : 0 ≤ p) (hp : p ≤ p') : upp n p ≤ upp n' p' := by
  unfold upp
  have h2 : n * p ≤ n' * p' := Int.mul_le_mul h hp h1 (by omega)
  exact Int.ediv_le_ediv (by omega) (by omega)
theorem dn_le_upp {n p : Int} : dn n p ≤ upp n p := by
  unfold dn upp
  exact Int.ediv_le_ediv (by omega) (by omega)
theorem opn_in {l : Fro} {t : Tr} {x : Ice} {d : Wea} {f : Int} (hL : LawOk l) (h : inI t x) (hs : 0 ≤ x.sn.lo) (hf : d.fall.lo ≤ f ∧ f ≤ d.fall.hi) (hf0 : 0 ≤ d.fall.lo) : inI (opn l t d f) (cvd l x d) := by
  obtain ⟨⟨a, b⟩, c, e⟩ := h
  have hk := hL.soak
  unfold opn cvd
  have h1 : (if d.clear = true then 0 else x.sn.lo) ≤ (if d.clear = true then 0 else t.sn) ∧ (if d.clear = true then 0 else t.sn) ≤ (if d.clear = true then 0 else x.sn.hi) ∧ 0 ≤ (if d.clear = true then 0 else x.sn.lo) := by split <;> omega
  generalize (if d.clear = true then 0 else x.sn.lo) = s1 at *
  generalize (if d.clear = true then 0 else x.sn.hi) = s2 at *
  generalize (if d.clear = true then 0 else t.sn) = s3 at *
  have m1 := dn_mono (n := s1 + d.fall.lo) (n' := s3 + f) (p := l.soak) (p' := l.soak) (by omega) (by omega) (by omega) (Int.le_refl _)
  have m2 := dn_mono (n := s3 + f) (n' := s2 + d.fall.hi) (p := l.soak) (p' := l.soak) (by omega) (by omega) (by omega) (Int.le_refl _)
  split
  · exact ⟨⟨a, b⟩, ⟨by show x.we.lo + d.water + _ ≤ t.we + d.water + _; omega, by show t.we + d.water + _ ≤ x.we.hi + d.water + _; omega⟩, Int.le_refl _, Int.le_refl _⟩
  · exact ⟨⟨a, b⟩, c, by show s1 + _ ≤ s3 + f; omega, by show s3 + f ≤ s2 + _; omega⟩
/-- How black ice grows: the more there is, the less above, the more cold. -/
theorem root_shift {h e d : Int} (h0 : 0 ≤ h) (he : 0 ≤ e) (hd : 0 ≤ d) : root ((h + d) * (h + d) + e) ≤ root (h * h + e) + d := by
  have hp : 0 ≤ h * h := Int.mul_nonneg h0 h0
  have hp2 : 0 ≤ (h + d) * (h + d) := Int.mul_nonneg (by omega) (by omega)
  obtain ⟨a1, a2, a3⟩ := root_is (n := h * h + e) (by omega)
  obtain ⟨b1, b2, b3⟩ := root_is (n := (h + d) * (h + d) + e) (by omega)
  have hr : h ≤ root (h * h + e) := by
    have := root_mono (a := h * h) (b := h * h + e) (by omega) hp
    rwa [root_sq h0] at this
  rcases Int.lt_or_le (root (h * h + e) + d) (root ((h + d) * (h + d) + e)) with h1 | h1
  · exfalso
    generalize root (h * h + e) = r at *
    have h2 := sq_lt (a := r + 1 + d) (b := root ((h + d) * (h + d) + e)) (by omega) (by omega)
    have e1 : (r + 1 + d) * (r + 1 + d) = (r + 1) * (r + 1) + (2 * (r * d) + 2 * d + d * d) := by
      simp only [Int.add_mul, Int.mul_add, Int.one_mul, Int.mul_one, Int.mul_comm d r]; omega
    have e2 : (h + d) * (h + d) = h * h + (2 * (h * d) + d * d) := by
      simp only [Int.add_mul, Int.mul_add, Int.mul_comm d h]; omega
    have e3 : h * d ≤ r * d := Int.mul_le_mul_of_nonneg_right hr hd
    omega
  · exact h1
theorem roof_sq {n : Int} (h : 0 ≤ n) : 0 ≤ roof n ∧ n ≤ roof n * roof n := by
  obtain ⟨a1, a2, a3⟩ := root_is h
  unfold roof
  split
  · exact ⟨by omega, by omega⟩
  · exact ⟨by omega, by omega⟩
theorem roof_le {n r : Int} (h : 0 ≤ n) (hr : 0 ≤ r) (hn : n ≤ r * r) : roof n ≤ r := by
  obtain ⟨a1, a2, a3⟩ := root_is h
  have h1 : root n ≤ r := by
    rcases Int.lt_or_le r (root n) with h2 | h2
    · have := sq_lt (a := r + 1) (b := root n) (by omega) (by omega)
      have e : (r + 1) * (r + 1) = r * r + 2 * r + 1 := by simp only [Int.add_mul, Int.mul_add, Int.one_mul, Int.mul_one]; omega
      omega
    · exact h2
  unfold roof
  split
  · rcases Int.lt_or_eq_of_le h1 with h2 | h2
    · omega
    · rw [← h2] at hn; omega
  · exact h1
theorem root_le_roof (n : Int) : root n ≤ roof n := by
  unfold roof
  split <;> omega
theorem roof_mono {a b : Int} (h : a ≤ b) (h0 : 0 ≤ a) : roof a ≤ roof b := by
  have := roof_sq (n := b) (by omega)
  exact roof_le h0 this.1 (by omega)
theorem roof_shift {h e d : Int} (h0 : 0 ≤ h) (he : 0 ≤ e) (hd : 0 ≤ d) : roof ((h + d) * (h + d) + e) ≤ roof (h * h + e) + d := by
  have hp : 0 ≤ h * h := Int.mul_nonneg h0 h0
  have hp2 : 0 ≤ (h + d) * (h + d) := Int.mul_nonneg (by omega) (by omega)
  obtain ⟨a1, a2⟩ := roof_sq (n := h * h + e) (by omega)
  have hr : h ≤ roof (h * h + e) := by
    have := root_mono (a := h * h) (b := h * h + e) (by omega) hp
    rw [root_sq h0] at this
    exact Int.le_trans this (root_le_roof _)
  generalize roof (h * h + e) = r at *
  refine roof_le (by omega) (by omega) ?_
  have e1 : (r + d) * (r + d) = r * r + (2 * (r * d) + d * d) := by simp only [Int.add_mul, Int.mul_add, Int.mul_comm d r]; omega
  have e2 : (h + d) * (h + d) = h * h + (2 * (h * d) + d * d) := by simp only [Int.add_mul, Int.mul_add, Int.mul_comm d h]; omega
  have e3 : h * d ≤ r * d := Int.mul_le_mul_of_nonneg_right hr hd
  omega
/-- What grows, by either root. -/
structure RootLike (R : Int → Int) : Prop where
  mono : ∀ a b, a ≤ b → 0 ≤ a → R a ≤ R b
  shift : ∀ h e d, 0 ≤ h → 0 ≤ e → 0 ≤ d → R ((h + d) * (h + d) + e) ≤ R (h * h + e) + d
  up : ∀ h e, 0 ≤ h → 0 ≤ e → h ≤ R (h * h + e)
theorem rl_root : RootLike root := ⟨fun _ _ => root_mono, fun _ _ _ => root_shift, fun h e h0 he => by
  have hp : 0 ≤ h * h := Int.mul_nonneg h0 h0
  have := root_mono (a := h * h) (b := h * h + e) (by omega) hp
  rwa [root_sq h0] at this⟩
theorem rl_roof : RootLike roof := ⟨fun _ _ => roof_mono, fun _ _ _ => roof_shift, fun h e h0 he => Int.le_trans (rl_root.up h e h0 he) (root_le_roof _)⟩
theorem grow_le {R : Int → Int} (hR : RootLike R) {b b' a a' e e' : Int} (hb : 0 ≤ b ∧ b ≤ b') (ha : 0 ≤ a' ∧ a' ≤ a) (he : 0 ≤ e ∧ e ≤ e') : R ((b + a) * (b + a) + e) - a ≤ R ((b' + a') * (b' + a') + e') - a' := by
  have h1 : (b + a) * (b + a) ≤ (b' + a) * (b' + a) := sq_lt (by omega) (by omega)
  have h2 : 0 ≤ (b + a) * (b + a) := Int.mul_nonneg (by omega) (by omega)
  have h3 := hR.mono ((b + a) * (b + a) + e) ((b' + a) * (b' + a) + e') (by omega) (by omega)
  have h4 := hR.shift (b' + a') e' (a - a') (by omega) (by omega) (by omega)
  rw [show b' + a' + (a - a') = b' + a by omega] at h4
  omega
theorem ediv_le {a b c : Int} (hc : 1 ≤ c) (h : a ≤ b) : a / c ≤ b / c := Int.ediv_le_ediv (by omega) h
theorem frT_in {l : Fro} {t : Tr} {y : Ice} {cs : Sp} {c k m : Int} {up : Bool} (hL : LawOk l) (hy : IceK y k m) (h : inI t y) (hf : 0 ≤ fewC l y cs) (hc : fewC l y cs ≤ c ∧ c ≤ manyC l y cs) : inI (frT l t c up) (frz l y cs) := by
  obtain ⟨⟨⟨a1, a2⟩, b1, b2⟩, ⟨c1, c2⟩, s1, s2⟩ := h
  obtain ⟨⟨⟨x1, x2⟩, x3, x4⟩, ⟨⟨x5, x6⟩, x7, x8⟩, ⟨x9, xa⟩, ⟨xb, xc⟩, _⟩ := hy
  have hla := hL.la
  have hg := hL.gr
  have q1 := ediv_le hla.1 hc.1
  have q2 := ediv_le hla.1 hc.2
  have q0 := div_nn hla.1 hf
  have R1 : RootLike (if up = true then roof else root) := by cases up <;> first | exact rl_root | exact rl_roof
  refine ⟨⟨⟨?_, ?_⟩, ?_, ?_⟩, ⟨?_, ?_⟩, ?_, ?_⟩
  · rw [frT_bl]
    show (if y.we.hi ≤ fewC l y cs / l.la then grw l y.bl.lo y.wh.hi y.we.hi (fewC l y cs) root else y.bl.lo) ≤ _
    by_cases h1 : t.we ≤ c / l.la
    · rw [if_pos h1]
      have m1 : t.we * l.la ≤ c := mul_of_div hla.1 h1
      have m0 : 0 ≤ l.gr * (c - t.we * l.la) := Int.mul_nonneg hg.1 (by omega)
      split
      · rename_i h2
        have m2 : y.we.hi * l.la ≤ fewC l y cs := mul_of_div hla.1 h2
        have m3 : t.we * l.la ≤ y.we.hi * l.la := Int.mul_le_mul_of_nonneg_right c2 (by omega)
        have m4 : 0 ≤ l.gr * (fewC l y cs - y.we.hi * l.la) := Int.mul_nonneg hg.1 (by omega)
        have m5 : l.gr * (fewC l y cs - y.we.hi * l.la) ≤ l.gr * (c - t.we * l.la) := Int.mul_le_mul_of_nonneg_left (by omega) hg.1
        have := grow_le rl_root (b := y.bl.lo) (b' := t.bl) (a := y.wh.hi + y.we.hi) (a' := t.wh + t.we) (e := l.gr * (fewC l y cs - y.we.hi * l.la)) (e' := l.gr * (c - t.we * l.la)) ⟨by omega, by omega⟩ ⟨by omega, by omega⟩ ⟨m4, m5⟩
        refine Int.le_trans this ?_
        cases up
        · exact Int.le_refl _
        · have := root_le_roof ((t.bl + (t.wh + t.we)) * (t.bl + (t.wh + t.we)) + l.gr * (c - t.we * l.la))
          show _ ≤ roof _ - _
          omega
      · have := R1.up (t.bl + (t.wh + t.we)) (l.gr * (c - t.we * l.la)) (by omega) m0
        omega
    · have h3 : ¬ y.we.hi ≤ fewC l y cs / l.la := by omega
      rw [if_neg h1, if_neg h3]
      exact a1
  · rw [frT_bl]
    show _ ≤ (if y.we.lo ≤ manyC l y cs / l.la then grw l y.bl.hi y.wh.lo y.we.lo (manyC l y cs) roof else y.bl.hi)
    by_cases h1 : t.we ≤ c / l.la
    · have h3 : y.we.lo ≤ manyC l y cs / l.la := by omega
      rw [if_pos h1, if_pos h3]
      have m1 : t.we * l.la ≤ c := mul_of_div hla.1 h1
      have m0 : 0 ≤ l.gr * (c - t.we * l.la) := Int.mul_nonneg hg.1 (by omega)
      have m3 : y.we.lo * l.la ≤ t.we * l.la := Int.mul_le_mul_of_nonneg_right c1 (by omega)
      have m5 : l.gr * (c - t.we * l.la) ≤ l.gr * (manyC l y cs - y.we.lo * l.la) := Int.mul_le_mul_of_nonneg_left (by omega) hg.1
      have := grow_le rl_roof (b := t.bl) (b' := y.bl.hi) (a := t.wh + t.we) (a' := y.wh.lo + y.we.lo) (e := l.gr * (c - t.we * l.la)) (e' := l.gr * (manyC l y cs - y.we.lo * l.la)) ⟨by omega, by omega⟩ ⟨by omega, by omega⟩ ⟨m0, m5⟩
      refine Int.le_trans ?_ this
      cases up
      · have := root_le_roof ((t.bl + (t.wh + t.we)) * (t.bl + (t.wh + t.we)) + l.gr * (c - t.we * l.la))
        show root _ - _ ≤ _
        omega
      · exact Int.le_refl _
    · rw [if_neg h1]
      split
      · rename_i h2
        have m2 : y.we.lo * l.la ≤ manyC l y cs := mul_of_div hla.1 h2
        have := rl_roof.up (y.bl.hi + (y.wh.lo + y.we.lo)) (l.gr * (manyC l y cs - y.we.lo * l.la)) (by omega) (Int.mul_nonneg hg.1 (by omega))
        unfold grw
        omega
      · exact a2
  · rw [frT_wh]; show y.wh.lo + min y.we.lo _ ≤ _; omega
  · rw [frT_wh]; show _ ≤ y.wh.hi + min y.we.hi _; omega
  · rw [frT_we]; show max 0 (y.we.lo - _) ≤ _; omega
  · rw [frT_we]; show _ ≤ max 0 (y.we.hi - _); omega
  · rw [frT_sn]; exact s1
  · rw [frT_sn]; exact s2
theorem mlT_in {l : Fro} {t : Tr} {y : Ice} {cs : Sp} {n k m : Int} (hL : LawOk l) (hy : IceK y k m) (h : inI t y) (hc : cs.lo ≤ cs.hi ∧ cs.hi < 0) (hn : dn (-cs.hi) l.melt.lo ≤ n ∧ n ≤ upp (-cs.lo) l.melt.hi) : inI (mlT t n) (mlt l y cs) := by
  obtain ⟨⟨⟨a1, a2⟩, b1, b2⟩, ⟨c1, c2⟩, s1, s2⟩ := h
  obtain ⟨⟨⟨x1, x2⟩, x3, x4⟩, ⟨⟨x5, x6⟩, x7, x8⟩, ⟨x9, xa⟩, ⟨xb, xc⟩, _⟩ := hy
  have hm := hL.melt
  have f1 := dn_bd7 (n := -cs.hi) (p := l.melt.lo) (by omega) (by omega) (by omega)
  rw [mlT_eq ⟨⟨by omega, by omega⟩, by omega, by omega⟩]
  unfold mlt mlt1
  generalize dn (-cs.hi) l.melt.lo = u at *
  generalize upp (-cs.lo) l.melt.hi = v at *
  refine ⟨⟨⟨?_, ?_⟩, ?_, ?_⟩, ⟨c1, c2⟩, ?_, ?_⟩
  all_goals simp only
  all_goals omega
theorem jnd_left {t : Tr} {a b : Ice} (h : inI t a) : inI t (jnd a b) := by
  obtain ⟨⟨⟨a1, a2⟩, b1, b2⟩, ⟨c1, c2⟩, s1, s2⟩ := h
  unfold jnd
  refine ⟨⟨⟨?_, ?_⟩, ?_, ?_⟩, ⟨?_, ?_⟩, ?_, ?_⟩
  all_goals simp only
  all_goals omega
theorem jnd_right {t : Tr} {a b : Ice} (h : inI t b) : inI t (jnd a b) := by
  obtain ⟨⟨⟨a1, a2⟩, b1, b2⟩, ⟨c1, c2⟩, s1, s2⟩ := h
  unfold jnd
  refine ⟨⟨⟨?_, ?_⟩, ?_, ?_⟩, ⟨?_, ?_⟩, ?_, ?_⟩
  all_goals simp only
  all_goals omega
/-- What cold gets through lies between what surely does and what may. -/
theorem thC_in {l : Fro} {y : Ice} {cs : Sp} {s cold c : Int} (hL : LawOk l) (hF : Falls l.cov) (hs : y.sn.lo ≤ s ∧ s ≤ y.sn.hi) (h0 : 0 ≤ cs.lo) (hc : cs.lo ≤ cold ∧ cold ≤ cs.hi) (h : (thC l s cold).lo ≤ c ∧ c ≤ (thC l s cold).hi) : fewC l y cs ≤ c ∧ c ≤ manyC l y cs := by
  have t1 := thr_mono hF hs.1
  have t2 := thr_mono hF hs.2
  have o1 := thr_ok hL y.sn.hi
  have o2 := thr_ok hL s
  exact ⟨Int.le_trans (dn_mono h0 hc.1 o1.1 t2.1) h.1, Int.le_trans h.2 (upp_mono (by omega) hc.2 (by omega) t1.2)⟩
theorem few_nn {l : Fro} {y : Ice} {cs : Sp} (hL : LawOk l) (h0 : 0 ≤ cs.lo) : 0 ≤ fewC l y cs := by
  have o1 := thr_ok hL y.sn.hi
  exact (dn_bd h0 o1.1 (by omega)).1
/-- True ice after a day lies within what is known after it. -/
theorem aft_frost {l : Fro} {x : Ice} {d : Wea} {k : Int} {t : Tr} {f cold c : Int} {up : Bool} (hL : LawOk l) (hF : Falls l.cov) (hx : IceK x k k) (hd : WeaOk d) (h : inI t x) (hf : d.fall.lo ≤ f ∧ f ≤ d.fall.hi) (hc : d.cold.lo ≤ cold ∧ cold ≤ d.cold.hi) (h0 : 0 ≤ cold)
    (hcc : (thC l (opn l t d f).sn cold).lo ≤ c ∧ c ≤ (thC l (opn l t d f).sn cold).hi) : inI (frT l (opn l t d f) c up) (aft l x d) := by
  have hy := cvd_K hL hx hd
  have ho := opn_in hL h hx.sn.1 hf hd.fall.1
  have hdc := hd.cold
  unfold aft
  split
  · exact frT_in hL hy ho (few_nn hL (by assumption)) (thC_in hL hF ho.2.2 (by assumption) hc hcc)
  · rw [if_neg (by omega)]
    exact jnd_left (frT_in hL hy ho (few_nn hL (Int.le_refl _)) (thC_in (cs := ⟨0, d.cold.hi⟩) hL hF ho.2.2 (Int.le_refl _) ⟨h0, hc.2⟩ hcc))
theorem aft_warm {l : Fro} {x : Ice} {d : Wea} {k : Int} {t : Tr} {f cold n : Int} (hL : LawOk l) (hx : IceK x k k) (hd : WeaOk d) (h : inI t x) (hf : d.fall.lo ≤ f ∧ f ≤ d.fall.hi) (hc : d.cold.lo ≤ cold ∧ cold ≤ d.cold.hi) (h0 : cold < 0)
    (hn : (thW l (-cold)).lo ≤ n ∧ n ≤ (thW l (-cold)).hi) : inI (mlT (opn l t d f) n) (aft l x d) := by
  have hy := cvd_K hL hx hd
  have ho := opn_in hL h hx.sn.1 hf hd.fall.1
  have hdc := hd.cold
  have hm := hL.melt
  unfold aft
  rw [if_neg (by omega)]
  split
  · refine mlT_in hL hy ho ⟨by omega, by assumption⟩ ⟨Int.le_trans (dn_mono (by omega) (by omega) hm.1 (Int.le_refl _)) hn.1, Int.le_trans hn.2 (upp_mono (by omega) (by omega) (by omega) (Int.le_refl _))⟩
  · refine jnd_right (mlT_in hL hy ho ⟨by show d.cold.lo ≤ -1; omega, by show (-1 : Int) < 0; omega⟩ ⟨Int.le_trans (dn_mono (by show (0 : Int) ≤ - -1; omega) (by show - -1 ≤ -cold; omega) hm.1 (Int.le_refl _)) hn.1, Int.le_trans hn.2 (upp_mono (by omega) (by show -cold ≤ -d.cold.lo; omega) (by omega) (Int.le_refl _))⟩)
end Go.Proofs.Ythblaiefalbomaa
