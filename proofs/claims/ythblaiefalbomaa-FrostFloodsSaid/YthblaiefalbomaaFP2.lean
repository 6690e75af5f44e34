/- frost, in plain numbers: each end of what is known after a day is reached, and what is known better leads to what is known better. -/
import Derived.Test.YthblaiefalbomaaF24
set_option linter.unusedVariables false
set_option linter.unusedSimpArgs false
set_option linter.unnecessarySimpa false
namespace Go.Proofs.Ythblaiefalbomaa
open Go.RowKit
set_option maxRecDepth 100000

/-- Numbers at the ends of spans. -/
def endS (n : Int) (s : Sp) : Prop := n = s.lo ∨ n = s.hi
def corner (t : Tr) (x : Ice) : Prop := (endS t.bl x.bl ∧ endS t.wh x.wh) ∧ endS t.we x.we ∧ endS t.sn x.sn
def endC (c : Int) (s : Sp) : Prop := endS c s ∨ ((s.lo < 0 ∧ 0 ≤ s.hi) ∧ (c = -1 ∨ c = 0))
/-- True ice after a day, with true cold and fall, at the ends of what may be chosen. -/
def Rch (l : Fro) (t : Tr) (d : Wea) (c f : Int) (u : Tr) : Prop :=
  (c < 0 ∧ ∃ n, endS n (thW l (-c)) ∧ u = mlT (opn l t d f) n) ∨ (0 ≤ c ∧ ∃ n up, endS n (thC l (opn l t d f).sn c) ∧ u = frT l (opn l t d f) n up)
def Met (l : Fro) (x : Ice) (d : Wea) (u : Tr) : Prop := ∃ t c f, corner t x ∧ endC c d.cold ∧ endS f d.fall ∧ Rch l t d c f u
structure Ends8 (M : Tr → Prop) (z : Ice) : Prop where
  bl1 : ∃ u, M u ∧ u.bl = z.bl.lo
  bl2 : ∃ u, M u ∧ u.bl = z.bl.hi
  wh1 : ∃ u, M u ∧ u.wh = z.wh.lo
  wh2 : ∃ u, M u ∧ u.wh = z.wh.hi
  we1 : ∃ u, M u ∧ u.we = z.we.lo
  we2 : ∃ u, M u ∧ u.we = z.we.hi
  sn1 : ∃ u, M u ∧ u.sn = z.sn.lo
  sn2 : ∃ u, M u ∧ u.sn = z.sn.hi
theorem Ends8.jnd {M : Tr → Prop} {a b : Ice} (ha : Ends8 M a) (hb : Ends8 M b) : Ends8 M (jnd a b) := by
  have mn : ∀ (f : Tr → Int) (p q : Int), (∃ u, M u ∧ f u = p) → (∃ u, M u ∧ f u = q) → ∃ u, M u ∧ f u = min p q := by
    rintro f p q ⟨u, hu, eu⟩ ⟨v, hv, ev⟩
    by_cases h : p ≤ q
    · exact ⟨u, hu, by omega⟩
    · exact ⟨v, hv, by omega⟩
  have mx : ∀ (f : Tr → Int) (p q : Int), (∃ u, M u ∧ f u = p) → (∃ u, M u ∧ f u = q) → ∃ u, M u ∧ f u = max p q := by
    rintro f p q ⟨u, hu, eu⟩ ⟨v, hv, ev⟩
    by_cases h : p ≤ q
    · exact ⟨v, hv, by omega⟩
    · exact ⟨u, hu, by omega⟩
  exact ⟨mn _ _ _ ha.bl1 hb.bl1, mx _ _ _ ha.bl2 hb.bl2, mn _ _ _ ha.wh1 hb.wh1, mx _ _ _ ha.wh2 hb.wh2, mn _ _ _ ha.we1 hb.we1, mx _ _ _ ha.we2 hb.we2, mn _ _ _ ha.sn1 hb.sn1, mx _ _ _ ha.sn2 hb.sn2⟩
theorem opn_hh (l : Fro) (x : Ice) (d : Wea) (a b : Int) : opn l ⟨a, b, x.we.hi, x.sn.hi⟩ d d.fall.hi = ⟨a, b, (cvd l x d).we.hi, (cvd l x d).sn.hi⟩ := by
  unfold opn cvd
  split <;> rfl
theorem opn_ll (l : Fro) (x : Ice) (d : Wea) (a b : Int) : opn l ⟨a, b, x.we.lo, x.sn.lo⟩ d d.fall.lo = ⟨a, b, (cvd l x d).we.lo, (cvd l x d).sn.lo⟩ := by
  unfold opn cvd
  split <;> rfl
theorem opn_lh (l : Fro) (x : Ice) (d : Wea) : ∃ s f, (endS s x.sn ∧ endS f d.fall) ∧ ∀ a b, opn l ⟨a, b, x.we.lo, s⟩ d f = ⟨a, b, (cvd l x d).we.lo, (cvd l x d).sn.hi⟩ := by
  by_cases h : 0 < d.water
  · refine ⟨x.sn.lo, d.fall.lo, ⟨.inl rfl, .inl rfl⟩, fun a b => ?_⟩
    unfold opn cvd
    rw [if_pos h, if_pos h]
  · refine ⟨x.sn.hi, d.fall.hi, ⟨.inr rfl, .inr rfl⟩, fun a b => ?_⟩
    unfold opn cvd
    rw [if_neg h, if_neg h]
theorem opn_hl (l : Fro) (x : Ice) (d : Wea) : ∃ s f, (endS s x.sn ∧ endS f d.fall) ∧ ∀ a b, opn l ⟨a, b, x.we.hi, s⟩ d f = ⟨a, b, (cvd l x d).we.hi, (cvd l x d).sn.lo⟩ := by
  by_cases h : 0 < d.water
  · refine ⟨x.sn.hi, d.fall.hi, ⟨.inr rfl, .inr rfl⟩, fun a b => ?_⟩
    unfold opn cvd
    rw [if_pos h, if_pos h]
  · refine ⟨x.sn.lo, d.fall.lo, ⟨.inl rfl, .inl rfl⟩, fun a b => ?_⟩
    unfold opn cvd
    rw [if_neg h, if_neg h]
theorem cvd_bl (l : Fro) (x : Ice) (d : Wea) : (cvd l x d).bl = x.bl ∧ (cvd l x d).wh = x.wh := by
  unfold cvd
  split <;> exact ⟨rfl, rfl⟩
theorem met_frz {l : Fro} {x : Ice} {d : Wea} {cs : Sp} (h0 : 0 ≤ cs.lo ∧ cs.lo ≤ cs.hi) (h1 : endC cs.lo d.cold) (h2 : endC cs.hi d.cold) : Ends8 (Met l x d) (frz l (cvd l x d) cs) := by
  have E : ∀ s : Sp, endS s.lo s ∧ endS s.hi s := fun s => ⟨.inl rfl, .inr rfl⟩
  obtain ⟨eb, ew⟩ := cvd_bl l x d
  have few : ∀ (t : Tr) (f : Int) (up : Bool), corner t x → endS f d.fall → (opn l t d f).sn = (cvd l x d).sn.hi → Met l x d (frT l (opn l t d f) (fewC l (cvd l x d) cs) up) := fun t f up ht hf hs =>
    ⟨t, cs.lo, f, ht, h1, hf, .inr ⟨h0.1, _, up, .inl (by rw [hs]; rfl), rfl⟩⟩
  have many : ∀ (t : Tr) (f : Int) (up : Bool), corner t x → endS f d.fall → (opn l t d f).sn = (cvd l x d).sn.lo → Met l x d (frT l (opn l t d f) (manyC l (cvd l x d) cs) up) := fun t f up ht hf hs =>
    ⟨t, cs.hi, f, ht, h2, hf, .inr ⟨by omega, _, up, .inr (by rw [hs]; rfl), rfl⟩⟩
  refine ⟨?_, ?_, ?_, ?_, ?_, ?_, ?_, ?_⟩
  · refine ⟨_, few ⟨x.bl.lo, x.wh.hi, x.we.hi, x.sn.hi⟩ d.fall.hi false ⟨⟨.inl rfl, .inr rfl⟩, .inr rfl, .inr rfl⟩ (.inr rfl) (by rw [opn_hh]), ?_⟩
    rw [frT_bl, opn_hh]
    show _ = if (cvd l x d).we.hi ≤ _ then grw l (cvd l x d).bl.lo (cvd l x d).wh.hi (cvd l x d).we.hi _ root else (cvd l x d).bl.lo
    rw [eb, ew]
    rfl
  · refine ⟨_, many ⟨x.bl.hi, x.wh.lo, x.we.lo, x.sn.lo⟩ d.fall.lo true ⟨⟨.inr rfl, .inl rfl⟩, .inl rfl, .inl rfl⟩ (.inl rfl) (by rw [opn_ll]), ?_⟩
    rw [frT_bl, opn_ll]
    show _ = if (cvd l x d).we.lo ≤ _ then grw l (cvd l x d).bl.hi (cvd l x d).wh.lo (cvd l x d).we.lo _ roof else (cvd l x d).bl.hi
    rw [eb, ew]
    rfl
  · obtain ⟨s, f, ⟨hs, hf⟩, e⟩ := opn_lh l x d
    refine ⟨_, few ⟨x.bl.lo, x.wh.lo, x.we.lo, s⟩ f false ⟨⟨.inl rfl, .inl rfl⟩, .inl rfl, hs⟩ hf (by rw [e]), ?_⟩
    rw [frT_wh, e]
    show _ = (cvd l x d).wh.lo + _
    rw [ew]
  · obtain ⟨s, f, ⟨hs, hf⟩, e⟩ := opn_hl l x d
    refine ⟨_, many ⟨x.bl.lo, x.wh.hi, x.we.hi, s⟩ f false ⟨⟨.inl rfl, .inr rfl⟩, .inr rfl, hs⟩ hf (by rw [e]), ?_⟩
    rw [frT_wh, e]
    show _ = (cvd l x d).wh.hi + _
    rw [ew]
  · refine ⟨_, many ⟨x.bl.hi, x.wh.lo, x.we.lo, x.sn.lo⟩ d.fall.lo true ⟨⟨.inr rfl, .inl rfl⟩, .inl rfl, .inl rfl⟩ (.inl rfl) (by rw [opn_ll]), ?_⟩
    rw [frT_we, opn_ll]
    show _ = max 0 ((cvd l x d).we.lo - _)
    show (cvd l x d).we.lo - min (cvd l x d).we.lo (manyC l (cvd l x d) cs / l.la) = _
    omega
  · refine ⟨_, few ⟨x.bl.lo, x.wh.hi, x.we.hi, x.sn.hi⟩ d.fall.hi false ⟨⟨.inl rfl, .inr rfl⟩, .inr rfl, .inr rfl⟩ (.inr rfl) (by rw [opn_hh]), ?_⟩
    rw [frT_we, opn_hh]
    show _ = max 0 ((cvd l x d).we.hi - _)
    show (cvd l x d).we.hi - min (cvd l x d).we.hi (fewC l (cvd l x d) cs / l.la) = _
    omega
  · refine ⟨_, many ⟨x.bl.hi, x.wh.lo, x.we.lo, x.sn.lo⟩ d.fall.lo true ⟨⟨.inr rfl, .inl rfl⟩, .inl rfl, .inl rfl⟩ (.inl rfl) (by rw [opn_ll]), ?_⟩
    rw [frT_sn, opn_ll]
    rfl
  · refine ⟨_, few ⟨x.bl.lo, x.wh.hi, x.we.hi, x.sn.hi⟩ d.fall.hi false ⟨⟨.inl rfl, .inr rfl⟩, .inr rfl, .inr rfl⟩ (.inr rfl) (by rw [opn_hh]), ?_⟩
    rw [frT_sn, opn_hh]
    rfl
theorem met_mlt {l : Fro} {x : Ice} {d : Wea} {cs : Sp} {k : Int} (hL : LawOk l) (hx : IceK x k k) (hd : WeaOk d) (h0 : cs.lo ≤ cs.hi ∧ cs.hi < 0) (h1 : endC cs.lo d.cold) (h2 : endC cs.hi d.cold) : Ends8 (Met l x d) (mlt l (cvd l x d) cs) := by
  have hy := cvd_K hL hx hd
  have hm := hL.melt
  have f1 := dn_bd7 (n := -cs.hi) (p := l.melt.lo) (by omega) (by omega) (by omega)
  have f2 := up_bd7 (n := -cs.lo) (p := l.melt.hi) (by omega) (by omega) (by omega)
  have e1 : mlT (lowT (cvd l x d)) (upp (-cs.lo) l.melt.hi) = _ := mlT_eq ⟨⟨hy.bl.1.1, hy.wh.1.1⟩, hy.sn.1, f2.1⟩
  have e2 : mlT (hiT (cvd l x d)) (dn (-cs.hi) l.melt.lo) = _ := mlT_eq ⟨⟨hy.bl.2.1, hy.wh.2.1⟩, hy.sn.2, f1.1⟩
  have m1 : Met l x d (mlT (lowT (cvd l x d)) (upp (-cs.lo) l.melt.hi)) := ⟨lowT x, cs.lo, d.fall.lo, ⟨⟨.inl rfl, .inl rfl⟩, .inl rfl, .inl rfl⟩, h1, .inl rfl, .inl ⟨by omega, _, .inr rfl, by rw [opn_low]; rfl⟩⟩
  have m2 : Met l x d (mlT (hiT (cvd l x d)) (dn (-cs.hi) l.melt.lo)) := ⟨hiT x, cs.hi, d.fall.hi, ⟨⟨.inr rfl, .inr rfl⟩, .inr rfl, .inr rfl⟩, h2, .inr rfl, .inl ⟨by omega, _, .inl rfl, by rw [opn_hi]; rfl⟩⟩
  rw [e1] at m1
  rw [e2] at m2
  exact ⟨⟨_, m1, rfl⟩, ⟨_, m2, rfl⟩, ⟨_, m1, rfl⟩, ⟨_, m2, rfl⟩, ⟨_, m1, rfl⟩, ⟨_, m2, rfl⟩, ⟨_, m1, rfl⟩, ⟨_, m2, rfl⟩⟩
theorem met_aft {l : Fro} {x : Ice} {d : Wea} {k : Int} (hL : LawOk l) (hx : IceK x k k) (hd : WeaOk d) : Ends8 (Met l x d) (aft l x d) := by
  have hc := hd.cold
  unfold aft
  split
  · exact met_frz ⟨by assumption, hc.2.1⟩ (.inl (.inl rfl)) (.inl (.inr rfl))
  · split
    · exact met_mlt hL hx hd ⟨hc.2.1, by assumption⟩ (.inl (.inl rfl)) (.inl (.inr rfl))
    · refine (met_frz (cs := ⟨0, d.cold.hi⟩) ⟨Int.le_refl _, by show 0 ≤ d.cold.hi; omega⟩ (.inr ⟨⟨by omega, by omega⟩, .inr rfl⟩) (.inl (.inr rfl))).jnd
        (met_mlt (cs := ⟨d.cold.lo, -1⟩) hL hx hd ⟨by show d.cold.lo ≤ -1; omega, by show (-1 : Int) < 0; omega⟩ (.inl (.inl rfl)) (.inr ⟨⟨by omega, by omega⟩, .inl rfl⟩))
/-- Ice whose spans have numbers. -/
def okI (x : Ice) : Prop := ((x.bl.lo ≤ x.bl.hi) ∧ x.wh.lo ≤ x.wh.hi) ∧ (x.we.lo ≤ x.we.hi) ∧ x.sn.lo ≤ x.sn.hi
theorem inI_ok {t : Tr} {x : Ice} (h : inI t x) : okI x := by
  obtain ⟨⟨⟨a1, a2⟩, b1, b2⟩, ⟨c1, c2⟩, s1, s2⟩ := h
  exact ⟨⟨by omega, by omega⟩, by omega, by omega⟩
theorem corner_in {t : Tr} {x : Ice} (hx : okI x) (h : corner t x) : inI t x := by
  obtain ⟨⟨a, b⟩, c, e⟩ := h
  obtain ⟨⟨xa, xb⟩, xc, xe⟩ := hx
  unfold endS at a b c e
  exact ⟨⟨by omega, by omega⟩, by omega, by omega⟩
theorem endC_in {c : Int} {s : Sp} (hs : s.lo ≤ s.hi) (h : endC c s) : s.lo ≤ c ∧ c ≤ s.hi := by
  unfold endC endS at h
  omega
theorem endS_in {c : Int} {s : Sp} (hs : s.lo ≤ s.hi) (h : endS c s) : s.lo ≤ c ∧ c ≤ s.hi := by
  unfold endS at h
  omega
/-- A day within a day. -/
def subD (e d : Wea) : Prop := ((d.cold.lo ≤ e.cold.lo ∧ e.cold.hi ≤ d.cold.hi) ∧ d.fall.lo ≤ e.fall.lo ∧ e.fall.hi ≤ d.fall.hi) ∧ e.water = d.water ∧ e.clear = d.clear
theorem inI_sub {t : Tr} {y x : Ice} (h : inI t y) (hs : subI y x) : inI t x := by
  obtain ⟨⟨⟨a1, a2⟩, b1, b2⟩, ⟨c1, c2⟩, s1, s2⟩ := h
  obtain ⟨⟨⟨p1, p2⟩, q1, q2⟩, ⟨r1, r2⟩, u1, u2⟩ := hs
  exact ⟨⟨⟨by omega, by omega⟩, by omega, by omega⟩, ⟨by omega, by omega⟩, by omega, by omega⟩
theorem rch_in {l : Fro} {x : Ice} {d : Wea} {k : Int} {t u : Tr} {c f : Int} (hL : LawOk l) (hF : Falls l.cov) (hx : IceK x k k) (hd : WeaOk d) (h : inI t x) (hf : d.fall.lo ≤ f ∧ f ≤ d.fall.hi) (hc : d.cold.lo ≤ c ∧ c ≤ d.cold.hi) (hr : Rch l t d c f u) : inI u (aft l x d) := by
  have hm := hL.melt
  have hdc := hd.cold
  rcases hr with ⟨h0, n, hn, rfl⟩ | ⟨h0, n, up, hn, rfl⟩
  · refine aft_warm hL hx hd h hf hc h0 (endS_in ?_ hn)
    show dn (-c) l.melt.lo ≤ upp (-c) l.melt.hi
    exact Int.le_trans (dn_mono (by omega) (Int.le_refl _) (by omega) hm.2.1) dn_le_upp
  · refine aft_frost hL hF hx hd h hf hc h0 (endS_in ?_ hn)
    have := thr_ok hL (opn l t d f).sn
    exact Int.le_trans (dn_mono h0 (Int.le_refl _) this.1 this.2.1) dn_le_upp
theorem opn_congr {l : Fro} {t : Tr} {e d : Wea} {f : Int} (hw : e.water = d.water) (hc : e.clear = d.clear) : opn l t e f = opn l t d f := by
  unfold opn
  rw [hw, hc]
theorem rch_congr {l : Fro} {t u : Tr} {e d : Wea} {c f : Int} (hw : e.water = d.water) (hc : e.clear = d.clear) (h : Rch l t e c f u) : Rch l t d c f u := by
  unfold Rch at *
  rw [opn_congr hw hc] at h
  exact h
theorem met_in {l : Fro} {y x : Ice} {e d : Wea} {k : Int} {u : Tr} (hL : LawOk l) (hF : Falls l.cov) (hx : IceK x k k) (hd : WeaOk d) (hy : okI y) (he : WeaOk e) (hs : subI y x) (hsd : subD e d) (h : Met l y e u) : inI u (aft l x d) := by
  obtain ⟨t, c, f, ht, hc, hf, hr⟩ := h
  obtain ⟨⟨⟨a1, a2⟩, b1, b2⟩, e1, e2⟩ := hsd
  have h1 := endC_in he.cold.2.1 hc
  have h2 := endS_in he.fall.2.1 hf
  exact rch_in hL hF hx hd (inI_sub (corner_in hy ht) hs) ⟨by omega, by omega⟩ ⟨by omega, by omega⟩ (rch_congr e1 e2 hr)
theorem Ends8.sub {M : Tr → Prop} {z x : Ice} (h : Ends8 M z) (hM : ∀ u, M u → inI u x) : subI z x := by
  obtain ⟨⟨u1, a1, e1⟩, ⟨u2, a2, e2⟩, ⟨u3, a3, e3⟩, ⟨u4, a4, e4⟩, ⟨u5, a5, e5⟩, ⟨u6, a6, e6⟩, ⟨u7, a7, e7⟩, ⟨u8, a8, e8⟩⟩ := h
  have i1 := (hM _ a1).1.1
  have i2 := (hM _ a2).1.1
  have i3 := (hM _ a3).1.2
  have i4 := (hM _ a4).1.2
  have i5 := (hM _ a5).2.1
  have i6 := (hM _ a6).2.1
  have i7 := (hM _ a7).2.2
  have i8 := (hM _ a8).2.2
  exact ⟨⟨⟨by omega, by omega⟩, by omega, by omega⟩, ⟨by omega, by omega⟩, by omega, by omega⟩
theorem aft_sub {l : Fro} {y x : Ice} {e d : Wea} {k : Int} (hL : LawOk l) (hF : Falls l.cov) (hx : IceK x k k) (hd : WeaOk d) (hyk : IceK y k k) (hy : okI y) (he : WeaOk e) (hs : subI y x) (hsd : subD e d) : subI (aft l y e) (aft l x d) :=
  (met_aft hL hyk he).sub fun u hu => met_in hL hF hx hd hy he hs hsd hu
theorem subI_refl (x : Ice) : subI x x := ⟨⟨⟨Int.le_refl _, Int.le_refl _⟩, Int.le_refl _, Int.le_refl _⟩, ⟨Int.le_refl _, Int.le_refl _⟩, Int.le_refl _, Int.le_refl _⟩
theorem subD_refl (d : Wea) : subD d d := ⟨⟨⟨Int.le_refl _, Int.le_refl _⟩, Int.le_refl _, Int.le_refl _⟩, rfl, rfl⟩
theorem aft_ok {l : Fro} {x : Ice} {d : Wea} {k : Int} (hL : LawOk l) (hF : Falls l.cov) (hx : IceK x k k) (hd : WeaOk d) (ho : okI x) : okI (aft l x d) := by
  obtain ⟨u, hu, _⟩ := (met_aft hL hx hd).bl1
  exact inI_ok (met_in hL hF hx hd ho hd (subI_refl x) (subD_refl d) hu)
theorem okI_of {x : Ice} (h : iceErr x = 0) : okI x := by
  have := iceB h
  exact ⟨⟨by omega, by omega⟩, by omega, by omega⟩
end Go.Proofs.Ythblaiefalbomaa
