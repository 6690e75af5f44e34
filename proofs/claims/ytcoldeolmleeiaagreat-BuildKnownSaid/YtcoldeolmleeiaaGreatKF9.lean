/- frost: what is known of ice after a day; its bounds. -/
import Derived.Test.YtcoldeolmleeiaaGreatKF6
import Derived.Test.YtcoldeolmleeiaaGreatKF7
import Derived.Test.YtcoldeolmleeiaaGreatKF8
set_option linter.unusedVariables false
set_option linter.unusedSimpArgs false
set_option linter.unnecessarySimpa false
namespace Go.Proofs.YtcoldeolmleeiaaGreat
open Go.RowKit
set_option maxRecDepth 100000
theorem cvd_K {l : Fro} {x : Ice} {d : Wea} {k : Int} (hL : LawOk l) (hx : IceK x k k) (hd : WeaOk d) : IceK (cvd l x d) k (k + 1) := by
 obtain ⟨⟨⟨xb1, xb2⟩, xb3, xb4⟩, ⟨⟨xw1, xw2⟩, xw3, xw4⟩, ⟨xe1, xe2⟩, ⟨xs1, xs2⟩, xm1, xm2⟩ := hx
 obtain ⟨⟨dc1, dc2, dc3⟩, ⟨df1, df2, df3⟩, dw1, dw2⟩ := hd
 obtain ⟨hs1, hs2⟩ := hL.soak
 unfold cvd
 have a1 : 0 <= (if d.clear = true then 0 else x.sn.lo) /\ (if d.clear = true then 0 else x.sn.lo) <= x.sn.lo := by split <;> omega
 have a2 : 0 <= (if d.clear = true then 0 else x.sn.hi) /\ (if d.clear = true then 0 else x.sn.hi) <= x.sn.hi := by split <;> omega
 generalize (if d.clear = true then 0 else x.sn.lo) = s1 at *
 generalize (if d.clear = true then 0 else x.sn.hi) = s2 at *
 have b1 := dn_bd (n := s1 + d.fall.lo) (p := l.soak) (by omega) (by omega) (by omega)
 have b2 := dn_bd (n := s2 + d.fall.hi) (p := l.soak) (by omega) (by omega) (by omega)
 split
 · exact ⟨⟨⟨xb1, xb2⟩, xb3, xb4⟩, ⟨⟨xw1, xw2⟩, xw3, xw4⟩, ⟨by show 0 <= x.we.lo + d.water + _; omega, by show 0 <= x.we.hi + d.water + _; omega⟩, ⟨Int.le_refl _, Int.le_refl _⟩, by show x.we.lo + d.water + _ + 0 <= _; omega, by show x.we.hi + d.water + _ + 0 <= _; omega⟩
 · exact ⟨⟨⟨xb1, xb2⟩, xb3, xb4⟩, ⟨⟨xw1, xw2⟩, xw3, xw4⟩, ⟨xe1, xe2⟩, ⟨by show 0 <= s1 + d.fall.lo; omega, by show 0 <= s2 + d.fall.hi; omega⟩, by show x.we.lo + (s1 + d.fall.lo) <= _; omega, by show x.we.hi + (s2 + d.fall.hi) <= _; omega⟩
theorem root_mono {a b : Int} (h : a <= b) (h0 : 0 <= a) : root a <= root b := by
 obtain ⟨a1, a2, a3⟩ := root_is h0
 obtain ⟨b1, b2, b3⟩ := root_is (n := b) (by omega)
 rcases Int.lt_or_le (root b) (root a) with h1 | h1
 · have := sq_lt (a := root b + 1) (b := root a) (by omega) (by omega); omega
 · exact h1
theorem root_sq {h : Int} (h0 : 0 <= h) : root (h * h) = h := by
 refine root_eq ⟨h0, Int.le_refl _, ?_⟩
 have e : (h + 1) * (h + 1) = h * h + (2 * h + 1) := by rw [Int.add_mul, Int.mul_add]; omega
 omega
theorem root_up {h e : Int} (h0 : 0 <= h) (he : 0 <= e) (he2 : e <= 10000000) : h <= root (h * h + e) /\ root (h * h + e) <= h + 3163 := by
 have hp : 0 <= h * h := Int.mul_nonneg h0 h0
 obtain ⟨a1, a2, a3⟩ := root_is (n := h * h + e) (by omega)
 refine ⟨?_, ?_⟩
 ·
  have := root_mono (a := h * h) (b := h * h + e) (by omega) hp
  rw [root_sq h0] at this
  exact this
 rcases Int.lt_or_le (h + 3163) (root (h * h + e)) with h1 | h1
 ·
  have h2 := sq_lt (a := h + 3163) (b := root (h * h + e)) (by omega) (by omega)
  have e2 : (h + 3163) * (h + 3163) = h * h + (6326 * h + 10004569) := by rw [Int.add_mul, Int.mul_add]; omega
  omega
 · exact h1
theorem grw_bd {l : Fro} {b wh q c : Int} (hL : LawOk l) (hb : 0 <= b) (hwh : 0 <= wh) (hq : 0 <= q) (hc : c <= 1000) (hqc : q * l.la <= c) : (b <= grw l b wh q c root /\ grw l b wh q c root <= b + 3163) /\ b <= grw l b wh q c roof /\ grw l b wh q c roof <= b + 3164 := by
 have hg := hL.gr
 have hla := hL.la
 have hqn : 0 <= q * l.la := Int.mul_nonneg (by omega) (by omega)
 have hgn : 0 <= l.gr * (c - q * l.la) := Int.mul_nonneg (by omega) (by omega)
 have hg3 : l.gr * (c - q * l.la) <= 10000000 := by
  have h1 : l.gr * (c - q * l.la) <= l.gr * 1000 := Int.mul_le_mul_of_nonneg_left (by omega) (by omega)
  omega
 have h := root_up (h := b + (wh + q)) (by omega) hgn hg3
 unfold grw roof
 constructor
 · omega
 · split <;> omega
theorem frz_K {l : Fro} {x : Ice} {c : Sp} {k : Int} (hL : LawOk l) (hx : IceK x k (k + 1)) (hc : 0 <= c.lo /\ c.lo <= c.hi /\ c.hi <= 1000) (hk : 0 <= k /\ k <= 400) : IceK (frz l x c) (k + 1) (k + 1) := by
 obtain ⟨⟨⟨xb1, xb2⟩, xb3, xb4⟩, ⟨⟨xw1, xw2⟩, xw3, xw4⟩, ⟨xe1, xe2⟩, ⟨xs1, xs2⟩, xm1, xm2⟩ := hx
 have hla := hL.la
 have t1 := thr_ok hL x.sn.hi
 have t2 := thr_ok hL x.sn.lo
 have f1 : 0 <= fewC l x c /\ fewC l x c <= c.lo := dn_bd (by omega) (by omega) (by omega)
 have f2 : 0 <= manyC l x c /\ manyC l x c <= c.hi := up_bd (by omega) (by omega) (by omega)
 have v1 := div_nn (b := l.la) (c := fewC l x c) (by omega) (by omega)
 have v2 := div_nn (b := l.la) (c := manyC l x c) (by omega) (by omega)
 have g1 : x.we.hi <= fewC l x c / l.la -> _ := fun h => (grw_bd (b := x.bl.lo) (wh := x.wh.hi) (q := x.we.hi) (c := fewC l x c) hL (by omega) (by omega) (by omega) (by omega) (mul_of_div (by omega) h)).1
 have g2 : x.we.lo <= manyC l x c / l.la -> _ := fun h => (grw_bd (b := x.bl.hi) (wh := x.wh.lo) (q := x.we.lo) (c := manyC l x c) hL (by omega) (by omega) (by omega) (by omega) (mul_of_div (by omega) h)).2
 have k1 : 0 <= (frz l x c).bl.lo /\ (frz l x c).bl.lo <= 5000 + 4000 * (k + 1) := by
  have e : (frz l x c).bl.lo = if x.we.hi <= fewC l x c / l.la then grw l x.bl.lo x.wh.hi x.we.hi (fewC l x c) root else x.bl.lo := rfl
  rw [e]
  split
  · have := g1 (by assumption); omega
  · omega
 have k2 : 0 <= (frz l x c).bl.hi /\ (frz l x c).bl.hi <= 5000 + 4000 * (k + 1) := by
  have e : (frz l x c).bl.hi = if x.we.lo <= manyC l x c / l.la then grw l x.bl.hi x.wh.lo x.we.lo (manyC l x c) roof else x.bl.hi := rfl
  rw [e]
  split
  · have := g2 (by assumption); omega
  · omega
 refine ⟨⟨k1, k2⟩, ⟨?_, ?_⟩, ⟨?_, ?_⟩, ⟨xs1, xs2⟩, ?_, ?_⟩
 · show 0 <= x.wh.lo + min x.we.lo _ /\ x.wh.lo + min x.we.lo _ <= _; omega
 · show 0 <= x.wh.hi + min x.we.hi _ /\ x.wh.hi + min x.we.hi _ <= _; omega
 · show 0 <= max 0 _; omega
 · show 0 <= max 0 _; omega
 · show max 0 (x.we.lo - _) + x.sn.lo <= _; omega
 · show max 0 (x.we.hi - _) + x.sn.hi <= _; omega
theorem mlt_K {l : Fro} {x : Ice} {c : Sp} {k : Int} (hL : LawOk l) (hx : IceK x k (k + 1)) (hc : -1000 <= c.lo /\ c.lo <= c.hi /\ c.hi < 0) (hk : 0 <= k /\ k <= 400) : IceK (mlt l x c) (k + 1) (k + 1) := by
 obtain ⟨⟨⟨xb1, xb2⟩, xb3, xb4⟩, ⟨⟨xw1, xw2⟩, xw3, xw4⟩, ⟨xe1, xe2⟩, ⟨xs1, xs2⟩, xm1, xm2⟩ := hx
 have hm := hL.melt
 have f1 := dn_bd7 (n := -c.hi) (p := l.melt.lo) (by omega) (by omega) (by omega)
 have f2 := up_bd7 (n := -c.lo) (p := l.melt.hi) (by omega) (by omega) (by omega)
 unfold mlt mlt1
 generalize dn (-c.hi) l.melt.lo = a at *
 generalize upp (-c.lo) l.melt.hi = b at *
 refine ⟨⟨?_, ?_⟩, ⟨?_, ?_⟩, ⟨xe1, xe2⟩, ⟨?_, ?_⟩, ?_, ?_⟩
 all_goals simp only
 all_goals omega
theorem jnd_K {a b : Ice} {k m : Int} (ha : IceK a k m) (hb : IceK b k m) (h : a.we.lo + b.sn.lo <= 10000 + 1200 * m ∨ True) (hs : max a.we.hi b.we.hi + max a.sn.hi b.sn.hi <= 10000 + 1200 * m) : IceK (jnd a b) k m := by
 obtain ⟨⟨⟨xb1, xb2⟩, xb3, xb4⟩, ⟨⟨xw1, xw2⟩, xw3, xw4⟩, ⟨xe1, xe2⟩, ⟨xs1, xs2⟩, xm1, xm2⟩ := ha
 obtain ⟨⟨⟨yb1, yb2⟩, yb3, yb4⟩, ⟨⟨yw1, yw2⟩, yw3, yw4⟩, ⟨ye1, ye2⟩, ⟨ys1, ys2⟩, ym1, ym2⟩ := hb
 unfold jnd
 refine ⟨⟨?_, ?_⟩, ⟨?_, ?_⟩, ⟨?_, ?_⟩, ⟨?_, ?_⟩, ?_, ?_⟩
 all_goals simp only
 all_goals omega
theorem aft_K {l : Fro} {x : Ice} {d : Wea} {k : Int} (hL : LawOk l) (hx : IceK x k k) (hd : WeaOk d) (hk : 0 <= k /\ k <= 400) : IceK (aft l x d) (k + 1) (k + 1) := by
 have h1 := cvd_K hL hx hd
 have hc := hd.cold
 unfold aft
 generalize cvd l x d = y at *
 split
 · exact frz_K hL h1 (by omega) hk
 split
 · exact mlt_K hL h1 (by omega) hk
 have a := frz_K (c := ⟨0, d.cold.hi⟩) hL h1 ⟨Int.le_refl _, by simp only; omega, by simp only; omega⟩ hk
 have b := mlt_K (c := ⟨d.cold.lo, -1⟩) hL h1 ⟨by simp only; omega, by simp only; omega, by simp only; omega⟩ hk
 refine jnd_K a b (.inr trivial) ?_
 have e1 : (mlt l y ⟨d.cold.lo, -1⟩).we.hi = y.we.hi := rfl
 have e2 : (frz l y ⟨0, d.cold.hi⟩).sn.hi = y.sn.hi := rfl
 have e3 : (frz l y ⟨0, d.cold.hi⟩).we.hi = max 0 (y.we.hi - fewC l y ⟨0, d.cold.hi⟩ / l.la) := rfl
 have e4 : (mlt l y ⟨d.cold.lo, -1⟩).sn.hi = max 0 (y.sn.hi - dn (- -1) l.melt.lo) := rfl
 have hm := hL.melt
 have hla := hL.la
 have t1 := thr_ok hL y.sn.hi
 have f1 := dn_bd7 (n := - -1) (p := l.melt.lo) (by omega) (by omega) (by omega)
 have f2 : 0 <= fewC l y ⟨0, d.cold.hi⟩ /\ fewC l y ⟨0, d.cold.hi⟩ <= 0 := dn_bd (n := 0) (Int.le_refl _) (by omega) (by omega)
 have v1 := div_nn (b := l.la) (c := fewC l y ⟨0, d.cold.hi⟩) (by omega) (by omega)
 have := h1.sum; have := h1.we; have := h1.sn
 rw [e1, e2, e3, e4]
 omega
set_option maxHeartbeats 8000000 in
theorem after_c (lo hi : Nat) (v : Value) (l : Fro) (x : Ice) (k : Int) (d : Wea) (w : World) (hl : Sl covEnc 3 lo hi w v l.cov) (h2 : hi <= w.heap.size) (hL : LawOk l) (hx : IceK x k k) (hk : 0 <= k /\ k <= 400) (hd : WeaOk d) :
  Calls Tryz.prog 88 #[.agg (froC l v), .agg (iceC x), .agg (weaC d d.clear)] w (Ret (.agg #[.int .i64 ((aft l x d).bl.lo), .int .i64 ((aft l x d).bl.hi), .int .i64 ((aft l x d).wh.lo), .int .i64 ((aft l x d).wh.hi), .int .i64 ((aft l x d).we.lo), .int .i64 ((aft l x d).we.hi), .int .i64 ((aft l x d).sn.lo), .int .i64 ((aft l x d).sn.hi)]) w) := by
 have HX := lhd hx
 have HD := lhd hd
 have F1 : Bun w [] w := Bun.nil _
 have hm_cs := hl.len
 unfold maxLen at hm_cs
 obtain ⟨sa, sc, rfl⟩ := hl.any
 replace F1 := F1.sl0 hl h2 rfl
 clear hl
 obtain ⟨⟨hg1, hg2⟩, ⟨hl1, hl2⟩, ⟨hn1, hn2⟩, hpt, ⟨hm1, hm2, hm3⟩, ⟨hs1, hs2⟩, ⟨hw1, hw2, hw3⟩⟩ := id hL
 have HL := lhd hL
 clear hL hpt
 obtain ⟨⟨⟨xb1, xb2⟩, xb3, xb4⟩, ⟨⟨xw1, xw2⟩, xw3, xw4⟩, ⟨xe1, xe2⟩, ⟨xs1, xs2⟩, xm1, xm2⟩ := hx
 obtain ⟨⟨dc1, dc2, dc3⟩, ⟨df1, df2, df3⟩, dw1, dw2⟩ := hd
 go_enter Tryz.func88, Tryz.ntmps88
 go_wp2_with fail
 replace F1 := F1.new 139 (froC l (.slice sa l.cov.length sc)) (n := w.heap.size) (by simp)
 replace F1 := F1.new 142 (iceC x) (n := (w.heap.size + 1)) (by simp)
 replace F1 := F1.new 61 (weaC d d.clear) (n := (w.heap.size + 2)) (by simp)
 replace F1 := F1.new 142 (z8) (n := (w.heap.size + 3)) (by simp)
 refine (covered_c lo hi _ l x k k d _ (F1.s 4 rfl) (Nat.le_trans h2 F1.gb.size) HL.out HX.out (by omega) HD.out).mono ?_
 rintro e w9 ⟨rfl, hg7⟩
 have hg7s := hg7.size
 (try simp at hg7s)
 replace F1 := F1.gn hg7
 clear hg7
 by_cases c11 : 0 <= d.cold.lo
 ·
  have c11H := lhd c11
  have b12 := F1.bx6 1 rfl
  have b13 := F1.bx8 2 rfl
  have b14 := F1.bx8 3 rfl
  go_wp2_with fail
  clear b12 b13 b14
  have F15 := (F1.front 2 rfl rfl).pt8 (.int .i64 ((cvd l x d).bl.lo)) (.int .i64 ((cvd l x d).bl.hi)) (.int .i64 ((cvd l x d).wh.lo)) (.int .i64 ((cvd l x d).wh.hi)) (.int .i64 ((cvd l x d).we.lo)) (.int .i64 ((cvd l x d).we.hi)) (.int .i64 ((cvd l x d).sn.lo)) (.int .i64 ((cvd l x d).sn.hi))
  clear F1
  refine (frozen_c lo hi _ l (cvd l x d) k (k + 1) d.cold _ (F15.s 4 rfl) (Nat.le_trans h2 F15.gb.size) HL.out (cvd_K HL.out HX.out HD.out) (by omega) (by first | omega | (simp only; omega))).mono ?_
  rintro e w18 ⟨rfl, hg16⟩
  have hg16s := hg16.size
  (try simp at hg16s)
  replace F15 := F15.gn hg16
  clear hg16
  have Hx20 := lhd (show ((aft l x d).bl.lo) = (frz l (cvd l x d) d.cold).bl.lo by rw [aft, if_pos c11H.out])
  have Hx21 := lhd (show ((aft l x d).bl.hi) = (frz l (cvd l x d) d.cold).bl.hi by rw [aft, if_pos c11H.out])
  have Hx22 := lhd (show ((aft l x d).wh.lo) = (frz l (cvd l x d) d.cold).wh.lo by rw [aft, if_pos c11H.out])
  have Hx23 := lhd (show ((aft l x d).wh.hi) = (frz l (cvd l x d) d.cold).wh.hi by rw [aft, if_pos c11H.out])
  have Hx24 := lhd (show ((aft l x d).we.lo) = (frz l (cvd l x d) d.cold).we.lo by rw [aft, if_pos c11H.out])
  have Hx25 := lhd (show ((aft l x d).we.hi) = (frz l (cvd l x d) d.cold).we.hi by rw [aft, if_pos c11H.out])
  have Hx26 := lhd (show ((aft l x d).sn.lo) = (frz l (cvd l x d) d.cold).sn.lo by rw [aft, if_pos c11H.out])
  have Hx27 := lhd (show ((aft l x d).sn.hi) = (frz l (cvd l x d) d.cold).sn.hi by rw [aft, if_pos c11H.out])
  have b28 := F15.bx8 1 rfl
  go_wp2_with fail
  clear b28
  have F29 := (F15.front 1 rfl rfl).pt8 (.int .i64 ((frz l (cvd l x d) d.cold).bl.lo)) (.int .i64 ((frz l (cvd l x d) d.cold).bl.hi)) (.int .i64 ((frz l (cvd l x d) d.cold).wh.lo)) (.int .i64 ((frz l (cvd l x d) d.cold).wh.hi)) (.int .i64 ((frz l (cvd l x d) d.cold).we.lo)) (.int .i64 ((frz l (cvd l x d) d.cold).we.hi)) (.int .i64 ((frz l (cvd l x d) d.cold).sn.lo)) (.int .i64 ((frz l (cvd l x d) d.cold).sn.hi))
  clear F15
  have kb30 := F29.bx8 0 rfl
  go_wp2_with fail
  exact bodyPost_ret (v := .agg #[.int .i64 ((frz l (cvd l x d) d.cold).bl.lo), .int .i64 ((frz l (cvd l x d) d.cold).bl.hi), .int .i64 ((frz l (cvd l x d) d.cold).wh.lo), .int .i64 ((frz l (cvd l x d) d.cold).wh.hi), .int .i64 ((frz l (cvd l x d) d.cold).we.lo), .int .i64 ((frz l (cvd l x d) d.cold).we.hi), .int .i64 ((frz l (cvd l x d) d.cold).sn.lo), .int .i64 ((frz l (cvd l x d) d.cold).sn.hi)]) (by simp [results, Tryz.results88, go_sem, kb30]) rfl (⟨by rw [Hx20.out, Hx21.out, Hx22.out, Hx23.out, Hx24.out, Hx25.out, Hx26.out, Hx27.out] <;> rfl, F29.gb⟩)
 have c11H := lhd c11
 have c11a := dec_f c11
 by_cases c31 : d.cold.hi < 0
 ·
  have c31H := lhd c31
  have b32 := F1.bx6 1 rfl
  have b33 := F1.bx8 2 rfl
  have b34 := F1.bx8 3 rfl
  go_wp2_with fail
  clear b32 b33 b34
  have F35 := (F1.front 2 rfl rfl).pt8 (.int .i64 ((cvd l x d).bl.lo)) (.int .i64 ((cvd l x d).bl.hi)) (.int .i64 ((cvd l x d).wh.lo)) (.int .i64 ((cvd l x d).wh.hi)) (.int .i64 ((cvd l x d).we.lo)) (.int .i64 ((cvd l x d).we.hi)) (.int .i64 ((cvd l x d).sn.lo)) (.int .i64 ((cvd l x d).sn.hi))
  clear F1
  refine (melted_c lo hi _ l (cvd l x d) k (k + 1) d.cold _ (F35.s 4 rfl) (Nat.le_trans h2 F35.gb.size) HL.out (cvd_K HL.out HX.out HD.out) (by omega) (by first | omega | (simp only; omega))).mono ?_
  rintro e w38 ⟨rfl, hg36⟩
  have hg36s := hg36.size
  (try simp at hg36s)
  replace F35 := F35.gn hg36
  clear hg36
  have Hx40 := lhd (show ((aft l x d).bl.lo) = (mlt l (cvd l x d) d.cold).bl.lo by rw [aft, if_neg (by omega), if_pos c31H.out])
  have Hx41 := lhd (show ((aft l x d).bl.hi) = (mlt l (cvd l x d) d.cold).bl.hi by rw [aft, if_neg (by omega), if_pos c31H.out])
  have Hx42 := lhd (show ((aft l x d).wh.lo) = (mlt l (cvd l x d) d.cold).wh.lo by rw [aft, if_neg (by omega), if_pos c31H.out])
  have Hx43 := lhd (show ((aft l x d).wh.hi) = (mlt l (cvd l x d) d.cold).wh.hi by rw [aft, if_neg (by omega), if_pos c31H.out])
  have Hx44 := lhd (show ((aft l x d).we.lo) = (mlt l (cvd l x d) d.cold).we.lo by rw [aft, if_neg (by omega), if_pos c31H.out])
  have Hx45 := lhd (show ((aft l x d).we.hi) = (mlt l (cvd l x d) d.cold).we.hi by rw [aft, if_neg (by omega), if_pos c31H.out])
  have Hx46 := lhd (show ((aft l x d).sn.lo) = (mlt l (cvd l x d) d.cold).sn.lo by rw [aft, if_neg (by omega), if_pos c31H.out])
  have Hx47 := lhd (show ((aft l x d).sn.hi) = (mlt l (cvd l x d) d.cold).sn.hi by rw [aft, if_neg (by omega), if_pos c31H.out])
  have b48 := F35.bx8 1 rfl
  go_wp2_with fail
  clear b48
  have F49 := (F35.front 1 rfl rfl).pt8 (.int .i64 ((mlt l (cvd l x d) d.cold).bl.lo)) (.int .i64 ((mlt l (cvd l x d) d.cold).bl.hi)) (.int .i64 ((mlt l (cvd l x d) d.cold).wh.lo)) (.int .i64 ((mlt l (cvd l x d) d.cold).wh.hi)) (.int .i64 ((mlt l (cvd l x d) d.cold).we.lo)) (.int .i64 ((mlt l (cvd l x d) d.cold).we.hi)) (.int .i64 ((mlt l (cvd l x d) d.cold).sn.lo)) (.int .i64 ((mlt l (cvd l x d) d.cold).sn.hi))
  clear F35
  have kb50 := F49.bx8 0 rfl
  go_wp2_with fail
  exact bodyPost_ret (v := .agg #[.int .i64 ((mlt l (cvd l x d) d.cold).bl.lo), .int .i64 ((mlt l (cvd l x d) d.cold).bl.hi), .int .i64 ((mlt l (cvd l x d) d.cold).wh.lo), .int .i64 ((mlt l (cvd l x d) d.cold).wh.hi), .int .i64 ((mlt l (cvd l x d) d.cold).we.lo), .int .i64 ((mlt l (cvd l x d) d.cold).we.hi), .int .i64 ((mlt l (cvd l x d) d.cold).sn.lo), .int .i64 ((mlt l (cvd l x d) d.cold).sn.hi)]) (by simp [results, Tryz.results88, go_sem, kb50]) rfl (⟨by rw [Hx40.out, Hx41.out, Hx42.out, Hx43.out, Hx44.out, Hx45.out, Hx46.out, Hx47.out] <;> rfl, F49.gb⟩)
 have c31H := lhd c31
 have c31a := dec_f c31
 have b51 := F1.bx6 1 rfl
 have b52 := F1.bx8 2 rfl
 go_wp2_with fail
 clear b51 b52
 have F53 := (F1.front 2 rfl rfl).pt8 (.int .i64 ((cvd l x d).bl.lo)) (.int .i64 ((cvd l x d).bl.hi)) (.int .i64 ((cvd l x d).wh.lo)) (.int .i64 ((cvd l x d).wh.hi)) (.int .i64 ((cvd l x d).we.lo)) (.int .i64 ((cvd l x d).we.hi)) (.int .i64 ((cvd l x d).sn.lo)) (.int .i64 ((cvd l x d).sn.hi))
 clear F1
 have Fn_ := F53
 (try dsimp only [lpF, lpG] at Fn_)
 obtain ⟨w54, hx55, F57, hxs56⟩ := Fn_.name
 (try simp at hxs56)
 rw [hx55]
 clear hx55 F53 Fn_
 replace F57 := F57.drew
 refine ru_begin (fun W => C8 W w.heap.size (.int .i64 l.gr) (.int .i64 l.la) (.slice sa l.cov.length sc) (.int .i64 l.melt.lo) (.int .i64 l.melt.hi) (.int .i64 l.soak) (.int .i64 l.white.lo) (.int .i64 l.white.hi) /\ C8 W (w.heap.size + 1) (.int .i64 ((cvd l x d).bl.lo)) (.int .i64 ((cvd l x d).bl.hi)) (.int .i64 ((cvd l x d).wh.lo)) (.int .i64 ((cvd l x d).wh.hi)) (.int .i64 ((cvd l x d).we.lo)) (.int .i64 ((cvd l x d).we.hi)) (.int .i64 ((cvd l x d).sn.lo)) (.int .i64 ((cvd l x d).sn.hi)) /\ W.cell? ⟨(w.heap.size + 2), 1, none⟩ = some (.int .i64 d.cold.hi) /\ W.cell? ⟨(w.heap.size + 2), 0, none⟩ = some (.int .i64 d.cold.lo)) 15 (by kernel_rfl) ?_ ?_
 · exact ⟨F57.c8 3, F57.c8 0, F57.q 2 1, F57.q 2 0⟩
 obtain ⟨wd60, hwd_⟩ : ∃ x : World, w54.drew = x := ⟨_, rfl⟩
 rw [hwd_] at F57 ⊢
 have wd60s : w54.heap.size <= wd60.heap.size := by rw [← hwd_]; exact Nat.le_refl _
 clear hwd_
 have hS59 := (And.intro (F57.c8 3) (And.intro (F57.c8 0) (And.intro (F57.q 2 1) (F57.q 2 0))))
 refine ru_t 0 [] ?_
 refine ru_t 1 [] ?_
 refine ru_t 2 [] ?_
 refine ru_t 3 [] ?_
 refine ru_t 4 [] ?_
 refine ru_t 5 [] ?_
 refine ru_t 7 [] ?_
 refine ru_t 8 [] ?_
 refine ru_t 9 [] ?_
 refine ru_t 10 [] ?_
 refine ru_t 11 [] ?_
 refine ru_t 12 [] ?_
 (try simp only [lpX])
 clear hS59
 refine ru_o 6 fun K hK => ?_
 go_simp
 refine (frozen_c lo hi _ l (cvd l x d) k (k + 1) ⟨0, d.cold.hi⟩ _ (F57.s 4 rfl) (Nat.le_trans h2 F57.gb.size) HL.out (cvd_K HL.out HX.out HD.out) (by omega) (by first | omega | (simp only; omega))).mono ?_
 rintro e w63 ⟨rfl, hg61⟩
 have hg61s := hg61.size
 (try simp at hg61s)
 replace F57 := F57.gn hg61
 refine ru_back hK (by exact ⟨F57.c8 3, F57.c8 0, F57.q 2 1, F57.q 2 0⟩) (fun _ => ?_)
 clear hK K
 (try simp only [lpX])
 refine ru_o 13 fun K hK => ?_
 go_simp
 refine (melted_c lo hi _ l (cvd l x d) k (k + 1) ⟨d.cold.lo, -1⟩ _ (F57.s 4 rfl) (Nat.le_trans h2 F57.gb.size) HL.out (cvd_K HL.out HX.out HD.out) (by omega) (by first | omega | (simp only; omega))).mono ?_
 rintro e w67 ⟨rfl, hg65⟩
 have hg65s := hg65.size
 (try simp at hg65s)
 replace F57 := F57.gn hg65
 refine ru_back hK (by exact ⟨F57.c8 3, F57.c8 0, F57.q 2 1, F57.q 2 0⟩) (fun _ => ?_)
 clear hK K
 (try simp only [lpX])
 refine ru_o 14 fun K hK => ?_
 go_simp
 refine (joined_c (frz l (cvd l x d) ⟨0, d.cold.hi⟩) (mlt l (cvd l x d) ⟨d.cold.lo, -1⟩) _).mono ?_
 rintro e w71 ⟨rfl, hg69⟩
 have hg69s := hg69.size
 (try simp at hg69s)
 replace F57 := F57.gn hg69
 refine ru_back hK (by exact ⟨F57.c8 3, F57.c8 0, F57.q 2 1, F57.q 2 0⟩) (fun _ => ?_)
 clear hK K
 (try simp only [lpX])
 refine ru_o 15 fun K hK => ?_
 have kb_ := F57.bx8 1 rfl
 go_simp
 clear kb_
 have F73 := (F57.front 1 rfl rfl).pt8 (.int .i64 ((jnd (frz l (cvd l x d) ⟨0, d.cold.hi⟩) (mlt l (cvd l x d) ⟨d.cold.lo, -1⟩)).bl.lo)) (.int .i64 ((jnd (frz l (cvd l x d) ⟨0, d.cold.hi⟩) (mlt l (cvd l x d) ⟨d.cold.lo, -1⟩)).bl.hi)) (.int .i64 ((jnd (frz l (cvd l x d) ⟨0, d.cold.hi⟩) (mlt l (cvd l x d) ⟨d.cold.lo, -1⟩)).wh.lo)) (.int .i64 ((jnd (frz l (cvd l x d) ⟨0, d.cold.hi⟩) (mlt l (cvd l x d) ⟨d.cold.lo, -1⟩)).wh.hi)) (.int .i64 ((jnd (frz l (cvd l x d) ⟨0, d.cold.hi⟩) (mlt l (cvd l x d) ⟨d.cold.lo, -1⟩)).we.lo)) (.int .i64 ((jnd (frz l (cvd l x d) ⟨0, d.cold.hi⟩) (mlt l (cvd l x d) ⟨d.cold.lo, -1⟩)).we.hi)) (.int .i64 ((jnd (frz l (cvd l x d) ⟨0, d.cold.hi⟩) (mlt l (cvd l x d) ⟨d.cold.lo, -1⟩)).sn.lo)) (.int .i64 ((jnd (frz l (cvd l x d) ⟨0, d.cold.hi⟩) (mlt l (cvd l x d) ⟨d.cold.lo, -1⟩)).sn.hi))
 clear F57
 refine ru_back_late hK (by kernel_rfl) ?_
 clear hK K
 (try simp only [lpX])
 refine ru_done (by kernel_rfl) ?_
 have Fn_ := (((F73.drop 1 rfl).drop 1 rfl).drop 1 rfl)
 (try dsimp only [lpF, lpG] at Fn_)
 obtain ⟨w74, hx75, F77, hxs76⟩ := Fn_.name
 (try simp at hxs76)
 rw [hx75]
 clear hx75 F73 Fn_
 have Hx78 := lhd (show ((aft l x d).bl.lo) = (jnd (frz l (cvd l x d) ⟨0, d.cold.hi⟩) (mlt l (cvd l x d) ⟨d.cold.lo, -1⟩)).bl.lo by rw [aft, if_neg (by omega), if_neg (by omega)])
 have Hx79 := lhd (show ((aft l x d).bl.hi) = (jnd (frz l (cvd l x d) ⟨0, d.cold.hi⟩) (mlt l (cvd l x d) ⟨d.cold.lo, -1⟩)).bl.hi by rw [aft, if_neg (by omega), if_neg (by omega)])
 have Hx80 := lhd (show ((aft l x d).wh.lo) = (jnd (frz l (cvd l x d) ⟨0, d.cold.hi⟩) (mlt l (cvd l x d) ⟨d.cold.lo, -1⟩)).wh.lo by rw [aft, if_neg (by omega), if_neg (by omega)])
 have Hx81 := lhd (show ((aft l x d).wh.hi) = (jnd (frz l (cvd l x d) ⟨0, d.cold.hi⟩) (mlt l (cvd l x d) ⟨d.cold.lo, -1⟩)).wh.hi by rw [aft, if_neg (by omega), if_neg (by omega)])
 have Hx82 := lhd (show ((aft l x d).we.lo) = (jnd (frz l (cvd l x d) ⟨0, d.cold.hi⟩) (mlt l (cvd l x d) ⟨d.cold.lo, -1⟩)).we.lo by rw [aft, if_neg (by omega), if_neg (by omega)])
 have Hx83 := lhd (show ((aft l x d).we.hi) = (jnd (frz l (cvd l x d) ⟨0, d.cold.hi⟩) (mlt l (cvd l x d) ⟨d.cold.lo, -1⟩)).we.hi by rw [aft, if_neg (by omega), if_neg (by omega)])
 have Hx84 := lhd (show ((aft l x d).sn.lo) = (jnd (frz l (cvd l x d) ⟨0, d.cold.hi⟩) (mlt l (cvd l x d) ⟨d.cold.lo, -1⟩)).sn.lo by rw [aft, if_neg (by omega), if_neg (by omega)])
 have Hx85 := lhd (show ((aft l x d).sn.hi) = (jnd (frz l (cvd l x d) ⟨0, d.cold.hi⟩) (mlt l (cvd l x d) ⟨d.cold.lo, -1⟩)).sn.hi by rw [aft, if_neg (by omega), if_neg (by omega)])
 go_wp2_with fail
 have kb86 := F77.bx8 0 rfl
 go_wp2_with fail
 exact bodyPost_ret (v := .agg #[.int .i64 ((jnd (frz l (cvd l x d) ⟨0, d.cold.hi⟩) (mlt l (cvd l x d) ⟨d.cold.lo, -1⟩)).bl.lo), .int .i64 ((jnd (frz l (cvd l x d) ⟨0, d.cold.hi⟩) (mlt l (cvd l x d) ⟨d.cold.lo, -1⟩)).bl.hi), .int .i64 ((jnd (frz l (cvd l x d) ⟨0, d.cold.hi⟩) (mlt l (cvd l x d) ⟨d.cold.lo, -1⟩)).wh.lo), .int .i64 ((jnd (frz l (cvd l x d) ⟨0, d.cold.hi⟩) (mlt l (cvd l x d) ⟨d.cold.lo, -1⟩)).wh.hi), .int .i64 ((jnd (frz l (cvd l x d) ⟨0, d.cold.hi⟩) (mlt l (cvd l x d) ⟨d.cold.lo, -1⟩)).we.lo), .int .i64 ((jnd (frz l (cvd l x d) ⟨0, d.cold.hi⟩) (mlt l (cvd l x d) ⟨d.cold.lo, -1⟩)).we.hi), .int .i64 ((jnd (frz l (cvd l x d) ⟨0, d.cold.hi⟩) (mlt l (cvd l x d) ⟨d.cold.lo, -1⟩)).sn.lo), .int .i64 ((jnd (frz l (cvd l x d) ⟨0, d.cold.hi⟩) (mlt l (cvd l x d) ⟨d.cold.lo, -1⟩)).sn.hi)]) (by simp [results, Tryz.results88, go_sem, kb86]) rfl (⟨by rw [Hx78.out, Hx79.out, Hx80.out, Hx81.out, Hx82.out, Hx83.out, Hx84.out, Hx85.out] <;> rfl, F77.gb⟩)
end Go.Proofs.YtcoldeolmleeiaaGreat
