/- frost: what is known of ice after a day; its bounds. -/
import Derived.Test.YtlefmbjipdlcfaaMF6
import Derived.Test.YtlefmbjipdlcfaaMF7
import Derived.Test.YtlefmbjipdlcfaaMF8
set_option linter.unusedVariables false
set_option linter.unusedSimpArgs false
set_option linter.unnecessarySimpa false
namespace Go.Proofs.Ytlefmbjipdlcfaa
open Go.RowKit
set_option maxRecDepth 100000
theorem cvd_K {l : Fro} {x : Ice} {d : Wea} {k : Int} (hL : LawOk l) (hx : IceK x k k) (hd : WeaOk d) : IceK (cvd l x d) k (k + 1) := by
 obtain ⟨⟨⟨xb1, xb2⟩, xb3, xb4⟩, ⟨⟨xw1, xw2⟩, xw3, xw4⟩, ⟨xe1, xe2⟩, ⟨xs1, xs2⟩, xm1, xm2⟩ := hx
 obtain ⟨⟨dc1, dc2, dc3⟩, ⟨df1, df2, df3⟩, dw1, dw2⟩ := hd
 obtain ⟨hs1, hs2⟩ := hL.soak
 unfold cvd
 have a1 : 0 <= (if d.clear = true then 0 else x.sn.lo) /\ (if d.clear = true then 0 else x.sn.lo) <= x.sn.lo := by split <;> omega
 have a2 : 0 <= (if d.clear = true then 0 else x.sn.hi) /\ (if d.clear = true then 0 else x.sn.hi) <= x.sn.hi := by split <;> omega
 generalize (if d.clear = true then 0 else x.sn.lo) = s1 at *
 generalize (if d.clear = true then 0 else x.sn.hi) = s2 at *
 have b1 := dn_bd (n := s1 + d.fall.lo) (p := l.soak) (by omega) (by omega) (by omega)
 have b2 := dn_bd (n := s2 + d.fall.hi) (p := l.soak) (by omega) (by omega) (by omega)
 split
 · exact ⟨⟨⟨xb1, xb2⟩, xb3, xb4⟩, ⟨⟨xw1, xw2⟩, xw3, xw4⟩, ⟨by show 0 <= x.we.lo + d.water + _; omega, by show 0 <= x.we.hi + d.water + _; omega⟩, ⟨Int.le_refl _, Int.le_refl _⟩, by show x.we.lo + d.water + _ + 0 <= _; omega, by show x.we.hi + d.water + _ + 0 <= _; omega⟩
 · exact ⟨⟨⟨xb1, xb2⟩, xb3, xb4⟩, ⟨⟨xw1, xw2⟩, xw3, xw4⟩, ⟨xe1, xe2⟩, ⟨by show 0 <= s1 + d.fall.lo; omega, by show 0 <= s2 + d.fall.hi; omega⟩, by show x.we.lo + (s1 + d.fall.lo) <= _; omega, by show x.we.hi + (s2 + d.fall.hi) <= _; omega⟩
set_option maxHeartbeats 8000000 in
theorem after_c (lo hi : Nat) (v : Value) (l : Fro) (x : Ice) (k : Int) (d : Wea) (w : World) (hl : Sl covEnc 3 lo hi w v l.cov) (h2 : hi <= w.heap.size) (hL : LawOk l) (hx : IceK x k k) (hk : 0 <= k /\ k <= 400) (hd : WeaOk d) :
  Calls Try.prog 64 #[.agg (froC l v), .agg (iceC x), .agg (weaC d d.clear)] w (Ret (.agg #[.int .i64 ((aft l x d).bl.lo), .int .i64 ((aft l x d).bl.hi), .int .i64 ((aft l x d).wh.lo), .int .i64 ((aft l x d).wh.hi), .int .i64 ((aft l x d).we.lo), .int .i64 ((aft l x d).we.hi), .int .i64 ((aft l x d).sn.lo), .int .i64 ((aft l x d).sn.hi)]) w) := by
 have HX := lhd hx
 have HD := lhd hd
 have F1 : Bun w [] w := Bun.nil _
 have hm_cs := hl.len
 unfold maxLen at hm_cs
 obtain ⟨sa, sc, rfl⟩ := hl.any
 replace F1 := F1.sl0 hl h2 rfl
 clear hl
 obtain ⟨⟨hg1, hg2⟩, ⟨hl1, hl2⟩, ⟨hn1, hn2⟩, hpt, ⟨hm1, hm2, hm3⟩, ⟨hs1, hs2⟩, ⟨hw1, hw2, hw3⟩⟩ := id hL
 have HL := lhd hL
 clear hL hpt
 obtain ⟨⟨⟨xb1, xb2⟩, xb3, xb4⟩, ⟨⟨xw1, xw2⟩, xw3, xw4⟩, ⟨xe1, xe2⟩, ⟨xs1, xs2⟩, xm1, xm2⟩ := hx
 obtain ⟨⟨dc1, dc2, dc3⟩, ⟨df1, df2, df3⟩, dw1, dw2⟩ := hd
 go_enter Try.func64, Try.ntmps64
 go_wp2_with fail
 replace F1 := F1.new 134 (froC l (.slice sa l.cov.length sc)) (n := w.heap.size) (by simp)
 replace F1 := F1.new 132 (iceC x) (n := (w.heap.size + 1)) (by simp)
 replace F1 := F1.new 126 (weaC d d.clear) (n := (w.heap.size + 2)) (by simp)
 replace F1 := F1.new 132 (z8) (n := (w.heap.size + 3)) (by simp)
 refine (covered_c lo hi _ l x k k d _ (F1.at 4 rfl : Sl covEnc 3 lo hi _ (.slice sa l.cov.length sc) l.cov) (Nat.le_trans h2 F1.gb.size) HL.out HX.out (by omega) HD.out).mono ?_
 rintro e w9 ⟨rfl, hg7⟩
 have hg7s := hg7.size
 (try simp at hg7s)
 replace F1 := F1.gn hg7
 clear hg7
 by_cases c11 : 0 <= d.cold.lo
 ·
  have c11H := lhd c11
  have b12 := F1.bx6 1 rfl
  have b13 := F1.bx8 2 rfl
  have b14 := F1.bx8 3 rfl
  go_wp2_with fail
  clear b12 b13 b14
  have F15 := (F1.front 2 rfl rfl).pt8 (.int .i64 ((cvd l x d).bl.lo)) (.int .i64 ((cvd l x d).bl.hi)) (.int .i64 ((cvd l x d).wh.lo)) (.int .i64 ((cvd l x d).wh.hi)) (.int .i64 ((cvd l x d).we.lo)) (.int .i64 ((cvd l x d).we.hi)) (.int .i64 ((cvd l x d).sn.lo)) (.int .i64 ((cvd l x d).sn.hi))
  clear F1
  refine (frozen_c lo hi _ l (cvd l x d) k (k + 1) d.cold _ (F15.at 4 rfl : Sl covEnc 3 lo hi _ (.slice sa l.cov.length sc) l.cov) (Nat.le_trans h2 F15.gb.size) HL.out (cvd_K HL.out HX.out HD.out) (by omega) (by first | omega | (simp only; omega))).mono ?_
  rintro e w18 ⟨rfl, hg16⟩
  have hg16s := hg16.size
  (try simp at hg16s)
  replace F15 := F15.gn hg16
  clear hg16
  have Hx20 := lhd (show (((aft l x d).bl.lo : Int)) = (frz l (cvd l x d) d.cold).bl.lo by rw [aft, if_pos c11H.out])
  have Hx21 := lhd (show (((aft l x d).bl.hi : Int)) = (frz l (cvd l x d) d.cold).bl.hi by rw [aft, if_pos c11H.out])
  have Hx22 := lhd (show (((aft l x d).wh.lo : Int)) = (frz l (cvd l x d) d.cold).wh.lo by rw [aft, if_pos c11H.out])
  have Hx23 := lhd (show (((aft l x d).wh.hi : Int)) = (frz l (cvd l x d) d.cold).wh.hi by rw [aft, if_pos c11H.out])
  have Hx24 := lhd (show (((aft l x d).we.lo : Int)) = (frz l (cvd l x d) d.cold).we.lo by rw [aft, if_pos c11H.out])
  have Hx25 := lhd (show (((aft l x d).we.hi : Int)) = (frz l (cvd l x d) d.cold).we.hi by rw [aft, if_pos c11H.out])
  have Hx26 := lhd (show (((aft l x d).sn.lo : Int)) = (frz l (cvd l x d) d.cold).sn.lo by rw [aft, if_pos c11H.out])
  have Hx27 := lhd (show (((aft l x d).sn.hi : Int)) = (frz l (cvd l x d) d.cold).sn.hi by rw [aft, if_pos c11H.out])
  have b28 := F15.bx8 1 rfl
  go_wp2_with fail
  clear b28
  have F29 := (F15.front 1 rfl rfl).pt8 (.int .i64 ((frz l (cvd l x d) d.cold).bl.lo)) (.int .i64 ((frz l (cvd l x d) d.cold).bl.hi)) (.int .i64 ((frz l (cvd l x d) d.cold).wh.lo)) (.int .i64 ((frz l (cvd l x d) d.cold).wh.hi)) (.int .i64 ((frz l (cvd l x d) d.cold).we.lo)) (.int .i64 ((frz l (cvd l x d) d.cold).we.hi)) (.int .i64 ((frz l (cvd l x d) d.cold).sn.lo)) (.int .i64 ((frz l (cvd l x d) d.cold).sn.hi))
  clear F15
  have kb30 := F29.bx8 0 rfl
  go_wp2_with fail
  exact bodyPost_ret (v := .agg #[.int .i64 ((frz l (cvd l x d) d.cold).bl.lo), .int .i64 ((frz l (cvd l x d) d.cold).bl.hi), .int .i64 ((frz l (cvd l x d) d.cold).wh.lo), .int .i64 ((frz l (cvd l x d) d.cold).wh.hi), .int .i64 ((frz l (cvd l x d) d.cold).we.lo), .int .i64 ((frz l (cvd l x d) d.cold).we.hi), .int .i64 ((frz l (cvd l x d) d.cold).sn.lo), .int .i64 ((frz l (cvd l x d) d.cold).sn.hi)]) (by simp [results, Try.results64, go_sem, kb30]) rfl (⟨by rw [Hx20.out, Hx21.out, Hx22.out, Hx23.out, Hx24.out, Hx25.out, Hx26.out, Hx27.out] <;> rfl, F29.gb⟩)
 have c11H := lhd c11
 have c11a : decide (0 <= d.cold.lo) = false := dec_f c11
 by_cases c31 : d.cold.hi < 0
 ·
  have c31H := lhd c31
  have b32 := F1.bx6 1 rfl
  have b33 := F1.bx8 2 rfl
  have b34 := F1.bx8 3 rfl
  go_wp2_with fail
  clear b32 b33 b34
  have F35 := (F1.front 2 rfl rfl).pt8 (.int .i64 ((cvd l x d).bl.lo)) (.int .i64 ((cvd l x d).bl.hi)) (.int .i64 ((cvd l x d).wh.lo)) (.int .i64 ((cvd l x d).wh.hi)) (.int .i64 ((cvd l x d).we.lo)) (.int .i64 ((cvd l x d).we.hi)) (.int .i64 ((cvd l x d).sn.lo)) (.int .i64 ((cvd l x d).sn.hi))
  clear F1
  refine (melted_c lo hi _ l (cvd l x d) k (k + 1) d.cold _ (F35.at 4 rfl : Sl covEnc 3 lo hi _ (.slice sa l.cov.length sc) l.cov) (Nat.le_trans h2 F35.gb.size) HL.out (cvd_K HL.out HX.out HD.out) (by omega) (by first | omega | (simp only; omega))).mono ?_
  rintro e w38 ⟨rfl, hg36⟩
  have hg36s := hg36.size
  (try simp at hg36s)
  replace F35 := F35.gn hg36
  clear hg36
  have Hx40 := lhd (show (((aft l x d).bl.lo : Int)) = (mlt l (cvd l x d) d.cold).bl.lo by rw [aft, if_neg (by omega), if_pos c31H.out])
  have Hx41 := lhd (show (((aft l x d).bl.hi : Int)) = (mlt l (cvd l x d) d.cold).bl.hi by rw [aft, if_neg (by omega), if_pos c31H.out])
  have Hx42 := lhd (show (((aft l x d).wh.lo : Int)) = (mlt l (cvd l x d) d.cold).wh.lo by rw [aft, if_neg (by omega), if_pos c31H.out])
  have Hx43 := lhd (show (((aft l x d).wh.hi : Int)) = (mlt l (cvd l x d) d.cold).wh.hi by rw [aft, if_neg (by omega), if_pos c31H.out])
  have Hx44 := lhd (show (((aft l x d).we.lo : Int)) = (mlt l (cvd l x d) d.cold).we.lo by rw [aft, if_neg (by omega), if_pos c31H.out])
  have Hx45 := lhd (show (((aft l x d).we.hi : Int)) = (mlt l (cvd l x d) d.cold).we.hi by rw [aft, if_neg (by omega), if_pos c31H.out])
  have Hx46 := lhd (show (((aft l x d).sn.lo : Int)) = (mlt l (cvd l x d) d.cold).sn.lo by rw [aft, if_neg (by omega), if_pos c31H.out])
  have Hx47 := lhd (show (((aft l x d).sn.hi : Int)) = (mlt l (cvd l x d) d.cold).sn.hi by rw [aft, if_neg (by omega), if_pos c31H.out])
  have b48 := F35.bx8 1 rfl
  go_wp2_with fail
  clear b48
  have F49 := (F35.front 1 rfl rfl).pt8 (.int .i64 ((mlt l (cvd l x d) d.cold).bl.lo)) (.int .i64 ((mlt l (cvd l x d) d.cold).bl.hi)) (.int .i64 ((mlt l (cvd l x d) d.cold).wh.lo)) (.int .i64 ((mlt l (cvd l x d) d.cold).wh.hi)) (.int .i64 ((mlt l (cvd l x d) d.cold).we.lo)) (.int .i64 ((mlt l (cvd l x d) d.cold).we.hi)) (.int .i64 ((mlt l (cvd l x d) d.cold).sn.lo)) (.int .i64 ((mlt l (cvd l x d) d.cold).sn.hi))
  clear F35
  have kb50 := F49.bx8 0 rfl
  go_wp2_with fail
  exact bodyPost_ret (v := .agg #[.int .i64 ((mlt l (cvd l x d) d.cold).bl.lo), .int .i64 ((mlt l (cvd l x d) d.cold).bl.hi), .int .i64 ((mlt l (cvd l x d) d.cold).wh.lo), .int .i64 ((mlt l (cvd l x d) d.cold).wh.hi), .int .i64 ((mlt l (cvd l x d) d.cold).we.lo), .int .i64 ((mlt l (cvd l x d) d.cold).we.hi), .int .i64 ((mlt l (cvd l x d) d.cold).sn.lo), .int .i64 ((mlt l (cvd l x d) d.cold).sn.hi)]) (by simp [results, Try.results64, go_sem, kb50]) rfl (⟨by rw [Hx40.out, Hx41.out, Hx42.out, Hx43.out, Hx44.out, Hx45.out, Hx46.out, Hx47.out] <;> rfl, F49.gb⟩)
 have c31H := lhd c31
 have c31a : decide (d.cold.hi < 0) = false := dec_f c31
 have b51 := F1.bx6 1 rfl
 have b52 := F1.bx8 2 rfl
 go_wp2_with fail
 clear b51 b52
 have F53 := (F1.front 2 rfl rfl).pt8 (.int .i64 ((cvd l x d).bl.lo)) (.int .i64 ((cvd l x d).bl.hi)) (.int .i64 ((cvd l x d).wh.lo)) (.int .i64 ((cvd l x d).wh.hi)) (.int .i64 ((cvd l x d).we.lo)) (.int .i64 ((cvd l x d).we.hi)) (.int .i64 ((cvd l x d).sn.lo)) (.int .i64 ((cvd l x d).sn.hi))
 clear F1
 obtain ⟨w54, hx55, F57, hxs56⟩ := (show Bun w [rbox (w.heap.size + 1) 132 #[.int .i64 ((cvd l x d).bl.lo), .int .i64 ((cvd l x d).bl.hi), .int .i64 ((cvd l x d).wh.lo), .int .i64 ((cvd l x d).wh.hi), .int .i64 ((cvd l x d).we.lo), .int .i64 ((cvd l x d).we.hi), .int .i64 ((cvd l x d).sn.lo), .int .i64 ((cvd l x d).sn.hi)], rbox (w.heap.size + 3) 132 (z8), rbox (w.heap.size + 2) 126 (weaC d d.clear), rbox w.heap.size 134 (froC l (.slice sa l.cov.length sc)), rsl covEnc 3 lo hi (.slice sa l.cov.length sc) l.cov] _ from F53).name
 (try simp at hxs56)
 rw [hx55]
 clear hx55 F53
 replace F57 := F57.drew
 refine ru_begin (fun W => W.cell? ⟨w.heap.size, 0, none⟩ = some (.int .i64 l.gr) /\ W.cell? ⟨w.heap.size, 1, none⟩ = some (.int .i64 l.la) /\ W.cell? ⟨w.heap.size, 2, none⟩ = some (.slice sa l.cov.length sc) /\ W.cell? ⟨w.heap.size, 3, none⟩ = some (.int .i64 l.melt.lo) /\ W.cell? ⟨w.heap.size, 4, none⟩ = some (.int .i64 l.melt.hi) /\ W.cell? ⟨w.heap.size, 5, none⟩ = some (.int .i64 l.soak) /\ W.cell? ⟨w.heap.size, 6, none⟩ = some (.int .i64 l.white.lo) /\ W.cell? ⟨w.heap.size, 7, none⟩ = some (.int .i64 l.white.hi) /\ W.cell? ⟨(w.heap.size + 1), 0, none⟩ = some (.int .i64 ((cvd l x d).bl.lo)) /\ W.cell? ⟨(w.heap.size + 1), 1, none⟩ = some (.int .i64 ((cvd l x d).bl.hi)) /\ W.cell? ⟨(w.heap.size + 1), 2, none⟩ = some (.int .i64 ((cvd l x d).wh.lo)) /\ W.cell? ⟨(w.heap.size + 1), 3, none⟩ = some (.int .i64 ((cvd l x d).wh.hi)) /\ W.cell? ⟨(w.heap.size + 1), 4, none⟩ = some (.int .i64 ((cvd l x d).we.lo)) /\ W.cell? ⟨(w.heap.size + 1), 5, none⟩ = some (.int .i64 ((cvd l x d).we.hi)) /\ W.cell? ⟨(w.heap.size + 1), 6, none⟩ = some (.int .i64 ((cvd l x d).sn.lo)) /\ W.cell? ⟨(w.heap.size + 1), 7, none⟩ = some (.int .i64 ((cvd l x d).sn.hi)) /\ W.cell? ⟨(w.heap.size + 2), 1, none⟩ = some (.int .i64 d.cold.hi) /\ W.cell? ⟨(w.heap.size + 2), 0, none⟩ = some (.int .i64 d.cold.lo)) 15 (by kernel_rfl) ?_ ?_
 · exact ⟨F57.q 3 0, F57.q 3 1, F57.q 3 2, F57.q 3 3, F57.q 3 4, F57.q 3 5, F57.q 3 6, F57.q 3 7, F57.q 0 0, F57.q 0 1, F57.q 0 2, F57.q 0 3, F57.q 0 4, F57.q 0 5, F57.q 0 6, F57.q 0 7, F57.q 2 1, F57.q 2 0⟩
 obtain ⟨wd60, hwd_⟩ : ∃ x : World, w54.drew = x := ⟨_, rfl⟩
 rw [hwd_] at F57 ⊢
 have wd60s : w54.heap.size <= wd60.heap.size := by rw [← hwd_]; exact Nat.le_refl _
 clear hwd_
 have hS59 := (And.intro (F57.q 3 0) (And.intro (F57.q 3 1) (And.intro (F57.q 3 2) (And.intro (F57.q 3 3) (And.intro (F57.q 3 4) (And.intro (F57.q 3 5) (And.intro (F57.q 3 6) (And.intro (F57.q 3 7) (And.intro (F57.q 0 0) (And.intro (F57.q 0 1) (And.intro (F57.q 0 2) (And.intro (F57.q 0 3) (And.intro (F57.q 0 4) (And.intro (F57.q 0 5) (And.intro (F57.q 0 6) (And.intro (F57.q 0 7) (And.intro (F57.q 2 1) (F57.q 2 0))))))))))))))))))
 refine ru_t 0 [] ?_
 refine ru_t 1 [] ?_
 refine ru_t 2 [] ?_
 refine ru_t 3 [] ?_
 refine ru_t 4 [] ?_
 refine ru_t 5 [] ?_
 refine ru_t 7 [] ?_
 refine ru_t 8 [] ?_
 refine ru_t 9 [] ?_
 refine ru_t 10 [] ?_
 refine ru_t 11 [] ?_
 refine ru_t 12 [] ?_
 (try simp only [lpX])
 clear hS59
 refine ru_one 6 rfl (by kernel_rfl) (fun K hK => ?_)
 go_simp
 refine (frozen_c lo hi _ l (cvd l x d) k (k + 1) ⟨0, d.cold.hi⟩ _ (F57.at 4 rfl : Sl covEnc 3 lo hi _ (.slice sa l.cov.length sc) l.cov) (Nat.le_trans h2 F57.gb.size) HL.out (cvd_K HL.out HX.out HD.out) (by omega) (by first | omega | (simp only; omega))).mono ?_
 rintro e w63 ⟨rfl, hg61⟩
 have hg61s := hg61.size
 (try simp at hg61s)
 replace F57 := F57.gn hg61
 refine ru_back hK (by exact ⟨F57.q 3 0, F57.q 3 1, F57.q 3 2, F57.q 3 3, F57.q 3 4, F57.q 3 5, F57.q 3 6, F57.q 3 7, F57.q 0 0, F57.q 0 1, F57.q 0 2, F57.q 0 3, F57.q 0 4, F57.q 0 5, F57.q 0 6, F57.q 0 7, F57.q 2 1, F57.q 2 0⟩) (fun _ => ?_)
 clear hK K
 (try simp only [lpX])
 refine ru_one 13 rfl (by kernel_rfl) (fun K hK => ?_)
 go_simp
 refine (melted_c lo hi _ l (cvd l x d) k (k + 1) ⟨d.cold.lo, -1⟩ _ (F57.at 4 rfl : Sl covEnc 3 lo hi _ (.slice sa l.cov.length sc) l.cov) (Nat.le_trans h2 F57.gb.size) HL.out (cvd_K HL.out HX.out HD.out) (by omega) (by first | omega | (simp only; omega))).mono ?_
 rintro e w67 ⟨rfl, hg65⟩
 have hg65s := hg65.size
 (try simp at hg65s)
 replace F57 := F57.gn hg65
 refine ru_back hK (by exact ⟨F57.q 3 0, F57.q 3 1, F57.q 3 2, F57.q 3 3, F57.q 3 4, F57.q 3 5, F57.q 3 6, F57.q 3 7, F57.q 0 0, F57.q 0 1, F57.q 0 2, F57.q 0 3, F57.q 0 4, F57.q 0 5, F57.q 0 6, F57.q 0 7, F57.q 2 1, F57.q 2 0⟩) (fun _ => ?_)
 clear hK K
 (try simp only [lpX])
 refine ru_one 14 rfl (by kernel_rfl) (fun K hK => ?_)
 go_simp
 refine (joined_c (frz l (cvd l x d) ⟨0, d.cold.hi⟩) (mlt l (cvd l x d) ⟨d.cold.lo, -1⟩) _).mono ?_
 rintro e w71 ⟨rfl, hg69⟩
 have hg69s := hg69.size
 (try simp at hg69s)
 replace F57 := F57.gn hg69
 refine ru_back hK (by exact ⟨F57.q 3 0, F57.q 3 1, F57.q 3 2, F57.q 3 3, F57.q 3 4, F57.q 3 5, F57.q 3 6, F57.q 3 7, F57.q 0 0, F57.q 0 1, F57.q 0 2, F57.q 0 3, F57.q 0 4, F57.q 0 5, F57.q 0 6, F57.q 0 7, F57.q 2 1, F57.q 2 0⟩) (fun _ => ?_)
 clear hK K
 (try simp only [lpX])
 refine ru_one 15 rfl (by kernel_rfl) (fun K hK => ?_)
 have kb_ := F57.bx8 1 rfl
 go_simp
 clear kb_
 have F73 := (F57.front 1 rfl rfl).pt8 (.int .i64 ((jnd (frz l (cvd l x d) ⟨0, d.cold.hi⟩) (mlt l (cvd l x d) ⟨d.cold.lo, -1⟩)).bl.lo)) (.int .i64 ((jnd (frz l (cvd l x d) ⟨0, d.cold.hi⟩) (mlt l (cvd l x d) ⟨d.cold.lo, -1⟩)).bl.hi)) (.int .i64 ((jnd (frz l (cvd l x d) ⟨0, d.cold.hi⟩) (mlt l (cvd l x d) ⟨d.cold.lo, -1⟩)).wh.lo)) (.int .i64 ((jnd (frz l (cvd l x d) ⟨0, d.cold.hi⟩) (mlt l (cvd l x d) ⟨d.cold.lo, -1⟩)).wh.hi)) (.int .i64 ((jnd (frz l (cvd l x d) ⟨0, d.cold.hi⟩) (mlt l (cvd l x d) ⟨d.cold.lo, -1⟩)).we.lo)) (.int .i64 ((jnd (frz l (cvd l x d) ⟨0, d.cold.hi⟩) (mlt l (cvd l x d) ⟨d.cold.lo, -1⟩)).we.hi)) (.int .i64 ((jnd (frz l (cvd l x d) ⟨0, d.cold.hi⟩) (mlt l (cvd l x d) ⟨d.cold.lo, -1⟩)).sn.lo)) (.int .i64 ((jnd (frz l (cvd l x d) ⟨0, d.cold.hi⟩) (mlt l (cvd l x d) ⟨d.cold.lo, -1⟩)).sn.hi))
 clear F57
 refine ru_back_late hK (by kernel_rfl) ?_
 clear hK K
 (try simp only [lpX])
 refine ru_done (by kernel_rfl) ?_
 obtain ⟨w74, hx75, F77, hxs76⟩ := (show Bun w [rbox (w.heap.size + 3) 132 #[.int .i64 ((jnd (frz l (cvd l x d) ⟨0, d.cold.hi⟩) (mlt l (cvd l x d) ⟨d.cold.lo, -1⟩)).bl.lo), .int .i64 ((jnd (frz l (cvd l x d) ⟨0, d.cold.hi⟩) (mlt l (cvd l x d) ⟨d.cold.lo, -1⟩)).bl.hi), .int .i64 ((jnd (frz l (cvd l x d) ⟨0, d.cold.hi⟩) (mlt l (cvd l x d) ⟨d.cold.lo, -1⟩)).wh.lo), .int .i64 ((jnd (frz l (cvd l x d) ⟨0, d.cold.hi⟩) (mlt l (cvd l x d) ⟨d.cold.lo, -1⟩)).wh.hi), .int .i64 ((jnd (frz l (cvd l x d) ⟨0, d.cold.hi⟩) (mlt l (cvd l x d) ⟨d.cold.lo, -1⟩)).we.lo), .int .i64 ((jnd (frz l (cvd l x d) ⟨0, d.cold.hi⟩) (mlt l (cvd l x d) ⟨d.cold.lo, -1⟩)).we.hi), .int .i64 ((jnd (frz l (cvd l x d) ⟨0, d.cold.hi⟩) (mlt l (cvd l x d) ⟨d.cold.lo, -1⟩)).sn.lo), .int .i64 ((jnd (frz l (cvd l x d) ⟨0, d.cold.hi⟩) (mlt l (cvd l x d) ⟨d.cold.lo, -1⟩)).sn.hi)], rsl covEnc 3 lo hi (.slice sa l.cov.length sc) l.cov] _ from (((F73.drop 1 rfl).drop 1 rfl).drop 1 rfl)).name
 (try simp at hxs76)
 rw [hx75]
 clear hx75 F73
 have Hx78 := lhd (show (((aft l x d).bl.lo : Int)) = (jnd (frz l (cvd l x d) ⟨0, d.cold.hi⟩) (mlt l (cvd l x d) ⟨d.cold.lo, -1⟩)).bl.lo by rw [aft, if_neg (by omega), if_neg (by omega)])
 have Hx79 := lhd (show (((aft l x d).bl.hi : Int)) = (jnd (frz l (cvd l x d) ⟨0, d.cold.hi⟩) (mlt l (cvd l x d) ⟨d.cold.lo, -1⟩)).bl.hi by rw [aft, if_neg (by omega), if_neg (by omega)])
 have Hx80 := lhd (show (((aft l x d).wh.lo : Int)) = (jnd (frz l (cvd l x d) ⟨0, d.cold.hi⟩) (mlt l (cvd l x d) ⟨d.cold.lo, -1⟩)).wh.lo by rw [aft, if_neg (by omega), if_neg (by omega)])
 have Hx81 := lhd (show (((aft l x d).wh.hi : Int)) = (jnd (frz l (cvd l x d) ⟨0, d.cold.hi⟩) (mlt l (cvd l x d) ⟨d.cold.lo, -1⟩)).wh.hi by rw [aft, if_neg (by omega), if_neg (by omega)])
 have Hx82 := lhd (show (((aft l x d).we.lo : Int)) = (jnd (frz l (cvd l x d) ⟨0, d.cold.hi⟩) (mlt l (cvd l x d) ⟨d.cold.lo, -1⟩)).we.lo by rw [aft, if_neg (by omega), if_neg (by omega)])
 have Hx83 := lhd (show (((aft l x d).we.hi : Int)) = (jnd (frz l (cvd l x d) ⟨0, d.cold.hi⟩) (mlt l (cvd l x d) ⟨d.cold.lo, -1⟩)).we.hi by rw [aft, if_neg (by omega), if_neg (by omega)])
 have Hx84 := lhd (show (((aft l x d).sn.lo : Int)) = (jnd (frz l (cvd l x d) ⟨0, d.cold.hi⟩) (mlt l (cvd l x d) ⟨d.cold.lo, -1⟩)).sn.lo by rw [aft, if_neg (by omega), if_neg (by omega)])
 have Hx85 := lhd (show (((aft l x d).sn.hi : Int)) = (jnd (frz l (cvd l x d) ⟨0, d.cold.hi⟩) (mlt l (cvd l x d) ⟨d.cold.lo, -1⟩)).sn.hi by rw [aft, if_neg (by omega), if_neg (by omega)])
 go_wp2_with fail
 have kb86 := F77.bx8 0 rfl
 go_wp2_with fail
 exact bodyPost_ret (v := .agg #[.int .i64 ((jnd (frz l (cvd l x d) ⟨0, d.cold.hi⟩) (mlt l (cvd l x d) ⟨d.cold.lo, -1⟩)).bl.lo), .int .i64 ((jnd (frz l (cvd l x d) ⟨0, d.cold.hi⟩) (mlt l (cvd l x d) ⟨d.cold.lo, -1⟩)).bl.hi), .int .i64 ((jnd (frz l (cvd l x d) ⟨0, d.cold.hi⟩) (mlt l (cvd l x d) ⟨d.cold.lo, -1⟩)).wh.lo), .int .i64 ((jnd (frz l (cvd l x d) ⟨0, d.cold.hi⟩) (mlt l (cvd l x d) ⟨d.cold.lo, -1⟩)).wh.hi), .int .i64 ((jnd (frz l (cvd l x d) ⟨0, d.cold.hi⟩) (mlt l (cvd l x d) ⟨d.cold.lo, -1⟩)).we.lo), .int .i64 ((jnd (frz l (cvd l x d) ⟨0, d.cold.hi⟩) (mlt l (cvd l x d) ⟨d.cold.lo, -1⟩)).we.hi), .int .i64 ((jnd (frz l (cvd l x d) ⟨0, d.cold.hi⟩) (mlt l (cvd l x d) ⟨d.cold.lo, -1⟩)).sn.lo), .int .i64 ((jnd (frz l (cvd l x d) ⟨0, d.cold.hi⟩) (mlt l (cvd l x d) ⟨d.cold.lo, -1⟩)).sn.hi)]) (by simp [results, Try.results64, go_sem, kb86]) rfl (⟨by rw [Hx78.out, Hx79.out, Hx80.out, Hx81.out, Hx82.out, Hx83.out, Hx84.out, Hx85.out] <;> rfl, F77.gb⟩)
end Go.Proofs.Ytlefmbjipdlcfaa
