/- frost: a day, walked. -/
import Derived.Test.YtcoldeolmleeiaaGreatKF5
set_option linter.unusedVariables false
set_option linter.unusedSimpArgs false
set_option linter.unnecessarySimpa false
namespace Go.Proofs.YtcoldeolmleeiaaGreat
open Go.RowKit
set_option maxRecDepth 100000
set_option maxHeartbeats 8000000 in
theorem covered_c (lo hi : Nat) (v : Value) (l : Fro) (x : Ice) (k m : Int) (d : Wea) (w : World) (hl : Sl covEnc 3 lo hi w v l.cov) (h2 : hi <= w.heap.size) (hL : LawOk l) (hx : IceK x k m) (hk : (0 <= k /\ k <= 401) /\ 0 <= m /\ m <= 401) (hd : WeaOk d) :
  Calls Tryz.prog 105 #[.agg (froC l v), .agg (iceC x), .agg (weaC d d.clear)] w (Ret (.agg #[.int .i64 ((cvd l x d).bl.lo), .int .i64 ((cvd l x d).bl.hi), .int .i64 ((cvd l x d).wh.lo), .int .i64 ((cvd l x d).wh.hi), .int .i64 ((cvd l x d).we.lo), .int .i64 ((cvd l x d).we.hi), .int .i64 ((cvd l x d).sn.lo), .int .i64 ((cvd l x d).sn.hi)]) w) := by
 have F1 : Bun w [] w := Bun.nil _
 have hm_cs := hl.len
 unfold maxLen at hm_cs
 obtain ⟨sa, sc, rfl⟩ := hl.any
 replace F1 := F1.sl0 hl h2 rfl
 clear hl
 obtain ⟨⟨hg1, hg2⟩, ⟨hl1, hl2⟩, ⟨hn1, hn2⟩, hpt, ⟨hm1, hm2, hm3⟩, ⟨hs1, hs2⟩, ⟨hw1, hw2, hw3⟩⟩ := id hL
 have HL := lhd hL
 clear hL hpt
 obtain ⟨⟨⟨xb1, xb2⟩, xb3, xb4⟩, ⟨⟨xw1, xw2⟩, xw3, xw4⟩, ⟨xe1, xe2⟩, ⟨xs1, xs2⟩, xm1, xm2⟩ := hx
 obtain ⟨⟨dc1, dc2, dc3⟩, ⟨df1, df2, df3⟩, dw1, dw2⟩ := hd
 go_enter Tryz.func105, Tryz.ntmps105
 cases c3 : d.clear
 ·
  have c3H := lhd c3
  go_wp2_with fail
  replace F1 := F1.new 139 (froC l (.slice sa l.cov.length sc)) (n := w.heap.size) (by simp)
  replace F1 := F1.new 142 (iceC x) (n := (w.heap.size + 1)) (by simp)
  replace F1 := F1.new 61 (weaC d false) (n := (w.heap.size + 2)) (by simp)
  replace F1 := F1.new 142 (z8) (n := (w.heap.size + 3)) (by simp)
  have Fn_ := F1
  (try dsimp only [lpF, lpG] at Fn_)
  obtain ⟨w9, hx10, F12, hxs11⟩ := Fn_.name
  (try simp at hxs11)
  rw [hx10]
  clear hx10 F1 Fn_
  have hw4 : IntKind.i64.wrap (x.sn.hi + d.fall.hi) = x.sn.hi + d.fall.hi := IntWalk.i64_in _ (by omega)
  replace F12 := F12.drew
  refine ru_begin (fun W => W.cell? ⟨(w.heap.size + 2), 2, none⟩ = some (.int .i64 d.fall.lo) /\ W.cell? ⟨(w.heap.size + 1), 7, none⟩ = some (.int .i64 x.sn.hi) /\ W.cell? ⟨(w.heap.size + 2), 3, none⟩ = some (.int .i64 d.fall.hi)) 19 (by kernel_rfl) ?_ ?_
  · exact ⟨F12.q 1 2, F12.q 2 7, F12.q 1 3⟩
  obtain ⟨wd15, hwd_⟩ : ∃ x : World, w9.drew = x := ⟨_, rfl⟩
  rw [hwd_] at F12 ⊢
  have wd15s : w9.heap.size <= wd15.heap.size := by rw [← hwd_]; exact Nat.le_refl _
  clear hwd_
  have hS14 := (And.intro (F12.q 1 2) (And.intro (F12.q 2 7) (F12.q 1 3)))
  refine ru_t 0 [] ?_
  refine ru_t 1 [] ?_
  refine ru_t 3 [] ?_
  refine ru_t 4 [] ?_
  refine ru_t 5 [] ?_
  refine ru_t 7 [] ?_
  refine ru_t 8 [] ?_
  refine ru_t 9 [] ?_
  refine ru_t 10 [] ?_
  refine ru_t 11 [] ?_
  refine ru_t 12 [] ?_
  refine ru_t 13 [] ?_
  (try simp only [lpX])
  clear hS14
  refine ru_o 2 fun K hK => ?_
  have kq0_ := F12.q 2 6
  go_simp
  clear kq0_
  refine ru_back hK (by exact ⟨F12.q 1 2, F12.q 2 7, F12.q 1 3⟩) (fun _ => ?_)
  clear hK K
  (try simp only [lpX])
  have hw16 : IntKind.i64.wrap (x.sn.lo + d.fall.lo) = x.sn.lo + d.fall.lo := IntWalk.i64_in _ (by omega)
  refine ru_p 6 ?_
  (try simp only [lpX])
  refine ru_p 14 ?_
  (try simp only [lpX])
  refine ru_p 15 ?_
  (try simp only [lpX])
  refine ru_o 16 fun K hK => ?_
  have kb_ := F12.bx8 2 rfl
  go_simp
  clear kb_
  have F17 := ((F12.front 2 rfl rfl).set 6 (.int .i64 (x.sn.lo + d.fall.lo))).nf #[.int .i64 x.bl.lo, .int .i64 x.bl.hi, .int .i64 x.wh.lo, .int .i64 x.wh.hi, .int .i64 x.we.lo, .int .i64 x.we.hi, .int .i64 (x.sn.lo + d.fall.lo), .int .i64 x.sn.hi] rfl
  clear F12
  refine ru_back hK (by exact ⟨F17.q 2 2, F17.q 0 7, F17.q 2 3⟩) (fun _ => ?_)
  clear hK K
  (try simp only [lpX])
  refine ru_p 17 ?_
  (try simp only [lpX])
  refine ru_p 18 ?_
  (try simp only [lpX])
  refine ru_o 19 fun K hK => ?_
  have kb_ := F17.bx8 0 rfl
  go_simp
  clear kb_
  have F18 := (F17.set 7 (.int .i64 (x.sn.hi + d.fall.hi))).nf #[.int .i64 x.bl.lo, .int .i64 x.bl.hi, .int .i64 x.wh.lo, .int .i64 x.wh.hi, .int .i64 x.we.lo, .int .i64 x.we.hi, .int .i64 (x.sn.lo + d.fall.lo), .int .i64 (x.sn.hi + d.fall.hi)] rfl
  clear F17
  refine ru_back_late hK (by kernel_rfl) ?_
  clear hK K
  (try simp only [lpX])
  refine ru_done (by kernel_rfl) ?_
  (try clear hw4 hw16)
  have Fn_ := F18
  (try dsimp only [lpF, lpG] at Fn_)
  obtain ⟨w19, hx20, F22, hxs21⟩ := Fn_.name
  (try simp at hxs21)
  rw [hx20]
  clear hx20 F18 Fn_
  by_cases c23 : 0 < d.water
  ·
   have c23H := lhd c23
   have b27 := F22.bx8 0 rfl
   have b28 := F22.bx6 2 rfl
   go_wp2_with fail
   clear b27 b28
   have F29 := (F22.set 6 (.int .i64 0)).nf #[.int .i64 x.bl.lo, .int .i64 x.bl.hi, .int .i64 x.wh.lo, .int .i64 x.wh.hi, .int .i64 x.we.lo, .int .i64 x.we.hi, .int .i64 0, .int .i64 (x.sn.hi + d.fall.hi)] rfl
   clear F22
   have F30 := (F29.set 7 (.int .i64 0)).nf #[.int .i64 x.bl.lo, .int .i64 x.bl.hi, .int .i64 x.wh.lo, .int .i64 x.wh.hi, .int .i64 x.we.lo, .int .i64 x.we.hi, .int .i64 0, .int .i64 0] rfl
   clear F29
   replace F30 := F30.new 32 #[.int .i64 (x.sn.lo + d.fall.lo), .int .i64 (x.sn.hi + d.fall.hi)] (n := w19.heap.size) (by simp)
   have Fn_ := F30
   (try dsimp only [lpF, lpG] at Fn_)
   obtain ⟨w32, hx33, F35, hxs34⟩ := Fn_.name
   (try simp at hxs34)
   rw [hx33]
   clear hx33 F30 Fn_
   have hw26 : IntKind.i64.wrap (x.we.hi + d.water) = x.we.hi + d.water := IntWalk.i64_in _ (by omega)
   replace F35 := F35.drew
   refine ru_begin (fun W => W.cell? ⟨(w.heap.size + 2), 4, none⟩ = some (.int .i64 d.water) /\ W.cell? ⟨w19.heap.size, 0, none⟩ = some (.int .i64 (x.sn.lo + d.fall.lo)) /\ W.cell? ⟨w.heap.size, 5, none⟩ = some (.int .i64 l.soak) /\ W.cell? ⟨(w.heap.size + 1), 5, none⟩ = some (.int .i64 x.we.hi) /\ W.cell? ⟨w19.heap.size, 1, none⟩ = some (.int .i64 (x.sn.hi + d.fall.hi))) 31 (by kernel_rfl) ?_ ?_
   · exact ⟨F35.q 3 4, F35.q 0 0, F35.q 4 5, F35.q 1 5, F35.q 0 1⟩
   obtain ⟨wd38, hwd_⟩ : ∃ x : World, w32.drew = x := ⟨_, rfl⟩
   rw [hwd_] at F35 ⊢
   have wd38s : w32.heap.size <= wd38.heap.size := by rw [← hwd_]; exact Nat.le_refl _
   clear hwd_
   have hS37 := (And.intro (F35.q 3 4) (And.intro (F35.q 0 0) (And.intro (F35.q 4 5) (And.intro (F35.q 1 5) (F35.q 0 1)))))
   refine ru_t 0 [] ?_
   refine ru_t 1 [] ?_
   refine ru_t 3 [] ?_
   refine ru_t 4 [] ?_
   refine ru_t 6 [] ?_
   refine ru_t 7 [] ?_
   refine ru_t 8 [] ?_
   refine ru_t 9 [] ?_
   refine ru_t 10 [] ?_
   refine ru_t 13 [] ?_
   refine ru_t 14 [] ?_
   refine ru_t 15 [] ?_
   refine ru_t 16 [] ?_
   refine ru_t 17 [] ?_
   refine ru_t 18 [] ?_
   refine ru_t 19 [] ?_
   refine ru_t 20 [] ?_
   refine ru_t 21 [] ?_
   refine ru_t 22 [] ?_
   refine ru_t 23 [] ?_
   (try simp only [lpX])
   clear hS37
   refine ru_two 2 11 rfl rfl (by kernel_rfl) ?_ ?_
   ·
    intro K hK
    have kq0_ := F35.q 1 4
    go_simp
    clear kq0_
    refine ru_back hK (by exact ⟨F35.q 3 4, F35.q 0 0, F35.q 4 5, F35.q 1 5, F35.q 0 1⟩) (fun _ => ?_)
    clear hK K
    (try simp only [lpX])
    have hw39 : IntKind.i64.wrap (x.we.lo + d.water) = x.we.lo + d.water := IntWalk.i64_in _ (by omega)
    refine ru_p 5 ?_
    (try simp only [lpX])
    refine ru_o 11 fun K hK => ?_
    go_simp
    refine (down_c _ _ _ (by omega) (by omega) (by omega) (by omega)).mono ?_
    rintro e _ ⟨rfl, rfl⟩
    have hd40 := dn_bd (n := (x.sn.lo + d.fall.lo)) (p := l.soak) (by omega) (by omega) (by omega)
    refine ru_back hK (by exact ⟨F35.q 3 4, F35.q 0 0, F35.q 4 5, F35.q 1 5, F35.q 0 1⟩) (fun _ => ?_)
    clear hK K
    (try simp only [lpX])
    have hw41 : IntKind.i64.wrap (x.we.lo + d.water + (dn (x.sn.lo + d.fall.lo) l.soak)) = x.we.lo + d.water + (dn (x.sn.lo + d.fall.lo) l.soak) := IntWalk.i64_in _ (by omega)
    refine ru_p 12 ?_
    (try simp only [lpX])
    refine ru_p 26 ?_
    (try simp only [lpX])
    refine ru_p 27 ?_
    (try simp only [lpX])
    refine ru_o 24 fun K hK => ?_
    go_simp
    refine (down_c _ _ _ (by omega) (by omega) (by omega) (by omega)).mono ?_
    rintro e _ ⟨rfl, rfl⟩
    have hd42 := dn_bd (n := (x.sn.hi + d.fall.hi)) (p := l.soak) (by omega) (by omega) (by omega)
    refine ru_back hK (by exact ⟨F35.q 3 4, F35.q 0 0, F35.q 4 5, F35.q 1 5, F35.q 0 1⟩) (fun _ => ?_)
    clear hK K
    (try simp only [lpX])
    have hw43 : IntKind.i64.wrap (x.we.hi + d.water + (dn (x.sn.hi + d.fall.hi) l.soak)) = x.we.hi + d.water + (dn (x.sn.hi + d.fall.hi) l.soak) := IntWalk.i64_in _ (by omega)
    refine ru_p 25 ?_
    (try simp only [lpX])
    refine ru_o 28 fun K hK => ?_
    have kb_ := F35.bx8 1 rfl
    go_simp
    clear kb_
    have F44 := ((F35.front 1 rfl rfl).set 4 (.int .i64 (x.we.lo + d.water + (dn (x.sn.lo + d.fall.lo) l.soak)))).nf #[.int .i64 x.bl.lo, .int .i64 x.bl.hi, .int .i64 x.wh.lo, .int .i64 x.wh.hi, .int .i64 (x.we.lo + d.water + (dn (x.sn.lo + d.fall.lo) l.soak)), .int .i64 x.we.hi, .int .i64 0, .int .i64 0] rfl
    clear F35
    refine ru_back hK (by exact ⟨F44.q 3 4, F44.q 1 0, F44.q 4 5, F44.q 0 5, F44.q 1 1⟩) (fun _ => ?_)
    clear hK K
    (try simp only [lpX])
    refine ru_p 29 ?_
    (try simp only [lpX])
    refine ru_p 30 ?_
    (try simp only [lpX])
    refine ru_o 31 fun K hK => ?_
    have kb_ := F44.bx8 0 rfl
    go_simp
    clear kb_
    have F45 := (F44.set 5 (.int .i64 (x.we.hi + d.water + (dn (x.sn.hi + d.fall.hi) l.soak)))).nf #[.int .i64 x.bl.lo, .int .i64 x.bl.hi, .int .i64 x.wh.lo, .int .i64 x.wh.hi, .int .i64 (x.we.lo + d.water + (dn (x.sn.lo + d.fall.lo) l.soak)), .int .i64 (x.we.hi + d.water + (dn (x.sn.hi + d.fall.hi) l.soak)), .int .i64 0, .int .i64 0] rfl
    clear F44
    refine ru_back_late hK (by kernel_rfl) ?_
    clear hK K
    (try simp only [lpX])
    refine ru_done (by kernel_rfl) ?_
    (try clear hw26 hw39 hw41 hw43)
    have Fn_ := (((F45.drop 1 rfl).drop 2 rfl).drop 2 rfl)
    (try dsimp only [lpF, lpG] at Fn_)
    obtain ⟨w46, hx47, F49, hxs48⟩ := Fn_.name
    (try simp at hxs48)
    rw [hx47]
    clear hx47 F45 Fn_
    have Hx50 := lhd (show ((cvd l x d).bl.lo) = x.bl.lo by simp [cvd, c3H.out, c23H.out])
    have Hx51 := lhd (show ((cvd l x d).bl.hi) = x.bl.hi by simp [cvd, c3H.out, c23H.out])
    have Hx52 := lhd (show ((cvd l x d).wh.lo) = x.wh.lo by simp [cvd, c3H.out, c23H.out])
    have Hx53 := lhd (show ((cvd l x d).wh.hi) = x.wh.hi by simp [cvd, c3H.out, c23H.out])
    have Hx54 := lhd (show ((cvd l x d).we.lo) = x.we.lo + d.water + (dn (x.sn.lo + d.fall.lo) l.soak) by simp [cvd, c3H.out, c23H.out])
    have Hx55 := lhd (show ((cvd l x d).we.hi) = x.we.hi + d.water + (dn (x.sn.hi + d.fall.hi) l.soak) by simp [cvd, c3H.out, c23H.out])
    have Hx56 := lhd (show ((cvd l x d).sn.lo) = 0 by simp [cvd, c3H.out, c23H.out])
    have Hx57 := lhd (show ((cvd l x d).sn.hi) = 0 by simp [cvd, c3H.out, c23H.out])
    have b58 := F49.bx8 0 rfl
    have b59 := F49.bx8 1 rfl
    go_wp2_with fail
    clear b58 b59
    have F60 := (F49.front 1 rfl rfl).pt8 (.int .i64 x.bl.lo) (.int .i64 x.bl.hi) (.int .i64 x.wh.lo) (.int .i64 x.wh.hi) (.int .i64 (x.we.lo + d.water + (dn (x.sn.lo + d.fall.lo) l.soak))) (.int .i64 (x.we.hi + d.water + (dn (x.sn.hi + d.fall.hi) l.soak))) (.int .i64 0) (.int .i64 0)
    clear F49
    have kb61 := F60.bx8 0 rfl
    go_wp2_with fail
    exact bodyPost_ret (v := .agg #[.int .i64 x.bl.lo, .int .i64 x.bl.hi, .int .i64 x.wh.lo, .int .i64 x.wh.hi, .int .i64 (x.we.lo + d.water + (dn (x.sn.lo + d.fall.lo) l.soak)), .int .i64 (x.we.hi + d.water + (dn (x.sn.hi + d.fall.hi) l.soak)), .int .i64 0, .int .i64 0]) (by simp [results, Tryz.results105, go_sem, kb61]) rfl (⟨by rw [Hx50.out, Hx51.out, Hx52.out, Hx53.out, Hx54.out, Hx55.out, Hx56.out, Hx57.out] <;> rfl, F60.gb⟩)
   intro K hK
   go_simp
   refine (down_c _ _ _ (by omega) (by omega) (by omega) (by omega)).mono ?_
   rintro e _ ⟨rfl, rfl⟩
   have hd62 := dn_bd (n := (x.sn.lo + d.fall.lo)) (p := l.soak) (by omega) (by omega) (by omega)
   refine ru_back hK (by exact ⟨F35.q 3 4, F35.q 0 0, F35.q 4 5, F35.q 1 5, F35.q 0 1⟩) (fun _ => ?_)
   clear hK K
   (try simp only [lpX])
   refine ru_two 2 24 rfl rfl (by kernel_rfl) ?_ ?_
   ·
    intro K hK
    have kq0_ := F35.q 1 4
    go_simp
    clear kq0_
    refine ru_back hK (by exact ⟨F35.q 3 4, F35.q 0 0, F35.q 4 5, F35.q 1 5, F35.q 0 1⟩) (fun _ => ?_)
    clear hK K
    (try simp only [lpX])
    have hw63 : IntKind.i64.wrap (x.we.lo + d.water) = x.we.lo + d.water := IntWalk.i64_in _ (by omega)
    refine ru_p 5 ?_
    (try simp only [lpX])
    have hw64 : IntKind.i64.wrap (x.we.lo + d.water + (dn (x.sn.lo + d.fall.lo) l.soak)) = x.we.lo + d.water + (dn (x.sn.lo + d.fall.lo) l.soak) := IntWalk.i64_in _ (by omega)
    refine ru_p 12 ?_
    (try simp only [lpX])
    refine ru_p 26 ?_
    (try simp only [lpX])
    refine ru_p 27 ?_
    (try simp only [lpX])
    refine ru_o 24 fun K hK => ?_
    go_simp
    refine (down_c _ _ _ (by omega) (by omega) (by omega) (by omega)).mono ?_
    rintro e _ ⟨rfl, rfl⟩
    have hd65 := dn_bd (n := (x.sn.hi + d.fall.hi)) (p := l.soak) (by omega) (by omega) (by omega)
    refine ru_back hK (by exact ⟨F35.q 3 4, F35.q 0 0, F35.q 4 5, F35.q 1 5, F35.q 0 1⟩) (fun _ => ?_)
    clear hK K
    (try simp only [lpX])
    have hw66 : IntKind.i64.wrap (x.we.hi + d.water + (dn (x.sn.hi + d.fall.hi) l.soak)) = x.we.hi + d.water + (dn (x.sn.hi + d.fall.hi) l.soak) := IntWalk.i64_in _ (by omega)
    refine ru_p 25 ?_
    (try simp only [lpX])
    refine ru_o 28 fun K hK => ?_
    have kb_ := F35.bx8 1 rfl
    go_simp
    clear kb_
    have F67 := ((F35.front 1 rfl rfl).set 4 (.int .i64 (x.we.lo + d.water + (dn (x.sn.lo + d.fall.lo) l.soak)))).nf #[.int .i64 x.bl.lo, .int .i64 x.bl.hi, .int .i64 x.wh.lo, .int .i64 x.wh.hi, .int .i64 (x.we.lo + d.water + (dn (x.sn.lo + d.fall.lo) l.soak)), .int .i64 x.we.hi, .int .i64 0, .int .i64 0] rfl
    clear F35
    refine ru_back hK (by exact ⟨F67.q 3 4, F67.q 1 0, F67.q 4 5, F67.q 0 5, F67.q 1 1⟩) (fun _ => ?_)
    clear hK K
    (try simp only [lpX])
    refine ru_p 29 ?_
    (try simp only [lpX])
    refine ru_p 30 ?_
    (try simp only [lpX])
    refine ru_o 31 fun K hK => ?_
    have kb_ := F67.bx8 0 rfl
    go_simp
    clear kb_
    have F68 := (F67.set 5 (.int .i64 (x.we.hi + d.water + (dn (x.sn.hi + d.fall.hi) l.soak)))).nf #[.int .i64 x.bl.lo, .int .i64 x.bl.hi, .int .i64 x.wh.lo, .int .i64 x.wh.hi, .int .i64 (x.we.lo + d.water + (dn (x.sn.lo + d.fall.lo) l.soak)), .int .i64 (x.we.hi + d.water + (dn (x.sn.hi + d.fall.hi) l.soak)), .int .i64 0, .int .i64 0] rfl
    clear F67
    refine ru_back_late hK (by kernel_rfl) ?_
    clear hK K
    (try simp only [lpX])
    refine ru_done (by kernel_rfl) ?_
    (try clear hw26 hw39 hw41 hw43 hw63 hw64 hw66)
    have Fn_ := (((F68.drop 1 rfl).drop 2 rfl).drop 2 rfl)
    (try dsimp only [lpF, lpG] at Fn_)
    obtain ⟨w69, hx70, F72, hxs71⟩ := Fn_.name
    (try simp at hxs71)
    rw [hx70]
    clear hx70 F68 Fn_
    have Hx73 := lhd (show ((cvd l x d).bl.lo) = x.bl.lo by simp [cvd, c3H.out, c23H.out])
    have Hx74 := lhd (show ((cvd l x d).bl.hi) = x.bl.hi by simp [cvd, c3H.out, c23H.out])
    have Hx75 := lhd (show ((cvd l x d).wh.lo) = x.wh.lo by simp [cvd, c3H.out, c23H.out])
    have Hx76 := lhd (show ((cvd l x d).wh.hi) = x.wh.hi by simp [cvd, c3H.out, c23H.out])
    have Hx77 := lhd (show ((cvd l x d).we.lo) = x.we.lo + d.water + (dn (x.sn.lo + d.fall.lo) l.soak) by simp [cvd, c3H.out, c23H.out])
    have Hx78 := lhd (show ((cvd l x d).we.hi) = x.we.hi + d.water + (dn (x.sn.hi + d.fall.hi) l.soak) by simp [cvd, c3H.out, c23H.out])
    have Hx79 := lhd (show ((cvd l x d).sn.lo) = 0 by simp [cvd, c3H.out, c23H.out])
    have Hx80 := lhd (show ((cvd l x d).sn.hi) = 0 by simp [cvd, c3H.out, c23H.out])
    have b81 := F72.bx8 0 rfl
    have b82 := F72.bx8 1 rfl
    go_wp2_with fail
    clear b81 b82
    have F83 := (F72.front 1 rfl rfl).pt8 (.int .i64 x.bl.lo) (.int .i64 x.bl.hi) (.int .i64 x.wh.lo) (.int .i64 x.wh.hi) (.int .i64 (x.we.lo + d.water + (dn (x.sn.lo + d.fall.lo) l.soak))) (.int .i64 (x.we.hi + d.water + (dn (x.sn.hi + d.fall.hi) l.soak))) (.int .i64 0) (.int .i64 0)
    clear F72
    have kb84 := F83.bx8 0 rfl
    go_wp2_with fail
    exact bodyPost_ret (v := .agg #[.int .i64 x.bl.lo, .int .i64 x.bl.hi, .int .i64 x.wh.lo, .int .i64 x.wh.hi, .int .i64 (x.we.lo + d.water + (dn (x.sn.lo + d.fall.lo) l.soak)), .int .i64 (x.we.hi + d.water + (dn (x.sn.hi + d.fall.hi) l.soak)), .int .i64 0, .int .i64 0]) (by simp [results, Tryz.results105, go_sem, kb84]) rfl (⟨by rw [Hx73.out, Hx74.out, Hx75.out, Hx76.out, Hx77.out, Hx78.out, Hx79.out, Hx80.out] <;> rfl, F83.gb⟩)
   intro K hK
   go_simp
   refine (down_c _ _ _ (by omega) (by omega) (by omega) (by omega)).mono ?_
   rintro e _ ⟨rfl, rfl⟩
   have hd85 := dn_bd (n := (x.sn.hi + d.fall.hi)) (p := l.soak) (by omega) (by omega) (by omega)
   refine ru_back hK (by exact ⟨F35.q 3 4, F35.q 0 0, F35.q 4 5, F35.q 1 5, F35.q 0 1⟩) (fun _ => ?_)
   clear hK K
   (try simp only [lpX])
   have hw86 : IntKind.i64.wrap (x.we.hi + d.water + (dn (x.sn.hi + d.fall.hi) l.soak)) = x.we.hi + d.water + (dn (x.sn.hi + d.fall.hi) l.soak) := IntWalk.i64_in _ (by omega)
   refine ru_p 25 ?_
   (try simp only [lpX])
   refine ru_o 2 fun K hK => ?_
   have kq0_ := F35.q 1 4
   go_simp
   clear kq0_
   refine ru_back hK (by exact ⟨F35.q 3 4, F35.q 0 0, F35.q 4 5, F35.q 1 5, F35.q 0 1⟩) (fun _ => ?_)
   clear hK K
   (try simp only [lpX])
   have hw87 : IntKind.i64.wrap (x.we.lo + d.water) = x.we.lo + d.water := IntWalk.i64_in _ (by omega)
   refine ru_p 5 ?_
   (try simp only [lpX])
   have hw88 : IntKind.i64.wrap (x.we.lo + d.water + (dn (x.sn.lo + d.fall.lo) l.soak)) = x.we.lo + d.water + (dn (x.sn.lo + d.fall.lo) l.soak) := IntWalk.i64_in _ (by omega)
   refine ru_p 12 ?_
   (try simp only [lpX])
   refine ru_p 26 ?_
   (try simp only [lpX])
   refine ru_p 27 ?_
   (try simp only [lpX])
   refine ru_o 28 fun K hK => ?_
   have kb_ := F35.bx8 1 rfl
   go_simp
   clear kb_
   have F89 := ((F35.front 1 rfl rfl).set 4 (.int .i64 (x.we.lo + d.water + (dn (x.sn.lo + d.fall.lo) l.soak)))).nf #[.int .i64 x.bl.lo, .int .i64 x.bl.hi, .int .i64 x.wh.lo, .int .i64 x.wh.hi, .int .i64 (x.we.lo + d.water + (dn (x.sn.lo + d.fall.lo) l.soak)), .int .i64 x.we.hi, .int .i64 0, .int .i64 0] rfl
   clear F35
   refine ru_back hK (by exact ⟨F89.q 3 4, F89.q 1 0, F89.q 4 5, F89.q 0 5, F89.q 1 1⟩) (fun _ => ?_)
   clear hK K
   (try simp only [lpX])
   refine ru_p 29 ?_
   (try simp only [lpX])
   refine ru_p 30 ?_
   (try simp only [lpX])
   refine ru_o 31 fun K hK => ?_
   have kb_ := F89.bx8 0 rfl
   go_simp
   clear kb_
   have F90 := (F89.set 5 (.int .i64 (x.we.hi + d.water + (dn (x.sn.hi + d.fall.hi) l.soak)))).nf #[.int .i64 x.bl.lo, .int .i64 x.bl.hi, .int .i64 x.wh.lo, .int .i64 x.wh.hi, .int .i64 (x.we.lo + d.water + (dn (x.sn.lo + d.fall.lo) l.soak)), .int .i64 (x.we.hi + d.water + (dn (x.sn.hi + d.fall.hi) l.soak)), .int .i64 0, .int .i64 0] rfl
   clear F89
   refine ru_back_late hK (by kernel_rfl) ?_
   clear hK K
   (try simp only [lpX])
   refine ru_done (by kernel_rfl) ?_
   (try clear hw26 hw39 hw41 hw43 hw63 hw64 hw66 hw86 hw87 hw88)
   have Fn_ := (((F90.drop 1 rfl).drop 2 rfl).drop 2 rfl)
   (try dsimp only [lpF, lpG] at Fn_)
   obtain ⟨w91, hx92, F94, hxs93⟩ := Fn_.name
   (try simp at hxs93)
   rw [hx92]
   clear hx92 F90 Fn_
   have Hx95 := lhd (show ((cvd l x d).bl.lo) = x.bl.lo by simp [cvd, c3H.out, c23H.out])
   have Hx96 := lhd (show ((cvd l x d).bl.hi) = x.bl.hi by simp [cvd, c3H.out, c23H.out])
   have Hx97 := lhd (show ((cvd l x d).wh.lo) = x.wh.lo by simp [cvd, c3H.out, c23H.out])
   have Hx98 := lhd (show ((cvd l x d).wh.hi) = x.wh.hi by simp [cvd, c3H.out, c23H.out])
   have Hx99 := lhd (show ((cvd l x d).we.lo) = x.we.lo + d.water + (dn (x.sn.lo + d.fall.lo) l.soak) by simp [cvd, c3H.out, c23H.out])
   have Hx100 := lhd (show ((cvd l x d).we.hi) = x.we.hi + d.water + (dn (x.sn.hi + d.fall.hi) l.soak) by simp [cvd, c3H.out, c23H.out])
   have Hx101 := lhd (show ((cvd l x d).sn.lo) = 0 by simp [cvd, c3H.out, c23H.out])
   have Hx102 := lhd (show ((cvd l x d).sn.hi) = 0 by simp [cvd, c3H.out, c23H.out])
   have b103 := F94.bx8 0 rfl
   have b104 := F94.bx8 1 rfl
   go_wp2_with fail
   clear b103 b104
   have F105 := (F94.front 1 rfl rfl).pt8 (.int .i64 x.bl.lo) (.int .i64 x.bl.hi) (.int .i64 x.wh.lo) (.int .i64 x.wh.hi) (.int .i64 (x.we.lo + d.water + (dn (x.sn.lo + d.fall.lo) l.soak))) (.int .i64 (x.we.hi + d.water + (dn (x.sn.hi + d.fall.hi) l.soak))) (.int .i64 0) (.int .i64 0)
   clear F94
   have kb106 := F105.bx8 0 rfl
   go_wp2_with fail
   exact bodyPost_ret (v := .agg #[.int .i64 x.bl.lo, .int .i64 x.bl.hi, .int .i64 x.wh.lo, .int .i64 x.wh.hi, .int .i64 (x.we.lo + d.water + (dn (x.sn.lo + d.fall.lo) l.soak)), .int .i64 (x.we.hi + d.water + (dn (x.sn.hi + d.fall.hi) l.soak)), .int .i64 0, .int .i64 0]) (by simp [results, Tryz.results105, go_sem, kb106]) rfl (⟨by rw [Hx95.out, Hx96.out, Hx97.out, Hx98.out, Hx99.out, Hx100.out, Hx101.out, Hx102.out] <;> rfl, F105.gb⟩)
  have c23H := lhd c23
  have c23a := dec_f c23
  have Hx107 := lhd (show ((cvd l x d).bl.lo) = x.bl.lo by simp [cvd, c3H.out, c23H.out])
  have Hx108 := lhd (show ((cvd l x d).bl.hi) = x.bl.hi by simp [cvd, c3H.out, c23H.out])
  have Hx109 := lhd (show ((cvd l x d).wh.lo) = x.wh.lo by simp [cvd, c3H.out, c23H.out])
  have Hx110 := lhd (show ((cvd l x d).wh.hi) = x.wh.hi by simp [cvd, c3H.out, c23H.out])
  have Hx111 := lhd (show ((cvd l x d).we.lo) = x.we.lo by simp [cvd, c3H.out, c23H.out])
  have Hx112 := lhd (show ((cvd l x d).we.hi) = x.we.hi by simp [cvd, c3H.out, c23H.out])
  have Hx113 := lhd (show ((cvd l x d).sn.lo) = x.sn.lo + d.fall.lo by simp [cvd, c3H.out, c23H.out])
  have Hx114 := lhd (show ((cvd l x d).sn.hi) = x.sn.hi + d.fall.hi by simp [cvd, c3H.out, c23H.out])
  have b115 := F22.bx8 0 rfl
  have b116 := F22.bx8 1 rfl
  have b117 := F22.bx6 2 rfl
  go_wp2_with fail
  clear b115 b116 b117
  have F118 := (F22.front 1 rfl rfl).pt8 (.int .i64 x.bl.lo) (.int .i64 x.bl.hi) (.int .i64 x.wh.lo) (.int .i64 x.wh.hi) (.int .i64 x.we.lo) (.int .i64 x.we.hi) (.int .i64 (x.sn.lo + d.fall.lo)) (.int .i64 (x.sn.hi + d.fall.hi))
  clear F22
  have kb119 := F118.bx8 0 rfl
  go_wp2_with fail
  exact bodyPost_ret (v := .agg #[.int .i64 x.bl.lo, .int .i64 x.bl.hi, .int .i64 x.wh.lo, .int .i64 x.wh.hi, .int .i64 x.we.lo, .int .i64 x.we.hi, .int .i64 (x.sn.lo + d.fall.lo), .int .i64 (x.sn.hi + d.fall.hi)]) (by simp [results, Tryz.results105, go_sem, kb119]) rfl (⟨by rw [Hx107.out, Hx108.out, Hx109.out, Hx110.out, Hx111.out, Hx112.out, Hx113.out, Hx114.out] <;> rfl, F118.gb⟩)
 have c3H := lhd c3
 go_wp2_with fail
 replace F1 := F1.new 139 (froC l (.slice sa l.cov.length sc)) (n := w.heap.size) (by simp)
 replace F1 := F1.new 142 #[.int .i64 x.bl.lo, .int .i64 x.bl.hi, .int .i64 x.wh.lo, .int .i64 x.wh.hi, .int .i64 x.we.lo, .int .i64 x.we.hi, .int .i64 0, .int .i64 0] (n := (w.heap.size + 1)) (by simp)
 replace F1 := F1.new 61 (weaC d true) (n := (w.heap.size + 2)) (by simp)
 replace F1 := F1.new 142 (z8) (n := (w.heap.size + 3)) (by simp)
 have Fn_ := F1
 (try dsimp only [lpF, lpG] at Fn_)
 obtain ⟨w125, hx126, F128, hxs127⟩ := Fn_.name
 (try simp at hxs127)
 rw [hx126]
 clear hx126 F1 Fn_
 have hw120 : IntKind.i64.wrap (d.fall.hi) = d.fall.hi := IntWalk.i64_in _ (by omega)
 replace F128 := F128.drew
 refine ru_begin (fun W => W.cell? ⟨(w.heap.size + 2), 2, none⟩ = some (.int .i64 d.fall.lo) /\ W.cell? ⟨(w.heap.size + 1), 7, none⟩ = some (.int .i64 0) /\ W.cell? ⟨(w.heap.size + 2), 3, none⟩ = some (.int .i64 d.fall.hi)) 19 (by kernel_rfl) ?_ ?_
 · exact ⟨F128.q 1 2, F128.q 2 7, F128.q 1 3⟩
 obtain ⟨wd131, hwd_⟩ : ∃ x : World, w125.drew = x := ⟨_, rfl⟩
 rw [hwd_] at F128 ⊢
 have wd131s : w125.heap.size <= wd131.heap.size := by rw [← hwd_]; exact Nat.le_refl _
 clear hwd_
 have hS130 := (And.intro (F128.q 1 2) (And.intro (F128.q 2 7) (F128.q 1 3)))
 refine ru_t 0 [] ?_
 refine ru_t 1 [] ?_
 refine ru_t 3 [] ?_
 refine ru_t 4 [] ?_
 refine ru_t 5 [] ?_
 refine ru_t 7 [] ?_
 refine ru_t 8 [] ?_
 refine ru_t 9 [] ?_
 refine ru_t 10 [] ?_
 refine ru_t 11 [] ?_
 refine ru_t 12 [] ?_
 refine ru_t 13 [] ?_
 (try simp only [lpX])
 clear hS130
 refine ru_o 2 fun K hK => ?_
 have kq0_ := F128.q 2 6
 go_simp
 clear kq0_
 refine ru_back hK (by exact ⟨F128.q 1 2, F128.q 2 7, F128.q 1 3⟩) (fun _ => ?_)
 clear hK K
 (try simp only [lpX])
 have hw132 : IntKind.i64.wrap (d.fall.lo) = d.fall.lo := IntWalk.i64_in _ (by omega)
 refine ru_p 6 ?_
 (try simp only [lpX])
 refine ru_p 14 ?_
 (try simp only [lpX])
 refine ru_p 15 ?_
 (try simp only [lpX])
 refine ru_o 16 fun K hK => ?_
 have kb_ := F128.bx8 2 rfl
 go_simp
 clear kb_
 have F133 := ((F128.front 2 rfl rfl).set 6 (.int .i64 d.fall.lo)).nf #[.int .i64 x.bl.lo, .int .i64 x.bl.hi, .int .i64 x.wh.lo, .int .i64 x.wh.hi, .int .i64 x.we.lo, .int .i64 x.we.hi, .int .i64 d.fall.lo, .int .i64 0] rfl
 clear F128
 refine ru_back hK (by exact ⟨F133.q 2 2, F133.q 0 7, F133.q 2 3⟩) (fun _ => ?_)
 clear hK K
 (try simp only [lpX])
 refine ru_p 17 ?_
 (try simp only [lpX])
 refine ru_p 18 ?_
 (try simp only [lpX])
 refine ru_o 19 fun K hK => ?_
 have kb_ := F133.bx8 0 rfl
 go_simp
 clear kb_
 have F134 := (F133.set 7 (.int .i64 d.fall.hi)).nf #[.int .i64 x.bl.lo, .int .i64 x.bl.hi, .int .i64 x.wh.lo, .int .i64 x.wh.hi, .int .i64 x.we.lo, .int .i64 x.we.hi, .int .i64 d.fall.lo, .int .i64 d.fall.hi] rfl
 clear F133
 refine ru_back_late hK (by kernel_rfl) ?_
 clear hK K
 (try simp only [lpX])
 refine ru_done (by kernel_rfl) ?_
 (try clear hw120 hw132)
 have Fn_ := F134
 (try dsimp only [lpF, lpG] at Fn_)
 obtain ⟨w135, hx136, F138, hxs137⟩ := Fn_.name
 (try simp at hxs137)
 rw [hx136]
 clear hx136 F134 Fn_
 by_cases c139 : 0 < d.water
 ·
  have c139H := lhd c139
  have b143 := F138.bx8 0 rfl
  have b144 := F138.bx6 2 rfl
  go_wp2_with fail
  clear b143 b144
  have F145 := (F138.set 6 (.int .i64 0)).nf #[.int .i64 x.bl.lo, .int .i64 x.bl.hi, .int .i64 x.wh.lo, .int .i64 x.wh.hi, .int .i64 x.we.lo, .int .i64 x.we.hi, .int .i64 0, .int .i64 d.fall.hi] rfl
  clear F138
  have F146 := (F145.set 7 (.int .i64 0)).nf #[.int .i64 x.bl.lo, .int .i64 x.bl.hi, .int .i64 x.wh.lo, .int .i64 x.wh.hi, .int .i64 x.we.lo, .int .i64 x.we.hi, .int .i64 0, .int .i64 0] rfl
  clear F145
  replace F146 := F146.new 32 #[.int .i64 d.fall.lo, .int .i64 d.fall.hi] (n := w135.heap.size) (by simp)
  have Fn_ := F146
  (try dsimp only [lpF, lpG] at Fn_)
  obtain ⟨w148, hx149, F151, hxs150⟩ := Fn_.name
  (try simp at hxs150)
  rw [hx149]
  clear hx149 F146 Fn_
  have hw142 : IntKind.i64.wrap (x.we.hi + d.water) = x.we.hi + d.water := IntWalk.i64_in _ (by omega)
  replace F151 := F151.drew
  refine ru_begin (fun W => W.cell? ⟨(w.heap.size + 2), 4, none⟩ = some (.int .i64 d.water) /\ W.cell? ⟨w135.heap.size, 0, none⟩ = some (.int .i64 d.fall.lo) /\ W.cell? ⟨w.heap.size, 5, none⟩ = some (.int .i64 l.soak) /\ W.cell? ⟨(w.heap.size + 1), 5, none⟩ = some (.int .i64 x.we.hi) /\ W.cell? ⟨w135.heap.size, 1, none⟩ = some (.int .i64 d.fall.hi)) 31 (by kernel_rfl) ?_ ?_
  · exact ⟨F151.q 3 4, F151.q 0 0, F151.q 4 5, F151.q 1 5, F151.q 0 1⟩
  obtain ⟨wd154, hwd_⟩ : ∃ x : World, w148.drew = x := ⟨_, rfl⟩
  rw [hwd_] at F151 ⊢
  have wd154s : w148.heap.size <= wd154.heap.size := by rw [← hwd_]; exact Nat.le_refl _
  clear hwd_
  have hS153 := (And.intro (F151.q 3 4) (And.intro (F151.q 0 0) (And.intro (F151.q 4 5) (And.intro (F151.q 1 5) (F151.q 0 1)))))
  refine ru_t 0 [] ?_
  refine ru_t 1 [] ?_
  refine ru_t 3 [] ?_
  refine ru_t 4 [] ?_
  refine ru_t 6 [] ?_
  refine ru_t 7 [] ?_
  refine ru_t 8 [] ?_
  refine ru_t 9 [] ?_
  refine ru_t 10 [] ?_
  refine ru_t 13 [] ?_
  refine ru_t 14 [] ?_
  refine ru_t 15 [] ?_
  refine ru_t 16 [] ?_
  refine ru_t 17 [] ?_
  refine ru_t 18 [] ?_
  refine ru_t 19 [] ?_
  refine ru_t 20 [] ?_
  refine ru_t 21 [] ?_
  refine ru_t 22 [] ?_
  refine ru_t 23 [] ?_
  (try simp only [lpX])
  clear hS153
  refine ru_two 2 11 rfl rfl (by kernel_rfl) ?_ ?_
  ·
   intro K hK
   have kq0_ := F151.q 1 4
   go_simp
   clear kq0_
   refine ru_back hK (by exact ⟨F151.q 3 4, F151.q 0 0, F151.q 4 5, F151.q 1 5, F151.q 0 1⟩) (fun _ => ?_)
   clear hK K
   (try simp only [lpX])
   have hw155 : IntKind.i64.wrap (x.we.lo + d.water) = x.we.lo + d.water := IntWalk.i64_in _ (by omega)
   refine ru_p 5 ?_
   (try simp only [lpX])
   refine ru_o 11 fun K hK => ?_
   go_simp
   refine (down_c _ _ _ (by omega) (by omega) (by omega) (by omega)).mono ?_
   rintro e _ ⟨rfl, rfl⟩
   have hd156 := dn_bd (n := d.fall.lo) (p := l.soak) (by omega) (by omega) (by omega)
   refine ru_back hK (by exact ⟨F151.q 3 4, F151.q 0 0, F151.q 4 5, F151.q 1 5, F151.q 0 1⟩) (fun _ => ?_)
   clear hK K
   (try simp only [lpX])
   have hw157 : IntKind.i64.wrap (x.we.lo + d.water + (dn d.fall.lo l.soak)) = x.we.lo + d.water + (dn d.fall.lo l.soak) := IntWalk.i64_in _ (by omega)
   refine ru_p 12 ?_
   (try simp only [lpX])
   refine ru_p 26 ?_
   (try simp only [lpX])
   refine ru_p 27 ?_
   (try simp only [lpX])
   refine ru_o 24 fun K hK => ?_
   go_simp
   refine (down_c _ _ _ (by omega) (by omega) (by omega) (by omega)).mono ?_
   rintro e _ ⟨rfl, rfl⟩
   have hd158 := dn_bd (n := d.fall.hi) (p := l.soak) (by omega) (by omega) (by omega)
   refine ru_back hK (by exact ⟨F151.q 3 4, F151.q 0 0, F151.q 4 5, F151.q 1 5, F151.q 0 1⟩) (fun _ => ?_)
   clear hK K
   (try simp only [lpX])
   have hw159 : IntKind.i64.wrap (x.we.hi + d.water + (dn d.fall.hi l.soak)) = x.we.hi + d.water + (dn d.fall.hi l.soak) := IntWalk.i64_in _ (by omega)
   refine ru_p 25 ?_
   (try simp only [lpX])
   refine ru_o 28 fun K hK => ?_
   have kb_ := F151.bx8 1 rfl
   go_simp
   clear kb_
   have F160 := ((F151.front 1 rfl rfl).set 4 (.int .i64 (x.we.lo + d.water + (dn d.fall.lo l.soak)))).nf #[.int .i64 x.bl.lo, .int .i64 x.bl.hi, .int .i64 x.wh.lo, .int .i64 x.wh.hi, .int .i64 (x.we.lo + d.water + (dn d.fall.lo l.soak)), .int .i64 x.we.hi, .int .i64 0, .int .i64 0] rfl
   clear F151
   refine ru_back hK (by exact ⟨F160.q 3 4, F160.q 1 0, F160.q 4 5, F160.q 0 5, F160.q 1 1⟩) (fun _ => ?_)
   clear hK K
   (try simp only [lpX])
   refine ru_p 29 ?_
   (try simp only [lpX])
   refine ru_p 30 ?_
   (try simp only [lpX])
   refine ru_o 31 fun K hK => ?_
   have kb_ := F160.bx8 0 rfl
   go_simp
   clear kb_
   have F161 := (F160.set 5 (.int .i64 (x.we.hi + d.water + (dn d.fall.hi l.soak)))).nf #[.int .i64 x.bl.lo, .int .i64 x.bl.hi, .int .i64 x.wh.lo, .int .i64 x.wh.hi, .int .i64 (x.we.lo + d.water + (dn d.fall.lo l.soak)), .int .i64 (x.we.hi + d.water + (dn d.fall.hi l.soak)), .int .i64 0, .int .i64 0] rfl
   clear F160
   refine ru_back_late hK (by kernel_rfl) ?_
   clear hK K
   (try simp only [lpX])
   refine ru_done (by kernel_rfl) ?_
   (try clear hw142 hw155 hw157 hw159)
   have Fn_ := (((F161.drop 1 rfl).drop 2 rfl).drop 2 rfl)
   (try dsimp only [lpF, lpG] at Fn_)
   obtain ⟨w162, hx163, F165, hxs164⟩ := Fn_.name
   (try simp at hxs164)
   rw [hx163]
   clear hx163 F161 Fn_
   have Hx166 := lhd (show ((cvd l x d).bl.lo) = x.bl.lo by simp [cvd, c3H.out, c139H.out])
   have Hx167 := lhd (show ((cvd l x d).bl.hi) = x.bl.hi by simp [cvd, c3H.out, c139H.out])
   have Hx168 := lhd (show ((cvd l x d).wh.lo) = x.wh.lo by simp [cvd, c3H.out, c139H.out])
   have Hx169 := lhd (show ((cvd l x d).wh.hi) = x.wh.hi by simp [cvd, c3H.out, c139H.out])
   have Hx170 := lhd (show ((cvd l x d).we.lo) = x.we.lo + d.water + (dn d.fall.lo l.soak) by simp [cvd, c3H.out, c139H.out])
   have Hx171 := lhd (show ((cvd l x d).we.hi) = x.we.hi + d.water + (dn d.fall.hi l.soak) by simp [cvd, c3H.out, c139H.out])
   have Hx172 := lhd (show ((cvd l x d).sn.lo) = 0 by simp [cvd, c3H.out, c139H.out])
   have Hx173 := lhd (show ((cvd l x d).sn.hi) = 0 by simp [cvd, c3H.out, c139H.out])
   have b174 := F165.bx8 0 rfl
   have b175 := F165.bx8 1 rfl
   go_wp2_with fail
   clear b174 b175
   have F176 := (F165.front 1 rfl rfl).pt8 (.int .i64 x.bl.lo) (.int .i64 x.bl.hi) (.int .i64 x.wh.lo) (.int .i64 x.wh.hi) (.int .i64 (x.we.lo + d.water + (dn d.fall.lo l.soak))) (.int .i64 (x.we.hi + d.water + (dn d.fall.hi l.soak))) (.int .i64 0) (.int .i64 0)
   clear F165
   have kb177 := F176.bx8 0 rfl
   go_wp2_with fail
   exact bodyPost_ret (v := .agg #[.int .i64 x.bl.lo, .int .i64 x.bl.hi, .int .i64 x.wh.lo, .int .i64 x.wh.hi, .int .i64 (x.we.lo + d.water + (dn d.fall.lo l.soak)), .int .i64 (x.we.hi + d.water + (dn d.fall.hi l.soak)), .int .i64 0, .int .i64 0]) (by simp [results, Tryz.results105, go_sem, kb177]) rfl (⟨by rw [Hx166.out, Hx167.out, Hx168.out, Hx169.out, Hx170.out, Hx171.out, Hx172.out, Hx173.out] <;> rfl, F176.gb⟩)
  intro K hK
  go_simp
  refine (down_c _ _ _ (by omega) (by omega) (by omega) (by omega)).mono ?_
  rintro e _ ⟨rfl, rfl⟩
  have hd178 := dn_bd (n := d.fall.lo) (p := l.soak) (by omega) (by omega) (by omega)
  refine ru_back hK (by exact ⟨F151.q 3 4, F151.q 0 0, F151.q 4 5, F151.q 1 5, F151.q 0 1⟩) (fun _ => ?_)
  clear hK K
  (try simp only [lpX])
  refine ru_two 2 24 rfl rfl (by kernel_rfl) ?_ ?_
  ·
   intro K hK
   have kq0_ := F151.q 1 4
   go_simp
   clear kq0_
   refine ru_back hK (by exact ⟨F151.q 3 4, F151.q 0 0, F151.q 4 5, F151.q 1 5, F151.q 0 1⟩) (fun _ => ?_)
   clear hK K
   (try simp only [lpX])
   have hw179 : IntKind.i64.wrap (x.we.lo + d.water) = x.we.lo + d.water := IntWalk.i64_in _ (by omega)
   refine ru_p 5 ?_
   (try simp only [lpX])
   have hw180 : IntKind.i64.wrap (x.we.lo + d.water + (dn d.fall.lo l.soak)) = x.we.lo + d.water + (dn d.fall.lo l.soak) := IntWalk.i64_in _ (by omega)
   refine ru_p 12 ?_
   (try simp only [lpX])
   refine ru_p 26 ?_
   (try simp only [lpX])
   refine ru_p 27 ?_
   (try simp only [lpX])
   refine ru_o 24 fun K hK => ?_
   go_simp
   refine (down_c _ _ _ (by omega) (by omega) (by omega) (by omega)).mono ?_
   rintro e _ ⟨rfl, rfl⟩
   have hd181 := dn_bd (n := d.fall.hi) (p := l.soak) (by omega) (by omega) (by omega)
   refine ru_back hK (by exact ⟨F151.q 3 4, F151.q 0 0, F151.q 4 5, F151.q 1 5, F151.q 0 1⟩) (fun _ => ?_)
   clear hK K
   (try simp only [lpX])
   have hw182 : IntKind.i64.wrap (x.we.hi + d.water + (dn d.fall.hi l.soak)) = x.we.hi + d.water + (dn d.fall.hi l.soak) := IntWalk.i64_in _ (by omega)
   refine ru_p 25 ?_
   (try simp only [lpX])
   refine ru_o 28 fun K hK => ?_
   have kb_ := F151.bx8 1 rfl
   go_simp
   clear kb_
   have F183 := ((F151.front 1 rfl rfl).set 4 (.int .i64 (x.we.lo + d.water + (dn d.fall.lo l.soak)))).nf #[.int .i64 x.bl.lo, .int .i64 x.bl.hi, .int .i64 x.wh.lo, .int .i64 x.wh.hi, .int .i64 (x.we.lo + d.water + (dn d.fall.lo l.soak)), .int .i64 x.we.hi, .int .i64 0, .int .i64 0] rfl
   clear F151
   refine ru_back hK (by exact ⟨F183.q 3 4, F183.q 1 0, F183.q 4 5, F183.q 0 5, F183.q 1 1⟩) (fun _ => ?_)
   clear hK K
   (try simp only [lpX])
   refine ru_p 29 ?_
   (try simp only [lpX])
   refine ru_p 30 ?_
   (try simp only [lpX])
   refine ru_o 31 fun K hK => ?_
   have kb_ := F183.bx8 0 rfl
   go_simp
   clear kb_
   have F184 := (F183.set 5 (.int .i64 (x.we.hi + d.water + (dn d.fall.hi l.soak)))).nf #[.int .i64 x.bl.lo, .int .i64 x.bl.hi, .int .i64 x.wh.lo, .int .i64 x.wh.hi, .int .i64 (x.we.lo + d.water + (dn d.fall.lo l.soak)), .int .i64 (x.we.hi + d.water + (dn d.fall.hi l.soak)), .int .i64 0, .int .i64 0] rfl
   clear F183
   refine ru_back_late hK (by kernel_rfl) ?_
   clear hK K
   (try simp only [lpX])
   refine ru_done (by kernel_rfl) ?_
   (try clear hw142 hw155 hw157 hw159 hw179 hw180 hw182)
   have Fn_ := (((F184.drop 1 rfl).drop 2 rfl).drop 2 rfl)
   (try dsimp only [lpF, lpG] at Fn_)
   obtain ⟨w185, hx186, F188, hxs187⟩ := Fn_.name
   (try simp at hxs187)
   rw [hx186]
   clear hx186 F184 Fn_
   have Hx189 := lhd (show ((cvd l x d).bl.lo) = x.bl.lo by simp [cvd, c3H.out, c139H.out])
   have Hx190 := lhd (show ((cvd l x d).bl.hi) = x.bl.hi by simp [cvd, c3H.out, c139H.out])
   have Hx191 := lhd (show ((cvd l x d).wh.lo) = x.wh.lo by simp [cvd, c3H.out, c139H.out])
   have Hx192 := lhd (show ((cvd l x d).wh.hi) = x.wh.hi by simp [cvd, c3H.out, c139H.out])
   have Hx193 := lhd (show ((cvd l x d).we.lo) = x.we.lo + d.water + (dn d.fall.lo l.soak) by simp [cvd, c3H.out, c139H.out])
   have Hx194 := lhd (show ((cvd l x d).we.hi) = x.we.hi + d.water + (dn d.fall.hi l.soak) by simp [cvd, c3H.out, c139H.out])
   have Hx195 := lhd (show ((cvd l x d).sn.lo) = 0 by simp [cvd, c3H.out, c139H.out])
   have Hx196 := lhd (show ((cvd l x d).sn.hi) = 0 by simp [cvd, c3H.out, c139H.out])
   have b197 := F188.bx8 0 rfl
   have b198 := F188.bx8 1 rfl
   go_wp2_with fail
   clear b197 b198
   have F199 := (F188.front 1 rfl rfl).pt8 (.int .i64 x.bl.lo) (.int .i64 x.bl.hi) (.int .i64 x.wh.lo) (.int .i64 x.wh.hi) (.int .i64 (x.we.lo + d.water + (dn d.fall.lo l.soak))) (.int .i64 (x.we.hi + d.water + (dn d.fall.hi l.soak))) (.int .i64 0) (.int .i64 0)
   clear F188
   have kb200 := F199.bx8 0 rfl
   go_wp2_with fail
   exact bodyPost_ret (v := .agg #[.int .i64 x.bl.lo, .int .i64 x.bl.hi, .int .i64 x.wh.lo, .int .i64 x.wh.hi, .int .i64 (x.we.lo + d.water + (dn d.fall.lo l.soak)), .int .i64 (x.we.hi + d.water + (dn d.fall.hi l.soak)), .int .i64 0, .int .i64 0]) (by simp [results, Tryz.results105, go_sem, kb200]) rfl (⟨by rw [Hx189.out, Hx190.out, Hx191.out, Hx192.out, Hx193.out, Hx194.out, Hx195.out, Hx196.out] <;> rfl, F199.gb⟩)
  intro K hK
  go_simp
  refine (down_c _ _ _ (by omega) (by omega) (by omega) (by omega)).mono ?_
  rintro e _ ⟨rfl, rfl⟩
  have hd201 := dn_bd (n := d.fall.hi) (p := l.soak) (by omega) (by omega) (by omega)
  refine ru_back hK (by exact ⟨F151.q 3 4, F151.q 0 0, F151.q 4 5, F151.q 1 5, F151.q 0 1⟩) (fun _ => ?_)
  clear hK K
  (try simp only [lpX])
  have hw202 : IntKind.i64.wrap (x.we.hi + d.water + (dn d.fall.hi l.soak)) = x.we.hi + d.water + (dn d.fall.hi l.soak) := IntWalk.i64_in _ (by omega)
  refine ru_p 25 ?_
  (try simp only [lpX])
  refine ru_o 2 fun K hK => ?_
  have kq0_ := F151.q 1 4
  go_simp
  clear kq0_
  refine ru_back hK (by exact ⟨F151.q 3 4, F151.q 0 0, F151.q 4 5, F151.q 1 5, F151.q 0 1⟩) (fun _ => ?_)
  clear hK K
  (try simp only [lpX])
  have hw203 : IntKind.i64.wrap (x.we.lo + d.water) = x.we.lo + d.water := IntWalk.i64_in _ (by omega)
  refine ru_p 5 ?_
  (try simp only [lpX])
  have hw204 : IntKind.i64.wrap (x.we.lo + d.water + (dn d.fall.lo l.soak)) = x.we.lo + d.water + (dn d.fall.lo l.soak) := IntWalk.i64_in _ (by omega)
  refine ru_p 12 ?_
  (try simp only [lpX])
  refine ru_p 26 ?_
  (try simp only [lpX])
  refine ru_p 27 ?_
  (try simp only [lpX])
  refine ru_o 28 fun K hK => ?_
  have kb_ := F151.bx8 1 rfl
  go_simp
  clear kb_
  have F205 := ((F151.front 1 rfl rfl).set 4 (.int .i64 (x.we.lo + d.water + (dn d.fall.lo l.soak)))).nf #[.int .i64 x.bl.lo, .int .i64 x.bl.hi, .int .i64 x.wh.lo, .int .i64 x.wh.hi, .int .i64 (x.we.lo + d.water + (dn d.fall.lo l.soak)), .int .i64 x.we.hi, .int .i64 0, .int .i64 0] rfl
  clear F151
  refine ru_back hK (by exact ⟨F205.q 3 4, F205.q 1 0, F205.q 4 5, F205.q 0 5, F205.q 1 1⟩) (fun _ => ?_)
  clear hK K
  (try simp only [lpX])
  refine ru_p 29 ?_
  (try simp only [lpX])
  refine ru_p 30 ?_
  (try simp only [lpX])
  refine ru_o 31 fun K hK => ?_
  have kb_ := F205.bx8 0 rfl
  go_simp
  clear kb_
  have F206 := (F205.set 5 (.int .i64 (x.we.hi + d.water + (dn d.fall.hi l.soak)))).nf #[.int .i64 x.bl.lo, .int .i64 x.bl.hi, .int .i64 x.wh.lo, .int .i64 x.wh.hi, .int .i64 (x.we.lo + d.water + (dn d.fall.lo l.soak)), .int .i64 (x.we.hi + d.water + (dn d.fall.hi l.soak)), .int .i64 0, .int .i64 0] rfl
  clear F205
  refine ru_back_late hK (by kernel_rfl) ?_
  clear hK K
  (try simp only [lpX])
  refine ru_done (by kernel_rfl) ?_
  (try clear hw142 hw155 hw157 hw159 hw179 hw180 hw182 hw202 hw203 hw204)
  have Fn_ := (((F206.drop 1 rfl).drop 2 rfl).drop 2 rfl)
  (try dsimp only [lpF, lpG] at Fn_)
  obtain ⟨w207, hx208, F210, hxs209⟩ := Fn_.name
  (try simp at hxs209)
  rw [hx208]
  clear hx208 F206 Fn_
  have Hx211 := lhd (show ((cvd l x d).bl.lo) = x.bl.lo by simp [cvd, c3H.out, c139H.out])
  have Hx212 := lhd (show ((cvd l x d).bl.hi) = x.bl.hi by simp [cvd, c3H.out, c139H.out])
  have Hx213 := lhd (show ((cvd l x d).wh.lo) = x.wh.lo by simp [cvd, c3H.out, c139H.out])
  have Hx214 := lhd (show ((cvd l x d).wh.hi) = x.wh.hi by simp [cvd, c3H.out, c139H.out])
  have Hx215 := lhd (show ((cvd l x d).we.lo) = x.we.lo + d.water + (dn d.fall.lo l.soak) by simp [cvd, c3H.out, c139H.out])
  have Hx216 := lhd (show ((cvd l x d).we.hi) = x.we.hi + d.water + (dn d.fall.hi l.soak) by simp [cvd, c3H.out, c139H.out])
  have Hx217 := lhd (show ((cvd l x d).sn.lo) = 0 by simp [cvd, c3H.out, c139H.out])
  have Hx218 := lhd (show ((cvd l x d).sn.hi) = 0 by simp [cvd, c3H.out, c139H.out])
  have b219 := F210.bx8 0 rfl
  have b220 := F210.bx8 1 rfl
  go_wp2_with fail
  clear b219 b220
  have F221 := (F210.front 1 rfl rfl).pt8 (.int .i64 x.bl.lo) (.int .i64 x.bl.hi) (.int .i64 x.wh.lo) (.int .i64 x.wh.hi) (.int .i64 (x.we.lo + d.water + (dn d.fall.lo l.soak))) (.int .i64 (x.we.hi + d.water + (dn d.fall.hi l.soak))) (.int .i64 0) (.int .i64 0)
  clear F210
  have kb222 := F221.bx8 0 rfl
  go_wp2_with fail
  exact bodyPost_ret (v := .agg #[.int .i64 x.bl.lo, .int .i64 x.bl.hi, .int .i64 x.wh.lo, .int .i64 x.wh.hi, .int .i64 (x.we.lo + d.water + (dn d.fall.lo l.soak)), .int .i64 (x.we.hi + d.water + (dn d.fall.hi l.soak)), .int .i64 0, .int .i64 0]) (by simp [results, Tryz.results105, go_sem, kb222]) rfl (⟨by rw [Hx211.out, Hx212.out, Hx213.out, Hx214.out, Hx215.out, Hx216.out, Hx217.out, Hx218.out] <;> rfl, F221.gb⟩)
 have c139H := lhd c139
 have c139a := dec_f c139
 have Hx223 := lhd (show ((cvd l x d).bl.lo) = x.bl.lo by simp [cvd, c3H.out, c139H.out])
 have Hx224 := lhd (show ((cvd l x d).bl.hi) = x.bl.hi by simp [cvd, c3H.out, c139H.out])
 have Hx225 := lhd (show ((cvd l x d).wh.lo) = x.wh.lo by simp [cvd, c3H.out, c139H.out])
 have Hx226 := lhd (show ((cvd l x d).wh.hi) = x.wh.hi by simp [cvd, c3H.out, c139H.out])
 have Hx227 := lhd (show ((cvd l x d).we.lo) = x.we.lo by simp [cvd, c3H.out, c139H.out])
 have Hx228 := lhd (show ((cvd l x d).we.hi) = x.we.hi by simp [cvd, c3H.out, c139H.out])
 have Hx229 := lhd (show ((cvd l x d).sn.lo) = d.fall.lo by simp [cvd, c3H.out, c139H.out])
 have Hx230 := lhd (show ((cvd l x d).sn.hi) = d.fall.hi by simp [cvd, c3H.out, c139H.out])
 have b231 := F138.bx8 0 rfl
 have b232 := F138.bx8 1 rfl
 have b233 := F138.bx6 2 rfl
 go_wp2_with fail
 clear b231 b232 b233
 have F234 := (F138.front 1 rfl rfl).pt8 (.int .i64 x.bl.lo) (.int .i64 x.bl.hi) (.int .i64 x.wh.lo) (.int .i64 x.wh.hi) (.int .i64 x.we.lo) (.int .i64 x.we.hi) (.int .i64 d.fall.lo) (.int .i64 d.fall.hi)
 clear F138
 have kb235 := F234.bx8 0 rfl
 go_wp2_with fail
 exact bodyPost_ret (v := .agg #[.int .i64 x.bl.lo, .int .i64 x.bl.hi, .int .i64 x.wh.lo, .int .i64 x.wh.hi, .int .i64 x.we.lo, .int .i64 x.we.hi, .int .i64 d.fall.lo, .int .i64 d.fall.hi]) (by simp [results, Tryz.results105, go_sem, kb235]) rfl (⟨by rw [Hx223.out, Hx224.out, Hx225.out, Hx226.out, Hx227.out, Hx228.out, Hx229.out, Hx230.out] <;> rfl, F234.gb⟩)
end Go.Proofs.YtcoldeolmleeiaaGreat
