/- frost: ice that grows. -/
import Derived.Test.YtcoldeolmleeiaaGreatKF5
set_option linter.unusedVariables false
set_option linter.unusedSimpArgs false
set_option linter.unnecessarySimpa false
namespace Go.Proofs.YtcoldeolmleeiaaGreat
open Go.RowKit
set_option maxRecDepth 100000
theorem roof_bd {n : Int} (h : n <= 9223372036854775807) : 0 <= roof n /\ roof n <= 3037000500 := by
 have := root_bd h
 unfold roof
 split <;> omega
theorem mul_of_div {a b c : Int} (hb : 1 <= b) (h : a <= c / b) : a * b <= c := (Int.le_ediv_iff_mul_le (by omega)).1 h
theorem div_nn {c b : Int} (hb : 1 <= b) (hc : 0 <= c) : 0 <= c / b /\ c / b <= c := ⟨Int.ediv_nonneg hc (by omega), Int.ediv_le_self b hc⟩
set_option maxHeartbeats 4000000 in
theorem grownR_c (lo hi : Nat) (v : Value) (l : Fro) (b wh q c : Int) (w : World) (hl : Sl covEnc 3 lo hi w v l.cov) (h2 : hi <= w.heap.size) (hL : LawOk l) (hb : 0 <= b) (hwh : 0 <= wh) (hq : 0 <= q) (hs : b + wh + q <= 300000000) (hc : c <= 1000) (hqc : q * l.la <= c) :
  Calls Tryz.prog 116 #[.agg (froC l v), .int .i64 b, .int .i64 wh, .int .i64 q, .int .i64 c, .func (.func 117) #[] #[]] w (Ret (.int .i64 (grw l b wh q c root)) w) := by
 have F1 : Bun w [] w := Bun.nil _
 have hm_cs := hl.len
 unfold maxLen at hm_cs
 obtain ⟨sa, sc, rfl⟩ := hl.any
 replace F1 := F1.sl0 hl h2 rfl
 clear hl
 obtain ⟨⟨hg1, hg2⟩, ⟨hl1, hl2⟩, ⟨hn1, hn2⟩, hpt, ⟨hm1, hm2, hm3⟩, ⟨hs1, hs2⟩, ⟨hw1, hw2, hw3⟩⟩ := id hL
 have HL := lhd hL
 clear hL hpt
 have hqn : 0 <= q * l.la := Int.mul_nonneg (by omega) (by omega)
 have hgn : 0 <= l.gr * (c - q * l.la) := Int.mul_nonneg (by omega) (by omega)
 have hg3 : l.gr * (c - q * l.la) <= 10000000 := by
  have h1 : l.gr * (c - q * l.la) <= l.gr * 1000 := Int.mul_le_mul_of_nonneg_left (by omega) (by omega)
  omega
 have hhn : 0 <= (b + (wh + q)) * (b + (wh + q)) := Int.mul_nonneg (by omega) (by omega)
 have hh2 : (b + (wh + q)) * (b + (wh + q)) <= 90000000000000000 := by
  have := sq_lt (a := b + (wh + q)) (b := 300000000) (by omega) (by omega); omega
 go_enter Tryz.func116, Tryz.ntmps116
 go_wp2_with fail
 replace F1 := F1.new 139 (froC l (.slice sa l.cov.length sc)) (n := w.heap.size) (by simp)
 refine (root_c _ _ (by omega)).mono ?_
 rintro e _ ⟨rfl, rfl⟩
 have hrb := root_bd (n := (b + (wh + q)) * (b + (wh + q)) + (l.gr * (c - (q * l.la)))) (by omega)
 have Fn_ := F1
 (try dsimp only [lpF, lpG] at Fn_)
 obtain ⟨w4, hx5, F7, hxs6⟩ := Fn_.name
 (try simp at hxs6)
 rw [hx5]
 clear hx5 F1 Fn_
 have Hx8 := lhd (show (grw l b wh q c root) = root ((b + (wh + q)) * (b + (wh + q)) + (l.gr * (c - (q * l.la)))) - (wh + q) by rfl)
 go_wp2_with fail
 go_ret
 exact ⟨by rw [Hx8.out] <;> rfl, F7.gb⟩
set_option maxHeartbeats 4000000 in
theorem grownU_c (lo hi : Nat) (v : Value) (l : Fro) (b wh q c : Int) (w : World) (hl : Sl covEnc 3 lo hi w v l.cov) (h2 : hi <= w.heap.size) (hL : LawOk l) (hb : 0 <= b) (hwh : 0 <= wh) (hq : 0 <= q) (hs : b + wh + q <= 300000000) (hc : c <= 1000) (hqc : q * l.la <= c) :
  Calls Tryz.prog 116 #[.agg (froC l v), .int .i64 b, .int .i64 wh, .int .i64 q, .int .i64 c, .func (.func 118) #[] #[]] w (Ret (.int .i64 (grw l b wh q c roof)) w) := by
 have F1 : Bun w [] w := Bun.nil _
 have hm_cs := hl.len
 unfold maxLen at hm_cs
 obtain ⟨sa, sc, rfl⟩ := hl.any
 replace F1 := F1.sl0 hl h2 rfl
 clear hl
 obtain ⟨⟨hg1, hg2⟩, ⟨hl1, hl2⟩, ⟨hn1, hn2⟩, hpt, ⟨hm1, hm2, hm3⟩, ⟨hs1, hs2⟩, ⟨hw1, hw2, hw3⟩⟩ := id hL
 have HL := lhd hL
 clear hL hpt
 have hqn : 0 <= q * l.la := Int.mul_nonneg (by omega) (by omega)
 have hgn : 0 <= l.gr * (c - q * l.la) := Int.mul_nonneg (by omega) (by omega)
 have hg3 : l.gr * (c - q * l.la) <= 10000000 := by
  have h1 : l.gr * (c - q * l.la) <= l.gr * 1000 := Int.mul_le_mul_of_nonneg_left (by omega) (by omega)
  omega
 have hhn : 0 <= (b + (wh + q)) * (b + (wh + q)) := Int.mul_nonneg (by omega) (by omega)
 have hh2 : (b + (wh + q)) * (b + (wh + q)) <= 90000000000000000 := by
  have := sq_lt (a := b + (wh + q)) (b := 300000000) (by omega) (by omega); omega
 go_enter Tryz.func116, Tryz.ntmps116
 go_wp2_with fail
 replace F1 := F1.new 139 (froC l (.slice sa l.cov.length sc)) (n := w.heap.size) (by simp)
 refine (rootUp_c _ _ (by omega)).mono ?_
 rintro e _ ⟨rfl, rfl⟩
 have hrb := roof_bd (n := (b + (wh + q)) * (b + (wh + q)) + (l.gr * (c - (q * l.la)))) (by omega)
 have Fn_ := F1
 (try dsimp only [lpF, lpG] at Fn_)
 obtain ⟨w4, hx5, F7, hxs6⟩ := Fn_.name
 (try simp at hxs6)
 rw [hx5]
 clear hx5 F1 Fn_
 have Hx8 := lhd (show (grw l b wh q c roof) = roof ((b + (wh + q)) * (b + (wh + q)) + (l.gr * (c - (q * l.la)))) - (wh + q) by rfl)
 go_wp2_with fail
 go_ret
 exact ⟨by rw [Hx8.out] <;> rfl, F7.gb⟩
set_option maxHeartbeats 8000000 in
theorem frozen_c (lo hi : Nat) (v : Value) (l : Fro) (x : Ice) (k m : Int) (c : Sp) (w : World) (hl : Sl covEnc 3 lo hi w v l.cov) (h2 : hi <= w.heap.size) (hL : LawOk l) (hx : IceK x k m) (hk : (0 <= k /\ k <= 401) /\ 0 <= m /\ m <= 401) (hc : 0 <= c.lo /\ c.lo <= c.hi /\ c.hi <= 1000) :
  Calls Tryz.prog 106 #[.agg (froC l v), .agg (iceC x), .agg #[.int .i64 c.lo, .int .i64 c.hi]] w (Ret (.agg #[.int .i64 ((frz l x c).bl.lo), .int .i64 ((frz l x c).bl.hi), .int .i64 ((frz l x c).wh.lo), .int .i64 ((frz l x c).wh.hi), .int .i64 ((frz l x c).we.lo), .int .i64 ((frz l x c).we.hi), .int .i64 ((frz l x c).sn.lo), .int .i64 ((frz l x c).sn.hi)]) w) := by
 have F1 : Bun w [] w := Bun.nil _
 have hm_cs := hl.len
 unfold maxLen at hm_cs
 obtain ⟨sa, sc, rfl⟩ := hl.any
 replace F1 := F1.sl0 hl h2 rfl
 clear hl
 obtain ⟨⟨hg1, hg2⟩, ⟨hl1, hl2⟩, ⟨hn1, hn2⟩, hpt, ⟨hm1, hm2, hm3⟩, ⟨hs1, hs2⟩, ⟨hw1, hw2, hw3⟩⟩ := id hL
 have HL := lhd hL
 clear hL hpt
 obtain ⟨⟨⟨xb1, xb2⟩, xb3, xb4⟩, ⟨⟨xw1, xw2⟩, xw3, xw4⟩, ⟨xe1, xe2⟩, ⟨xs1, xs2⟩, xm1, xm2⟩ := hx
 obtain ⟨cl1, cl2, cl3⟩ := hc
 go_enter Tryz.func106, Tryz.ntmps106
 go_wp2_with fail
 replace F1 := F1.new 139 (froC l (.slice sa l.cov.length sc)) (n := w.heap.size) (by simp)
 replace F1 := F1.new 142 (iceC x) (n := (w.heap.size + 1)) (by simp)
 replace F1 := F1.new 32 #[.int .i64 c.lo, .int .i64 c.hi] (n := (w.heap.size + 2)) (by simp)
 replace F1 := F1.new 142 (z8) (n := (w.heap.size + 3)) (by simp)
 have Fn_ := F1
 (try dsimp only [lpF, lpG] at Fn_)
 obtain ⟨w11, hx12, F14, hxs13⟩ := Fn_.name
 (try simp at hxs13)
 rw [hx12]
 clear hx12 F1 Fn_
 replace F14 := F14.drew
 refine ru_begin (fun W => W.cell? ⟨(w.heap.size + 2), 0, none⟩ = some (.int .i64 c.lo) /\ C8 W w.heap.size (.int .i64 l.gr) (.int .i64 l.la) (.slice sa l.cov.length sc) (.int .i64 l.melt.lo) (.int .i64 l.melt.hi) (.int .i64 l.soak) (.int .i64 l.white.lo) (.int .i64 l.white.hi) /\ W.cell? ⟨(w.heap.size + 1), 7, none⟩ = some (.int .i64 x.sn.hi)) 9 (by kernel_rfl) ?_ ?_
 · exact ⟨F14.q 1 0, F14.c8 3, F14.q 2 7⟩
 obtain ⟨wd17, hwd_⟩ : ∃ x : World, w11.drew = x := ⟨_, rfl⟩
 rw [hwd_] at F14 ⊢
 have wd17s : w11.heap.size <= wd17.heap.size := by rw [← hwd_]; exact Nat.le_refl _
 clear hwd_
 have hS16 := (And.intro (F14.q 1 0) (And.intro (F14.c8 3) (F14.q 2 7)))
 refine ru_t 0 [] ?_
 refine ru_t 1 [] ?_
 refine ru_t 2 [] ?_
 refine ru_t 3 [] ?_
 refine ru_t 4 [] ?_
 refine ru_t 5 [] ?_
 (try simp only [lpX])
 clear hS16
 refine ru_o 6 fun K hK => ?_
 go_simp
 refine (through_c lo hi _ l x.sn.hi _ HL.out.n.1 (F14.s 4 rfl) (Nat.le_trans h2 F14.gb.size)).mono ?_
 rintro e w21 ⟨rfl, hg19⟩
 have ht18 := thr_ok HL.out x.sn.hi
 have hg19s := hg19.size
 (try simp at hg19s)
 replace F14 := F14.gn hg19
 refine ru_back hK (by exact ⟨F14.q 1 0, F14.c8 3, F14.q 2 7⟩) (fun _ => ?_)
 clear hK K
 (try simp only [lpX])
 have hi23 : ∀ w, (Instr.field 32 (.agg #[.int .i64 ((thr l.cov x.sn.hi).lo), .int .i64 ((thr l.cov x.sn.hi).hi)]) 0).run Tryz.prog w = .ok (.int .i64 ((thr l.cov x.sn.hi).lo)) w := fun _ => by kernel_rfl
 refine ru_p 7 ?_
 (try simp only [lpX])
 refine ru_o 8 fun K hK => ?_
 go_simp
 refine (down_c _ _ _ (by omega) (by omega) (by omega) (by omega)).mono ?_
 rintro e _ ⟨rfl, rfl⟩
 have hd24 := dn_bd (n := c.lo) (p := ((thr l.cov x.sn.hi).lo)) (by omega) (by omega) (by omega)
 have hv25 := div_nn (b := l.la) (c := dn c.lo ((thr l.cov x.sn.hi).lo)) (by omega) (by omega)
 refine ru_back hK (by exact ⟨F14.q 1 0, F14.c8 3, F14.q 2 7⟩) (fun _ => ?_)
 clear hK K
 (try simp only [lpX])
 refine ru_o 9 fun K hK => ?_
 go_simp
 refine ru_back_late hK (by kernel_rfl) ?_
 clear hK K
 (try simp only [lpX])
 refine ru_done (by kernel_rfl) ?_
 (try clear hi23)
 have Fn_ := F14
 (try dsimp only [lpF, lpG] at Fn_)
 obtain ⟨w26, hx27, F29, hxs28⟩ := Fn_.name
 (try simp at hxs28)
 rw [hx27]
 clear hx27 F14 Fn_
 go_wp2_with fail
 replace F29 := F29.drew
 refine ru_begin (fun W => W.cell? ⟨(w.heap.size + 2), 1, none⟩ = some (.int .i64 c.hi) /\ C8 W w.heap.size (.int .i64 l.gr) (.int .i64 l.la) (.slice sa l.cov.length sc) (.int .i64 l.melt.lo) (.int .i64 l.melt.hi) (.int .i64 l.soak) (.int .i64 l.white.lo) (.int .i64 l.white.hi) /\ W.cell? ⟨(w.heap.size + 1), 6, none⟩ = some (.int .i64 x.sn.lo)) 9 (by kernel_rfl) ?_ ?_
 · exact ⟨F29.q 1 1, F29.c8 3, F29.q 2 6⟩
 obtain ⟨wd36, hwd_⟩ : ∃ x : World, w26.drew = x := ⟨_, rfl⟩
 rw [hwd_] at F29 ⊢
 have wd36s : w26.heap.size <= wd36.heap.size := by rw [← hwd_]; exact Nat.le_refl _
 clear hwd_
 have hS35 := (And.intro (F29.q 1 1) (And.intro (F29.c8 3) (F29.q 2 6)))
 refine ru_t 0 [] ?_
 refine ru_t 1 [] ?_
 refine ru_t 2 [] ?_
 refine ru_t 3 [] ?_
 refine ru_t 4 [] ?_
 refine ru_t 5 [] ?_
 (try simp only [lpX])
 clear hS35
 refine ru_o 6 fun K hK => ?_
 go_simp
 refine (through_c lo hi _ l x.sn.lo _ HL.out.n.1 (F29.s 4 rfl) (Nat.le_trans h2 F29.gb.size)).mono ?_
 rintro e w40 ⟨rfl, hg38⟩
 have ht37 := thr_ok HL.out x.sn.lo
 have hg38s := hg38.size
 (try simp at hg38s)
 replace F29 := F29.gn hg38
 refine ru_back hK (by exact ⟨F29.q 1 1, F29.c8 3, F29.q 2 6⟩) (fun _ => ?_)
 clear hK K
 (try simp only [lpX])
 have hi42 : ∀ w, (Instr.field 32 (.agg #[.int .i64 ((thr l.cov x.sn.lo).lo), .int .i64 ((thr l.cov x.sn.lo).hi)]) 1).run Tryz.prog w = .ok (.int .i64 ((thr l.cov x.sn.lo).hi)) w := fun _ => by kernel_rfl
 refine ru_p 7 ?_
 (try simp only [lpX])
 refine ru_o 8 fun K hK => ?_
 go_simp
 refine (up_c _ _ _ (by omega) (by omega) (by omega) (by omega)).mono ?_
 rintro e _ ⟨rfl, rfl⟩
 have hd43 := up_bd (n := c.hi) (p := ((thr l.cov x.sn.lo).hi)) (by omega) (by omega) (by omega)
 have hv44 := div_nn (b := l.la) (c := upp c.hi ((thr l.cov x.sn.lo).hi)) (by omega) (by omega)
 refine ru_back hK (by exact ⟨F29.q 1 1, F29.c8 3, F29.q 2 6⟩) (fun _ => ?_)
 clear hK K
 (try simp only [lpX])
 refine ru_o 9 fun K hK => ?_
 go_simp
 refine ru_back_late hK (by kernel_rfl) ?_
 clear hK K
 (try simp only [lpX])
 refine ru_done (by kernel_rfl) ?_
 (try clear hi42)
 have Fn_ := (F29.drop 1 rfl)
 (try dsimp only [lpF, lpG] at Fn_)
 obtain ⟨w45, hx46, F48, hxs47⟩ := Fn_.name
 (try simp at hxs47)
 rw [hx46]
 clear hx46 F29 Fn_
 go_wp2_with fail
 have b57 := F48.bx8 2 rfl
 have hq53 : Int.tdiv (dn c.lo ((thr l.cov x.sn.hi).lo)) l.la = (dn c.lo ((thr l.cov x.sn.hi).lo)) / l.la := Int.tdiv_eq_ediv_of_nonneg (by omega)
 have hw54 : IntKind.i64.wrap ((dn c.lo ((thr l.cov x.sn.hi).lo)) / l.la) = (dn c.lo ((thr l.cov x.sn.hi).lo)) / l.la := IntWalk.i64_in _ (by omega)
 have hq55 : Int.tdiv (upp c.hi ((thr l.cov x.sn.lo).hi)) l.la = (upp c.hi ((thr l.cov x.sn.lo).hi)) / l.la := Int.tdiv_eq_ediv_of_nonneg (by omega)
 have hw56 : IntKind.i64.wrap ((upp c.hi ((thr l.cov x.sn.lo).hi)) / l.la) = (upp c.hi ((thr l.cov x.sn.lo).hi)) / l.la := IntWalk.i64_in _ (by omega)
 go_quiet (fail)
 clear b57 hq53 hw54 hq55 hw56
 replace F48 := F48.drewN nq
 have Fn_ := F48
 (try dsimp only [lpF, lpG] at Fn_)
 obtain ⟨w59, hx60, F62, hxs61⟩ := Fn_.name
 (try simp at hxs61)
 rw [hx60]
 clear hx60 F48 Fn_
 by_cases c63 : x.we.hi <= (dn c.lo ((thr l.cov x.sn.hi).lo)) / l.la
 ·
  have c63H := lhd c63
  have c63q : x.we.hi * l.la <= (dn c.lo ((thr l.cov x.sn.hi).lo)) := mul_of_div (by omega) c63H.out
  have b65 := F62.bx8 1 rfl
  have b66 := F62.bx8 2 rfl
  go_wp2_with fail
  clear b65 b66
  replace F62 := F62.new 142 #[.int .i64 x.bl.lo, .int .i64 x.bl.hi, .int .i64 (x.wh.lo + (min x.we.lo ((dn c.lo ((thr l.cov x.sn.hi).lo)) / l.la))), .int .i64 (x.wh.hi + (min x.we.hi ((upp c.hi ((thr l.cov x.sn.lo).hi)) / l.la))), .int .i64 (max 0 (x.we.lo - ((upp c.hi ((thr l.cov x.sn.lo).hi)) / l.la))), .int .i64 (max 0 (x.we.hi - ((dn c.lo ((thr l.cov x.sn.hi).lo)) / l.la))), .int .i64 x.sn.lo, .int .i64 x.sn.hi] (n := w59.heap.size) (by simp)
  refine (grownR_c lo hi _ l x.bl.lo x.wh.hi x.we.hi (dn c.lo ((thr l.cov x.sn.hi).lo)) _ (F62.s 4 rfl) (Nat.le_trans h2 F62.gb.size) HL.out (by omega) (by omega) (by omega) (by omega) (by omega) (by assumption)).mono ?_
  rintro e w70 ⟨rfl, hg68⟩
  have hg68s := hg68.size
  (try simp at hg68s)
  replace F62 := F62.gn hg68
  clear hg68
  by_cases c72 : x.we.lo <= (upp c.hi ((thr l.cov x.sn.lo).hi)) / l.la
  ·
   have c72H := lhd c72
   have c72q : x.we.lo * l.la <= (upp c.hi ((thr l.cov x.sn.lo).hi)) := mul_of_div (by omega) c72H.out
   have b74 := F62.bx8 0 rfl
   have b75 := F62.bx8 2 rfl
   have b76 := F62.bx8 3 rfl
   go_wp2_with fail
   clear b74 b75 b76
   have F77 := (F62.set 0 (.int .i64 (grw l x.bl.lo x.wh.hi x.we.hi (dn c.lo ((thr l.cov x.sn.hi).lo)) root))).nf #[.int .i64 (grw l x.bl.lo x.wh.hi x.we.hi (dn c.lo ((thr l.cov x.sn.hi).lo)) root), .int .i64 x.bl.hi, .int .i64 (x.wh.lo + (min x.we.lo ((dn c.lo ((thr l.cov x.sn.hi).lo)) / l.la))), .int .i64 (x.wh.hi + (min x.we.hi ((upp c.hi ((thr l.cov x.sn.lo).hi)) / l.la))), .int .i64 (max 0 (x.we.lo - ((upp c.hi ((thr l.cov x.sn.lo).hi)) / l.la))), .int .i64 (max 0 (x.we.hi - ((dn c.lo ((thr l.cov x.sn.hi).lo)) / l.la))), .int .i64 x.sn.lo, .int .i64 x.sn.hi] rfl
   clear F62
   refine (grownU_c lo hi _ l x.bl.hi x.wh.lo x.we.lo (upp c.hi ((thr l.cov x.sn.lo).hi)) _ (F77.s 4 rfl) (Nat.le_trans h2 F77.gb.size) HL.out (by omega) (by omega) (by omega) (by omega) (by omega) (by assumption)).mono ?_
   rintro e w80 ⟨rfl, hg78⟩
   have hg78s := hg78.size
   (try simp at hg78s)
   replace F77 := F77.gn hg78
   clear hg78
   have Hx82 := lhd (show ((frz l x c).bl.lo) = grw l x.bl.lo x.wh.hi x.we.hi (dn c.lo ((thr l.cov x.sn.hi).lo)) root by show (if _ then _ else _) = _; exact if_pos c63H.out)
   have Hx83 := lhd (show ((frz l x c).bl.hi) = grw l x.bl.hi x.wh.lo x.we.lo (upp c.hi ((thr l.cov x.sn.lo).hi)) roof by show (if _ then _ else _) = _; exact if_pos c72H.out)
   have Hx84 := lhd (show ((frz l x c).wh.lo) = x.wh.lo + (min x.we.lo ((dn c.lo ((thr l.cov x.sn.hi).lo)) / l.la)) by rfl)
   have Hx85 := lhd (show ((frz l x c).wh.hi) = x.wh.hi + (min x.we.hi ((upp c.hi ((thr l.cov x.sn.lo).hi)) / l.la)) by rfl)
   have Hx86 := lhd (show ((frz l x c).we.lo) = max 0 (x.we.lo - ((upp c.hi ((thr l.cov x.sn.lo).hi)) / l.la)) by rfl)
   have Hx87 := lhd (show ((frz l x c).we.hi) = max 0 (x.we.hi - ((dn c.lo ((thr l.cov x.sn.hi).lo)) / l.la)) by rfl)
   have Hx88 := lhd (show ((frz l x c).sn.lo) = x.sn.lo by rfl)
   have Hx89 := lhd (show ((frz l x c).sn.hi) = x.sn.hi by rfl)
   have b90 := F77.bx8 0 rfl
   have b91 := F77.bx8 1 rfl
   go_wp2_with fail
   clear b90 b91
   have F92 := (F77.set 1 (.int .i64 (grw l x.bl.hi x.wh.lo x.we.lo (upp c.hi ((thr l.cov x.sn.lo).hi)) roof))).nf #[.int .i64 (grw l x.bl.lo x.wh.hi x.we.hi (dn c.lo ((thr l.cov x.sn.hi).lo)) root), .int .i64 (grw l x.bl.hi x.wh.lo x.we.lo (upp c.hi ((thr l.cov x.sn.lo).hi)) roof), .int .i64 (x.wh.lo + (min x.we.lo ((dn c.lo ((thr l.cov x.sn.hi).lo)) / l.la))), .int .i64 (x.wh.hi + (min x.we.hi ((upp c.hi ((thr l.cov x.sn.lo).hi)) / l.la))), .int .i64 (max 0 (x.we.lo - ((upp c.hi ((thr l.cov x.sn.lo).hi)) / l.la))), .int .i64 (max 0 (x.we.hi - ((dn c.lo ((thr l.cov x.sn.hi).lo)) / l.la))), .int .i64 x.sn.lo, .int .i64 x.sn.hi] rfl
   clear F77
   have F93 := (F92.front 1 rfl rfl).pt8 (.int .i64 (grw l x.bl.lo x.wh.hi x.we.hi (dn c.lo ((thr l.cov x.sn.hi).lo)) root)) (.int .i64 (grw l x.bl.hi x.wh.lo x.we.lo (upp c.hi ((thr l.cov x.sn.lo).hi)) roof)) (.int .i64 (x.wh.lo + (min x.we.lo ((dn c.lo ((thr l.cov x.sn.hi).lo)) / l.la)))) (.int .i64 (x.wh.hi + (min x.we.hi ((upp c.hi ((thr l.cov x.sn.lo).hi)) / l.la)))) (.int .i64 (max 0 (x.we.lo - ((upp c.hi ((thr l.cov x.sn.lo).hi)) / l.la)))) (.int .i64 (max 0 (x.we.hi - ((dn c.lo ((thr l.cov x.sn.hi).lo)) / l.la)))) (.int .i64 x.sn.lo) (.int .i64 x.sn.hi)
   clear F92
   have kb94 := F93.bx8 0 rfl
   go_wp2_with fail
   exact bodyPost_ret (v := .agg #[.int .i64 (grw l x.bl.lo x.wh.hi x.we.hi (dn c.lo ((thr l.cov x.sn.hi).lo)) root), .int .i64 (grw l x.bl.hi x.wh.lo x.we.lo (upp c.hi ((thr l.cov x.sn.lo).hi)) roof), .int .i64 (x.wh.lo + (min x.we.lo ((dn c.lo ((thr l.cov x.sn.hi).lo)) / l.la))), .int .i64 (x.wh.hi + (min x.we.hi ((upp c.hi ((thr l.cov x.sn.lo).hi)) / l.la))), .int .i64 (max 0 (x.we.lo - ((upp c.hi ((thr l.cov x.sn.lo).hi)) / l.la))), .int .i64 (max 0 (x.we.hi - ((dn c.lo ((thr l.cov x.sn.hi).lo)) / l.la))), .int .i64 x.sn.lo, .int .i64 x.sn.hi]) (by simp [results, Tryz.results106, go_sem, kb94]) rfl (⟨by rw [Hx82.out, Hx83.out, Hx84.out, Hx85.out, Hx86.out, Hx87.out, Hx88.out, Hx89.out] <;> rfl, F93.gb⟩)
  have c72H := lhd c72
  have c72a := dec_f c72
  have Hx95 := lhd (show ((frz l x c).bl.lo) = grw l x.bl.lo x.wh.hi x.we.hi (dn c.lo ((thr l.cov x.sn.hi).lo)) root by show (if _ then _ else _) = _; exact if_pos c63H.out)
  have Hx96 := lhd (show ((frz l x c).bl.hi) = x.bl.hi by show (if _ then _ else _) = _; exact if_neg (fun h_ => by have h2_ : x.we.lo <= (upp c.hi ((thr l.cov x.sn.lo).hi)) / l.la := h_; have h3_ := c72H.out; omega))
  have Hx97 := lhd (show ((frz l x c).wh.lo) = x.wh.lo + (min x.we.lo ((dn c.lo ((thr l.cov x.sn.hi).lo)) / l.la)) by rfl)
  have Hx98 := lhd (show ((frz l x c).wh.hi) = x.wh.hi + (min x.we.hi ((upp c.hi ((thr l.cov x.sn.lo).hi)) / l.la)) by rfl)
  have Hx99 := lhd (show ((frz l x c).we.lo) = max 0 (x.we.lo - ((upp c.hi ((thr l.cov x.sn.lo).hi)) / l.la)) by rfl)
  have Hx100 := lhd (show ((frz l x c).we.hi) = max 0 (x.we.hi - ((dn c.lo ((thr l.cov x.sn.hi).lo)) / l.la)) by rfl)
  have Hx101 := lhd (show ((frz l x c).sn.lo) = x.sn.lo by rfl)
  have Hx102 := lhd (show ((frz l x c).sn.hi) = x.sn.hi by rfl)
  have b103 := F62.bx8 0 rfl
  have b104 := F62.bx8 1 rfl
  have b105 := F62.bx8 2 rfl
  go_wp2_with fail
  clear b103 b104 b105
  have F106 := (F62.set 0 (.int .i64 (grw l x.bl.lo x.wh.hi x.we.hi (dn c.lo ((thr l.cov x.sn.hi).lo)) root))).nf #[.int .i64 (grw l x.bl.lo x.wh.hi x.we.hi (dn c.lo ((thr l.cov x.sn.hi).lo)) root), .int .i64 x.bl.hi, .int .i64 (x.wh.lo + (min x.we.lo ((dn c.lo ((thr l.cov x.sn.hi).lo)) / l.la))), .int .i64 (x.wh.hi + (min x.we.hi ((upp c.hi ((thr l.cov x.sn.lo).hi)) / l.la))), .int .i64 (max 0 (x.we.lo - ((upp c.hi ((thr l.cov x.sn.lo).hi)) / l.la))), .int .i64 (max 0 (x.we.hi - ((dn c.lo ((thr l.cov x.sn.hi).lo)) / l.la))), .int .i64 x.sn.lo, .int .i64 x.sn.hi] rfl
  clear F62
  have F107 := (F106.front 1 rfl rfl).pt8 (.int .i64 (grw l x.bl.lo x.wh.hi x.we.hi (dn c.lo ((thr l.cov x.sn.hi).lo)) root)) (.int .i64 x.bl.hi) (.int .i64 (x.wh.lo + (min x.we.lo ((dn c.lo ((thr l.cov x.sn.hi).lo)) / l.la)))) (.int .i64 (x.wh.hi + (min x.we.hi ((upp c.hi ((thr l.cov x.sn.lo).hi)) / l.la)))) (.int .i64 (max 0 (x.we.lo - ((upp c.hi ((thr l.cov x.sn.lo).hi)) / l.la)))) (.int .i64 (max 0 (x.we.hi - ((dn c.lo ((thr l.cov x.sn.hi).lo)) / l.la)))) (.int .i64 x.sn.lo) (.int .i64 x.sn.hi)
  clear F106
  have kb108 := F107.bx8 0 rfl
  go_wp2_with fail
  exact bodyPost_ret (v := .agg #[.int .i64 (grw l x.bl.lo x.wh.hi x.we.hi (dn c.lo ((thr l.cov x.sn.hi).lo)) root), .int .i64 x.bl.hi, .int .i64 (x.wh.lo + (min x.we.lo ((dn c.lo ((thr l.cov x.sn.hi).lo)) / l.la))), .int .i64 (x.wh.hi + (min x.we.hi ((upp c.hi ((thr l.cov x.sn.lo).hi)) / l.la))), .int .i64 (max 0 (x.we.lo - ((upp c.hi ((thr l.cov x.sn.lo).hi)) / l.la))), .int .i64 (max 0 (x.we.hi - ((dn c.lo ((thr l.cov x.sn.hi).lo)) / l.la))), .int .i64 x.sn.lo, .int .i64 x.sn.hi]) (by simp [results, Tryz.results106, go_sem, kb108]) rfl (⟨by rw [Hx95.out, Hx96.out, Hx97.out, Hx98.out, Hx99.out, Hx100.out, Hx101.out, Hx102.out] <;> rfl, F107.gb⟩)
 have c63H := lhd c63
 have c63a := dec_f c63
 by_cases c109 : x.we.lo <= (upp c.hi ((thr l.cov x.sn.lo).hi)) / l.la
 ·
  have c109H := lhd c109
  have c109q : x.we.lo * l.la <= (upp c.hi ((thr l.cov x.sn.lo).hi)) := mul_of_div (by omega) c109H.out
  have b111 := F62.bx8 1 rfl
  have b112 := F62.bx8 2 rfl
  go_wp2_with fail
  clear b111 b112
  replace F62 := F62.new 142 #[.int .i64 x.bl.lo, .int .i64 x.bl.hi, .int .i64 (x.wh.lo + (min x.we.lo ((dn c.lo ((thr l.cov x.sn.hi).lo)) / l.la))), .int .i64 (x.wh.hi + (min x.we.hi ((upp c.hi ((thr l.cov x.sn.lo).hi)) / l.la))), .int .i64 (max 0 (x.we.lo - ((upp c.hi ((thr l.cov x.sn.lo).hi)) / l.la))), .int .i64 (max 0 (x.we.hi - ((dn c.lo ((thr l.cov x.sn.hi).lo)) / l.la))), .int .i64 x.sn.lo, .int .i64 x.sn.hi] (n := w59.heap.size) (by simp)
  refine (grownU_c lo hi _ l x.bl.hi x.wh.lo x.we.lo (upp c.hi ((thr l.cov x.sn.lo).hi)) _ (F62.s 4 rfl) (Nat.le_trans h2 F62.gb.size) HL.out (by omega) (by omega) (by omega) (by omega) (by omega) (by assumption)).mono ?_
  rintro e w116 ⟨rfl, hg114⟩
  have hg114s := hg114.size
  (try simp at hg114s)
  replace F62 := F62.gn hg114
  clear hg114
  have Hx118 := lhd (show ((frz l x c).bl.lo) = x.bl.lo by show (if _ then _ else _) = _; exact if_neg (fun h_ => by have h2_ : x.we.hi <= (dn c.lo ((thr l.cov x.sn.hi).lo)) / l.la := h_; have h3_ := c63H.out; omega))
  have Hx119 := lhd (show ((frz l x c).bl.hi) = grw l x.bl.hi x.wh.lo x.we.lo (upp c.hi ((thr l.cov x.sn.lo).hi)) roof by show (if _ then _ else _) = _; exact if_pos c109H.out)
  have Hx120 := lhd (show ((frz l x c).wh.lo) = x.wh.lo + (min x.we.lo ((dn c.lo ((thr l.cov x.sn.hi).lo)) / l.la)) by rfl)
  have Hx121 := lhd (show ((frz l x c).wh.hi) = x.wh.hi + (min x.we.hi ((upp c.hi ((thr l.cov x.sn.lo).hi)) / l.la)) by rfl)
  have Hx122 := lhd (show ((frz l x c).we.lo) = max 0 (x.we.lo - ((upp c.hi ((thr l.cov x.sn.lo).hi)) / l.la)) by rfl)
  have Hx123 := lhd (show ((frz l x c).we.hi) = max 0 (x.we.hi - ((dn c.lo ((thr l.cov x.sn.hi).lo)) / l.la)) by rfl)
  have Hx124 := lhd (show ((frz l x c).sn.lo) = x.sn.lo by rfl)
  have Hx125 := lhd (show ((frz l x c).sn.hi) = x.sn.hi by rfl)
  have b126 := F62.bx8 0 rfl
  have b127 := F62.bx8 1 rfl
  go_wp2_with fail
  clear b126 b127
  have F128 := (F62.set 1 (.int .i64 (grw l x.bl.hi x.wh.lo x.we.lo (upp c.hi ((thr l.cov x.sn.lo).hi)) roof))).nf #[.int .i64 x.bl.lo, .int .i64 (grw l x.bl.hi x.wh.lo x.we.lo (upp c.hi ((thr l.cov x.sn.lo).hi)) roof), .int .i64 (x.wh.lo + (min x.we.lo ((dn c.lo ((thr l.cov x.sn.hi).lo)) / l.la))), .int .i64 (x.wh.hi + (min x.we.hi ((upp c.hi ((thr l.cov x.sn.lo).hi)) / l.la))), .int .i64 (max 0 (x.we.lo - ((upp c.hi ((thr l.cov x.sn.lo).hi)) / l.la))), .int .i64 (max 0 (x.we.hi - ((dn c.lo ((thr l.cov x.sn.hi).lo)) / l.la))), .int .i64 x.sn.lo, .int .i64 x.sn.hi] rfl
  clear F62
  have F129 := (F128.front 1 rfl rfl).pt8 (.int .i64 x.bl.lo) (.int .i64 (grw l x.bl.hi x.wh.lo x.we.lo (upp c.hi ((thr l.cov x.sn.lo).hi)) roof)) (.int .i64 (x.wh.lo + (min x.we.lo ((dn c.lo ((thr l.cov x.sn.hi).lo)) / l.la)))) (.int .i64 (x.wh.hi + (min x.we.hi ((upp c.hi ((thr l.cov x.sn.lo).hi)) / l.la)))) (.int .i64 (max 0 (x.we.lo - ((upp c.hi ((thr l.cov x.sn.lo).hi)) / l.la)))) (.int .i64 (max 0 (x.we.hi - ((dn c.lo ((thr l.cov x.sn.hi).lo)) / l.la)))) (.int .i64 x.sn.lo) (.int .i64 x.sn.hi)
  clear F128
  have kb130 := F129.bx8 0 rfl
  go_wp2_with fail
  exact bodyPost_ret (v := .agg #[.int .i64 x.bl.lo, .int .i64 (grw l x.bl.hi x.wh.lo x.we.lo (upp c.hi ((thr l.cov x.sn.lo).hi)) roof), .int .i64 (x.wh.lo + (min x.we.lo ((dn c.lo ((thr l.cov x.sn.hi).lo)) / l.la))), .int .i64 (x.wh.hi + (min x.we.hi ((upp c.hi ((thr l.cov x.sn.lo).hi)) / l.la))), .int .i64 (max 0 (x.we.lo - ((upp c.hi ((thr l.cov x.sn.lo).hi)) / l.la))), .int .i64 (max 0 (x.we.hi - ((dn c.lo ((thr l.cov x.sn.hi).lo)) / l.la))), .int .i64 x.sn.lo, .int .i64 x.sn.hi]) (by simp [results, Tryz.results106, go_sem, kb130]) rfl (⟨by rw [Hx118.out, Hx119.out, Hx120.out, Hx121.out, Hx122.out, Hx123.out, Hx124.out, Hx125.out] <;> rfl, F129.gb⟩)
 have c109H := lhd c109
 have c109a := dec_f c109
 have Hx131 := lhd (show ((frz l x c).bl.lo) = x.bl.lo by show (if _ then _ else _) = _; exact if_neg (fun h_ => by have h2_ : x.we.hi <= (dn c.lo ((thr l.cov x.sn.hi).lo)) / l.la := h_; have h3_ := c63H.out; omega))
 have Hx132 := lhd (show ((frz l x c).bl.hi) = x.bl.hi by show (if _ then _ else _) = _; exact if_neg (fun h_ => by have h2_ : x.we.lo <= (upp c.hi ((thr l.cov x.sn.lo).hi)) / l.la := h_; have h3_ := c109H.out; omega))
 have Hx133 := lhd (show ((frz l x c).wh.lo) = x.wh.lo + (min x.we.lo ((dn c.lo ((thr l.cov x.sn.hi).lo)) / l.la)) by rfl)
 have Hx134 := lhd (show ((frz l x c).wh.hi) = x.wh.hi + (min x.we.hi ((upp c.hi ((thr l.cov x.sn.lo).hi)) / l.la)) by rfl)
 have Hx135 := lhd (show ((frz l x c).we.lo) = max 0 (x.we.lo - ((upp c.hi ((thr l.cov x.sn.lo).hi)) / l.la)) by rfl)
 have Hx136 := lhd (show ((frz l x c).we.hi) = max 0 (x.we.hi - ((dn c.lo ((thr l.cov x.sn.hi).lo)) / l.la)) by rfl)
 have Hx137 := lhd (show ((frz l x c).sn.lo) = x.sn.lo by rfl)
 have Hx138 := lhd (show ((frz l x c).sn.hi) = x.sn.hi by rfl)
 have b139 := F62.bx8 0 rfl
 have b140 := F62.bx8 1 rfl
 go_wp2_with fail
 clear b139 b140
 replace F62 := F62.pt8 (.int .i64 x.bl.lo) (.int .i64 x.bl.hi) (.int .i64 (x.wh.lo + (min x.we.lo ((dn c.lo ((thr l.cov x.sn.hi).lo)) / l.la)))) (.int .i64 (x.wh.hi + (min x.we.hi ((upp c.hi ((thr l.cov x.sn.lo).hi)) / l.la)))) (.int .i64 (max 0 (x.we.lo - ((upp c.hi ((thr l.cov x.sn.lo).hi)) / l.la)))) (.int .i64 (max 0 (x.we.hi - ((dn c.lo ((thr l.cov x.sn.hi).lo)) / l.la)))) (.int .i64 x.sn.lo) (.int .i64 x.sn.hi)
 replace F62 := F62.new 142 #[.int .i64 x.bl.lo, .int .i64 x.bl.hi, .int .i64 (x.wh.lo + (min x.we.lo ((dn c.lo ((thr l.cov x.sn.hi).lo)) / l.la))), .int .i64 (x.wh.hi + (min x.we.hi ((upp c.hi ((thr l.cov x.sn.lo).hi)) / l.la))), .int .i64 (max 0 (x.we.lo - ((upp c.hi ((thr l.cov x.sn.lo).hi)) / l.la))), .int .i64 (max 0 (x.we.hi - ((dn c.lo ((thr l.cov x.sn.hi).lo)) / l.la))), .int .i64 x.sn.lo, .int .i64 x.sn.hi] (n := w59.heap.size) (by simp)
 have kb143 := F62.bx8 1 rfl
 go_wp2_with fail
 exact bodyPost_ret (v := .agg #[.int .i64 x.bl.lo, .int .i64 x.bl.hi, .int .i64 (x.wh.lo + (min x.we.lo ((dn c.lo ((thr l.cov x.sn.hi).lo)) / l.la))), .int .i64 (x.wh.hi + (min x.we.hi ((upp c.hi ((thr l.cov x.sn.lo).hi)) / l.la))), .int .i64 (max 0 (x.we.lo - ((upp c.hi ((thr l.cov x.sn.lo).hi)) / l.la))), .int .i64 (max 0 (x.we.hi - ((dn c.lo ((thr l.cov x.sn.hi).lo)) / l.la))), .int .i64 x.sn.lo, .int .i64 x.sn.hi]) (by simp [results, Tryz.results106, go_sem, kb143]) rfl (⟨by rw [Hx131.out, Hx132.out, Hx133.out, Hx134.out, Hx135.out, Hx136.out, Hx137.out, Hx138.out] <;> rfl, F62.gb⟩)
end Go.Proofs.YtcoldeolmleeiaaGreat
