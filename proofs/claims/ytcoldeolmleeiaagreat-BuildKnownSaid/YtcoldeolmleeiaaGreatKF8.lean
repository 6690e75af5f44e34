/- frost: ice that melts; what is known of two; how it bears. -/
import Derived.Test.YtcoldeolmleeiaaGreatKF5
set_option linter.unusedVariables false
set_option linter.unusedSimpArgs false
set_option linter.unnecessarySimpa false
namespace Go.Proofs.YtcoldeolmleeiaaGreat
open Go.RowKit
set_option maxRecDepth 100000
def brs (l : Fro) (x : Ice) : Sp := ⟨x.bl.lo + dn x.wh.lo l.white.lo, x.bl.hi + upp x.wh.hi l.white.hi⟩
set_option maxHeartbeats 8000000 in
theorem melted_c (lo hi : Nat) (v : Value) (l : Fro) (x : Ice) (k m : Int) (c : Sp) (w : World) (hl : Sl covEnc 3 lo hi w v l.cov) (h2 : hi <= w.heap.size) (hL : LawOk l) (hx : IceK x k m) (hk : (0 <= k /\ k <= 401) /\ 0 <= m /\ m <= 401) (hc : -1000 <= c.lo /\ c.lo <= c.hi /\ c.hi < 0) :
  Calls Tryz.prog 107 #[.agg (froC l v), .agg (iceC x), .agg #[.int .i64 c.lo, .int .i64 c.hi]] w (Ret (.agg #[.int .i64 ((mlt l x c).bl.lo), .int .i64 ((mlt l x c).bl.hi), .int .i64 ((mlt l x c).wh.lo), .int .i64 ((mlt l x c).wh.hi), .int .i64 ((mlt l x c).we.lo), .int .i64 ((mlt l x c).we.hi), .int .i64 ((mlt l x c).sn.lo), .int .i64 ((mlt l x c).sn.hi)]) w) := by
 have F1 : Bun w [] w := Bun.nil _
 have hm_cs := hl.len
 unfold maxLen at hm_cs
 obtain ⟨sa, sc, rfl⟩ := hl.any
 replace F1 := F1.sl0 hl h2 rfl
 clear hl
 obtain ⟨⟨hg1, hg2⟩, ⟨hl1, hl2⟩, ⟨hn1, hn2⟩, hpt, ⟨hm1, hm2, hm3⟩, ⟨hs1, hs2⟩, ⟨hw1, hw2, hw3⟩⟩ := id hL
 have HL := lhd hL
 clear hL hpt
 obtain ⟨⟨⟨xb1, xb2⟩, xb3, xb4⟩, ⟨⟨xw1, xw2⟩, xw3, xw4⟩, ⟨xe1, xe2⟩, ⟨xs1, xs2⟩, xm1, xm2⟩ := hx
 obtain ⟨cl1, cl2, cl3⟩ := hc
 go_enter Tryz.func107, Tryz.ntmps107
 go_wp2_with fail
 replace F1 := F1.new 139 (froC l (.slice sa l.cov.length sc)) (n := w.heap.size) (by simp)
 replace F1 := F1.new 142 (iceC x) (n := (w.heap.size + 1)) (by simp)
 replace F1 := F1.new 32 #[.int .i64 c.lo, .int .i64 c.hi] (n := (w.heap.size + 2)) (by simp)
 replace F1 := F1.new 142 (z8) (n := (w.heap.size + 3)) (by simp)
 have b11 := F1.bx2 1 rfl
 have b12 := F1.bx8 3 rfl
 have hd9 := dn_bd7 (n := (-c.hi)) (p := l.melt.lo) (by omega) (by omega) (by omega)
 have hd10 := up_bd7 (n := (-c.lo)) (p := l.melt.hi) (by omega) (by omega) (by omega)
 go_quiet (first | (go_at_call 89; exact Calls.quiet_of_same ((down_c _ _ _ (by omega) (by omega) (by omega) (by omega)).mono (fun _ _ h => ⟨h.1, h.2.symm⟩))) | (go_at_call 90; exact Calls.quiet_of_same ((up_c _ _ _ (by omega) (by omega) (by omega) (by omega)).mono (fun _ _ h => ⟨h.1, h.2.symm⟩))))
 clear b11 b12
 replace F1 := F1.drewN nq
 have Fn_ := ((F1.drop 1 rfl).drop 2 rfl)
 (try dsimp only [lpF, lpG] at Fn_)
 obtain ⟨w14, hx15, F17, hxs16⟩ := Fn_.name
 (try simp at hxs16)
 rw [hx15]
 clear hx15 F1 Fn_
 have b18 := F17.bx8 1 rfl
 go_wp2_with fail
 clear b18
 replace F17 := F17.new 142 (iceC x) (n := w14.heap.size) (by simp)
 replace F17 := F17.new 3 #[.int .i64 3, .int .i64 1, .int .i64 0] (n := (w14.heap.size + 1)) (by simp)
 refine wp_loop_rounds 4 ?_
 rw [rounds_succ]
 have b23 := F17.bx3 0 rfl
 go_wp2_with fail
 clear b23
 have Fn_ := F17
 (try dsimp only [lpF, lpG] at Fn_)
 obtain ⟨w24, hx25, F27, hxs26⟩ := Fn_.name
 (try simp at hxs26)
 rw [hx25]
 clear hx25 F17 Fn_
 have hw21 : IntKind.i64.wrap (x.sn.lo - (upp (-c.lo) l.melt.hi)) = x.sn.lo - (upp (-c.lo) l.melt.hi) := IntWalk.i64_in _ (by omega)
 have hw22 : IntKind.i64.wrap (x.sn.hi - (dn (-c.hi) l.melt.lo)) = x.sn.hi - (dn (-c.hi) l.melt.lo) := IntWalk.i64_in _ (by omega)
 replace F27 := F27.drew
 refine ru_begin (fun W => W.cell? ⟨(w.heap.size + 1), 6, none⟩ = some (.int .i64 x.sn.lo) /\ W.cell? ⟨(w.heap.size + 1), 7, none⟩ = some (.int .i64 x.sn.hi)) 17 (by kernel_rfl) ?_ ?_
 · exact ⟨F27.q 3 6, F27.q 3 7⟩
 obtain ⟨wd30, hwd_⟩ : ∃ x : World, w24.drew = x := ⟨_, rfl⟩
 rw [hwd_] at F27 ⊢
 have wd30s : w24.heap.size <= wd30.heap.size := by rw [← hwd_]; exact Nat.le_refl _
 clear hwd_
 have hS29 := (And.intro (F27.q 3 6) (F27.q 3 7))
 refine ru_t 0 [] ?_
 refine ru_t 1 [] ?_
 refine ru_t 2 [] ?_
 refine ru_t 3 [] ?_
 refine ru_t 4 [] ?_
 refine ru_t 5 [] ?_
 refine ru_t 6 [] ?_
 refine ru_t 7 [] ?_
 refine ru_t 8 [] ?_
 refine ru_t 9 [] ?_
 refine ru_t 10 [] ?_
 refine ru_t 11 [] ?_
 refine ru_t 12 [] ?_
 refine ru_t 13 [] ?_
 refine ru_t 14 [] ?_
 refine ru_t 15 [] ?_
 refine ru_t 16 [] ?_
 (try simp only [lpX])
 clear hS29
 refine ru_o 17 fun K hK => ?_
 have kb_ := F27.bx8 1 rfl
 go_simp
 clear kb_
 have F31 := ((F27.front 1 rfl rfl).set 6 (.int .i64 (max 0 (x.sn.lo - (upp (-c.lo) l.melt.hi))))).nf #[.int .i64 x.bl.lo, .int .i64 x.bl.hi, .int .i64 x.wh.lo, .int .i64 x.wh.hi, .int .i64 x.we.lo, .int .i64 x.we.hi, .int .i64 (max 0 (x.sn.lo - (upp (-c.lo) l.melt.hi))), .int .i64 x.sn.hi] rfl
 clear F27
 have F32 := (F31.set 7 (.int .i64 (max 0 (x.sn.hi - (dn (-c.hi) l.melt.lo))))).nf #[.int .i64 x.bl.lo, .int .i64 x.bl.hi, .int .i64 x.wh.lo, .int .i64 x.wh.hi, .int .i64 x.we.lo, .int .i64 x.we.hi, .int .i64 (max 0 (x.sn.lo - (upp (-c.lo) l.melt.hi))), .int .i64 (max 0 (x.sn.hi - (dn (-c.hi) l.melt.lo)))] rfl
 clear F31
 refine ru_back_late hK (by kernel_rfl) ?_
 clear hK K
 (try simp only [lpX])
 refine ru_done (by kernel_rfl) ?_
 (try clear hw21 hw22)
 have Fn_ := F32
 (try dsimp only [lpF, lpG] at Fn_)
 obtain ⟨w33, hx34, F36, hxs35⟩ := Fn_.name
 (try simp at hxs35)
 rw [hx34]
 clear hx34 F32 Fn_
 go_wp2_with fail
 have b41 := F36.bx8 3 rfl
 have hw39 : IntKind.i64.wrap (dn (-c.hi) l.melt.lo - x.sn.hi) = dn (-c.hi) l.melt.lo - x.sn.hi := IntWalk.i64_in _ (by omega)
 have hw40 : IntKind.i64.wrap (upp (-c.lo) l.melt.hi - x.sn.lo) = upp (-c.lo) l.melt.hi - x.sn.lo := IntWalk.i64_in _ (by omega)
 go_quiet (fail)
 clear b41 hw39 hw40
 replace F36 := F36.drewN nq
 have Fn_ := F36
 (try dsimp only [lpF, lpG] at Fn_)
 obtain ⟨w43, hx44, F46, hxs45⟩ := Fn_.name
 (try simp at hxs45)
 rw [hx44]
 clear hx44 F36 Fn_
 go_wp2_with fail
 rw [rounds_succ]
 have b49 := F46.bx3 1 rfl
 go_wp2_with fail
 clear b49
 have hw47 : IntKind.i64.wrap (x.wh.lo - (max 0 (upp (-c.lo) l.melt.hi - x.sn.lo))) = x.wh.lo - (max 0 (upp (-c.lo) l.melt.hi - x.sn.lo)) := IntWalk.i64_in _ (by omega)
 have hw48 : IntKind.i64.wrap (x.wh.hi - (max 0 (dn (-c.hi) l.melt.lo - x.sn.hi))) = x.wh.hi - (max 0 (dn (-c.hi) l.melt.lo - x.sn.hi)) := IntWalk.i64_in _ (by omega)
 replace F46 := F46.drew
 refine ru_begin (fun W => W.cell? ⟨(w.heap.size + 1), 2, none⟩ = some (.int .i64 x.wh.lo) /\ W.cell? ⟨(w.heap.size + 1), 3, none⟩ = some (.int .i64 x.wh.hi)) 17 (by kernel_rfl) ?_ ?_
 · exact ⟨F46.q 3 2, F46.q 3 3⟩
 obtain ⟨wd52, hwd_⟩ : ∃ x : World, w43.drew = x := ⟨_, rfl⟩
 rw [hwd_] at F46 ⊢
 have wd52s : w43.heap.size <= wd52.heap.size := by rw [← hwd_]; exact Nat.le_refl _
 clear hwd_
 have hS51 := (And.intro (F46.q 3 2) (F46.q 3 3))
 refine ru_t 0 [] ?_
 refine ru_t 1 [] ?_
 refine ru_t 2 [] ?_
 refine ru_t 3 [] ?_
 refine ru_t 4 [] ?_
 refine ru_t 5 [] ?_
 refine ru_t 6 [] ?_
 refine ru_t 7 [] ?_
 refine ru_t 8 [] ?_
 refine ru_t 9 [] ?_
 refine ru_t 10 [] ?_
 refine ru_t 11 [] ?_
 refine ru_t 12 [] ?_
 refine ru_t 13 [] ?_
 refine ru_t 14 [] ?_
 refine ru_t 15 [] ?_
 refine ru_t 16 [] ?_
 (try simp only [lpX])
 clear hS51
 refine ru_o 17 fun K hK => ?_
 have kb_ := F46.bx8 0 rfl
 go_simp
 clear kb_
 have F53 := (F46.set 2 (.int .i64 (max 0 (x.wh.lo - (max 0 (upp (-c.lo) l.melt.hi - x.sn.lo)))))).nf #[.int .i64 x.bl.lo, .int .i64 x.bl.hi, .int .i64 (max 0 (x.wh.lo - (max 0 (upp (-c.lo) l.melt.hi - x.sn.lo)))), .int .i64 x.wh.hi, .int .i64 x.we.lo, .int .i64 x.we.hi, .int .i64 (max 0 (x.sn.lo - (upp (-c.lo) l.melt.hi))), .int .i64 (max 0 (x.sn.hi - (dn (-c.hi) l.melt.lo)))] rfl
 clear F46
 have F54 := (F53.set 3 (.int .i64 (max 0 (x.wh.hi - (max 0 (dn (-c.hi) l.melt.lo - x.sn.hi)))))).nf #[.int .i64 x.bl.lo, .int .i64 x.bl.hi, .int .i64 (max 0 (x.wh.lo - (max 0 (upp (-c.lo) l.melt.hi - x.sn.lo)))), .int .i64 (max 0 (x.wh.hi - (max 0 (dn (-c.hi) l.melt.lo - x.sn.hi)))), .int .i64 x.we.lo, .int .i64 x.we.hi, .int .i64 (max 0 (x.sn.lo - (upp (-c.lo) l.melt.hi))), .int .i64 (max 0 (x.sn.hi - (dn (-c.hi) l.melt.lo)))] rfl
 clear F53
 refine ru_back_late hK (by kernel_rfl) ?_
 clear hK K
 (try simp only [lpX])
 refine ru_done (by kernel_rfl) ?_
 (try clear hw47 hw48)
 have Fn_ := F54
 (try dsimp only [lpF, lpG] at Fn_)
 obtain ⟨w55, hx56, F58, hxs57⟩ := Fn_.name
 (try simp at hxs57)
 rw [hx56]
 clear hx56 F54 Fn_
 go_wp2_with fail
 have b63 := F58.bx8 3 rfl
 have hw61 : IntKind.i64.wrap (max 0 (dn (-c.hi) l.melt.lo - x.sn.hi) - x.wh.hi) = max 0 (dn (-c.hi) l.melt.lo - x.sn.hi) - x.wh.hi := IntWalk.i64_in _ (by omega)
 have hw62 : IntKind.i64.wrap (max 0 (upp (-c.lo) l.melt.hi - x.sn.lo) - x.wh.lo) = max 0 (upp (-c.lo) l.melt.hi - x.sn.lo) - x.wh.lo := IntWalk.i64_in _ (by omega)
 go_quiet (fail)
 clear b63 hw61 hw62
 replace F58 := F58.drewN nq
 have Fn_ := F58
 (try dsimp only [lpF, lpG] at Fn_)
 obtain ⟨w65, hx66, F68, hxs67⟩ := Fn_.name
 (try simp at hxs67)
 rw [hx66]
 clear hx66 F58 Fn_
 go_wp2_with fail
 rw [rounds_succ]
 have b71 := F68.bx3 1 rfl
 go_wp2_with fail
 clear b71
 have hw69 : IntKind.i64.wrap (x.bl.lo - (max 0 (max 0 (upp (-c.lo) l.melt.hi - x.sn.lo) - x.wh.lo))) = x.bl.lo - (max 0 (max 0 (upp (-c.lo) l.melt.hi - x.sn.lo) - x.wh.lo)) := IntWalk.i64_in _ (by omega)
 have hw70 : IntKind.i64.wrap (x.bl.hi - (max 0 (max 0 (dn (-c.hi) l.melt.lo - x.sn.hi) - x.wh.hi))) = x.bl.hi - (max 0 (max 0 (dn (-c.hi) l.melt.lo - x.sn.hi) - x.wh.hi)) := IntWalk.i64_in _ (by omega)
 replace F68 := F68.drew
 refine ru_begin (fun W => C2 W (w.heap.size + 1) (.int .i64 x.bl.lo) (.int .i64 x.bl.hi)) 17 (by kernel_rfl) ?_ ?_
 · exact (F68.c2 3)
 obtain ⟨wd74, hwd_⟩ : ∃ x : World, w65.drew = x := ⟨_, rfl⟩
 rw [hwd_] at F68 ⊢
 have wd74s : w65.heap.size <= wd74.heap.size := by rw [← hwd_]; exact Nat.le_refl _
 clear hwd_
 have hS73 := (F68.c2 3)
 refine ru_t 0 [] ?_
 refine ru_t 1 [] ?_
 refine ru_t 2 [] ?_
 refine ru_t 3 [] ?_
 refine ru_t 4 [] ?_
 refine ru_t 5 [] ?_
 refine ru_t 6 [] ?_
 refine ru_t 7 [] ?_
 refine ru_t 8 [] ?_
 refine ru_t 9 [] ?_
 refine ru_t 10 [] ?_
 refine ru_t 11 [] ?_
 refine ru_t 12 [] ?_
 refine ru_t 13 [] ?_
 refine ru_t 14 [] ?_
 refine ru_t 15 [] ?_
 refine ru_t 16 [] ?_
 (try simp only [lpX])
 clear hS73
 refine ru_o 17 fun K hK => ?_
 have kb_ := F68.bx8 0 rfl
 go_simp
 clear kb_
 have F75 := (F68.set 0 (.int .i64 (max 0 (x.bl.lo - (max 0 (max 0 (upp (-c.lo) l.melt.hi - x.sn.lo) - x.wh.lo)))))).nf #[.int .i64 (max 0 (x.bl.lo - (max 0 (max 0 (upp (-c.lo) l.melt.hi - x.sn.lo) - x.wh.lo)))), .int .i64 x.bl.hi, .int .i64 (max 0 (x.wh.lo - (max 0 (upp (-c.lo) l.melt.hi - x.sn.lo)))), .int .i64 (max 0 (x.wh.hi - (max 0 (dn (-c.hi) l.melt.lo - x.sn.hi)))), .int .i64 x.we.lo, .int .i64 x.we.hi, .int .i64 (max 0 (x.sn.lo - (upp (-c.lo) l.melt.hi))), .int .i64 (max 0 (x.sn.hi - (dn (-c.hi) l.melt.lo)))] rfl
 clear F68
 have F76 := (F75.set 1 (.int .i64 (max 0 (x.bl.hi - (max 0 (max 0 (dn (-c.hi) l.melt.lo - x.sn.hi) - x.wh.hi)))))).nf #[.int .i64 (max 0 (x.bl.lo - (max 0 (max 0 (upp (-c.lo) l.melt.hi - x.sn.lo) - x.wh.lo)))), .int .i64 (max 0 (x.bl.hi - (max 0 (max 0 (dn (-c.hi) l.melt.lo - x.sn.hi) - x.wh.hi)))), .int .i64 (max 0 (x.wh.lo - (max 0 (upp (-c.lo) l.melt.hi - x.sn.lo)))), .int .i64 (max 0 (x.wh.hi - (max 0 (dn (-c.hi) l.melt.lo - x.sn.hi)))), .int .i64 x.we.lo, .int .i64 x.we.hi, .int .i64 (max 0 (x.sn.lo - (upp (-c.lo) l.melt.hi))), .int .i64 (max 0 (x.sn.hi - (dn (-c.hi) l.melt.lo)))] rfl
 clear F75
 refine ru_back_late hK (by kernel_rfl) ?_
 clear hK K
 (try simp only [lpX])
 refine ru_done (by kernel_rfl) ?_
 (try clear hw69 hw70)
 have Fn_ := F76
 (try dsimp only [lpF, lpG] at Fn_)
 obtain ⟨w77, hx78, F80, hxs79⟩ := Fn_.name
 (try simp at hxs79)
 rw [hx78]
 clear hx78 F76 Fn_
 go_wp2_with fail
 have b85 := F80.bx8 3 rfl
 have hw83 : IntKind.i64.wrap (max 0 (max 0 (dn (-c.hi) l.melt.lo - x.sn.hi) - x.wh.hi) - x.bl.hi) = max 0 (max 0 (dn (-c.hi) l.melt.lo - x.sn.hi) - x.wh.hi) - x.bl.hi := IntWalk.i64_in _ (by omega)
 have hw84 : IntKind.i64.wrap (max 0 (max 0 (upp (-c.lo) l.melt.hi - x.sn.lo) - x.wh.lo) - x.bl.lo) = max 0 (max 0 (upp (-c.lo) l.melt.hi - x.sn.lo) - x.wh.lo) - x.bl.lo := IntWalk.i64_in _ (by omega)
 go_quiet (fail)
 clear b85 hw83 hw84
 replace F80 := F80.drewN nq
 have Fn_ := F80
 (try dsimp only [lpF, lpG] at Fn_)
 obtain ⟨w87, hx88, F90, hxs89⟩ := Fn_.name
 (try simp at hxs89)
 rw [hx88]
 clear hx88 F80 Fn_
 go_wp2_with fail
 rw [rounds_succ]
 have Hx91 := lhd (show ((mlt l x c).bl.lo) = max 0 (x.bl.lo - (max 0 (max 0 (upp (-c.lo) l.melt.hi - x.sn.lo) - x.wh.lo))) by rfl)
 have Hx92 := lhd (show ((mlt l x c).bl.hi) = max 0 (x.bl.hi - (max 0 (max 0 (dn (-c.hi) l.melt.lo - x.sn.hi) - x.wh.hi))) by rfl)
 have Hx93 := lhd (show ((mlt l x c).wh.lo) = max 0 (x.wh.lo - (max 0 (upp (-c.lo) l.melt.hi - x.sn.lo))) by rfl)
 have Hx94 := lhd (show ((mlt l x c).wh.hi) = max 0 (x.wh.hi - (max 0 (dn (-c.hi) l.melt.lo - x.sn.hi))) by rfl)
 have Hx95 := lhd (show ((mlt l x c).we.lo) = x.we.lo by rfl)
 have Hx96 := lhd (show ((mlt l x c).we.hi) = x.we.hi by rfl)
 have Hx97 := lhd (show ((mlt l x c).sn.lo) = max 0 (x.sn.lo - (upp (-c.lo) l.melt.hi)) by rfl)
 have Hx98 := lhd (show ((mlt l x c).sn.hi) = max 0 (x.sn.hi - (dn (-c.hi) l.melt.lo)) by rfl)
 have b99 := F90.bx8 0 rfl
 have b100 := F90.bx8 2 rfl
 go_wp2_with fail
 clear b99 b100
 have F101 := (F90.front 2 rfl rfl).pt8 (.int .i64 (max 0 (x.bl.lo - (max 0 (max 0 (upp (-c.lo) l.melt.hi - x.sn.lo) - x.wh.lo))))) (.int .i64 (max 0 (x.bl.hi - (max 0 (max 0 (dn (-c.hi) l.melt.lo - x.sn.hi) - x.wh.hi))))) (.int .i64 (max 0 (x.wh.lo - (max 0 (upp (-c.lo) l.melt.hi - x.sn.lo))))) (.int .i64 (max 0 (x.wh.hi - (max 0 (dn (-c.hi) l.melt.lo - x.sn.hi))))) (.int .i64 x.we.lo) (.int .i64 x.we.hi) (.int .i64 (max 0 (x.sn.lo - (upp (-c.lo) l.melt.hi)))) (.int .i64 (max 0 (x.sn.hi - (dn (-c.hi) l.melt.lo))))
 clear F90
 have kb102 := F101.bx8 0 rfl
 go_wp2_with fail
 exact bodyPost_ret (v := .agg #[.int .i64 (max 0 (x.bl.lo - (max 0 (max 0 (upp (-c.lo) l.melt.hi - x.sn.lo) - x.wh.lo)))), .int .i64 (max 0 (x.bl.hi - (max 0 (max 0 (dn (-c.hi) l.melt.lo - x.sn.hi) - x.wh.hi)))), .int .i64 (max 0 (x.wh.lo - (max 0 (upp (-c.lo) l.melt.hi - x.sn.lo)))), .int .i64 (max 0 (x.wh.hi - (max 0 (dn (-c.hi) l.melt.lo - x.sn.hi)))), .int .i64 x.we.lo, .int .i64 x.we.hi, .int .i64 (max 0 (x.sn.lo - (upp (-c.lo) l.melt.hi))), .int .i64 (max 0 (x.sn.hi - (dn (-c.hi) l.melt.lo)))]) (by simp [results, Tryz.results107, go_sem, kb102]) rfl (⟨by rw [Hx91.out, Hx92.out, Hx93.out, Hx94.out, Hx95.out, Hx96.out, Hx97.out, Hx98.out] <;> rfl, F101.gb⟩)
set_option maxHeartbeats 8000000 in
theorem joined_c (a b : Ice) (w : World)  :
  Calls Tryz.prog 108 #[.agg (iceC a), .agg (iceC b)] w (Ret (.agg #[.int .i64 ((jnd a b).bl.lo), .int .i64 ((jnd a b).bl.hi), .int .i64 ((jnd a b).wh.lo), .int .i64 ((jnd a b).wh.hi), .int .i64 ((jnd a b).we.lo), .int .i64 ((jnd a b).we.hi), .int .i64 ((jnd a b).sn.lo), .int .i64 ((jnd a b).sn.hi)]) w) := by
 have F1 : Bun w [] w := Bun.nil _
 go_enter Tryz.func108, Tryz.ntmps108
 go_wp2_with fail
 replace F1 := F1.new 142 (iceC a) (n := w.heap.size) (by simp)
 replace F1 := F1.new 142 (iceC b) (n := (w.heap.size + 1)) (by simp)
 replace F1 := F1.new 142 (z8) (n := (w.heap.size + 2)) (by simp)
 refine wp_loop_rounds 5 ?_
 rw [rounds_succ]
 have ge5 : ∀ w, (Instr.index 142 (.agg (iceC b)) (.int .i64 0)).run Tryz.prog w = .ok (.agg #[.int .i64 b.bl.lo, .int .i64 b.bl.hi]) w := fun _ => by kernel_rfl
 go_wp2_with fail
 clear ge5
 replace F1 := F1.new 32 #[.int .i64 b.bl.lo, .int .i64 b.bl.hi] (n := (w.heap.size + 3)) (by simp)
 have Fn_ := (F1.drop 2 rfl)
 (try dsimp only [lpF, lpG] at Fn_)
 obtain ⟨w7, hx8, F10, hxs9⟩ := Fn_.name
 (try simp at hxs9)
 rw [hx8]
 clear hx8 F1 Fn_
 have hi11 : ∀ w, (Instr.index 142 (.agg (iceC b)) (.int .i64 0)).run Tryz.prog w = .ok (.agg #[.int .i64 b.bl.lo, .int .i64 b.bl.hi]) w := fun _ => by kernel_rfl
 replace F10 := F10.drew
 refine ru_begin (fun W => W.cell? ⟨w.heap.size, 0, none⟩ = some (.int .i64 a.bl.lo) /\ W.cell? ⟨(w.heap.size + 3), 0, none⟩ = some (.int .i64 b.bl.lo) /\ W.cell? ⟨w.heap.size, 1, none⟩ = some (.int .i64 a.bl.hi) /\ W.cell? ⟨(w.heap.size + 3), 1, none⟩ = some (.int .i64 b.bl.hi)) 17 (by kernel_rfl) ?_ ?_
 · exact ⟨F10.q 2 0, F10.q 0 0, F10.q 2 1, F10.q 0 1⟩
 obtain ⟨wd14, hwd_⟩ : ∃ x : World, w7.drew = x := ⟨_, rfl⟩
 rw [hwd_] at F10 ⊢
 have wd14s : w7.heap.size <= wd14.heap.size := by rw [← hwd_]; exact Nat.le_refl _
 clear hwd_
 have hS13 := (And.intro (F10.q 2 0) (And.intro (F10.q 0 0) (And.intro (F10.q 2 1) (F10.q 0 1))))
 refine ru_t 0 [] ?_
 refine ru_t 1 [] ?_
 refine ru_t 2 [] ?_
 refine ru_t 3 [] ?_
 refine ru_t 4 [] ?_
 refine ru_t 5 [] ?_
 refine ru_t 6 [] ?_
 refine ru_t 7 [] ?_
 refine ru_t 8 [] ?_
 refine ru_t 9 [] ?_
 refine ru_t 10 [] ?_
 refine ru_t 11 [] ?_
 refine ru_t 12 [] ?_
 refine ru_t 13 [] ?_
 refine ru_t 14 [] ?_
 refine ru_t 15 [] ?_
 refine ru_t 16 [] ?_
 (try simp only [lpX])
 clear hS13
 refine ru_o 17 fun K hK => ?_
 have kb_ := F10.bx8 2 rfl
 go_simp
 clear kb_
 have F15 := ((F10.front 2 rfl rfl).set 0 (.int .i64 (min a.bl.lo b.bl.lo))).nf #[.int .i64 (min a.bl.lo b.bl.lo), .int .i64 a.bl.hi, .int .i64 a.wh.lo, .int .i64 a.wh.hi, .int .i64 a.we.lo, .int .i64 a.we.hi, .int .i64 a.sn.lo, .int .i64 a.sn.hi] rfl
 clear F10
 have F16 := (F15.set 1 (.int .i64 (max a.bl.hi b.bl.hi))).nf #[.int .i64 (min a.bl.lo b.bl.lo), .int .i64 (max a.bl.hi b.bl.hi), .int .i64 a.wh.lo, .int .i64 a.wh.hi, .int .i64 a.we.lo, .int .i64 a.we.hi, .int .i64 a.sn.lo, .int .i64 a.sn.hi] rfl
 clear F15
 refine ru_back_late hK (by kernel_rfl) ?_
 clear hK K
 (try simp only [lpX])
 refine ru_done (by kernel_rfl) ?_
 (try clear hi11)
 have Fn_ := (F16.drop 1 rfl)
 (try dsimp only [lpF, lpG] at Fn_)
 obtain ⟨w17, hx18, F20, hxs19⟩ := Fn_.name
 (try simp at hxs19)
 rw [hx18]
 clear hx18 F16 Fn_
 go_wp2_with fail
 rw [rounds_succ]
 have ge21 : ∀ w, (Instr.index 142 (.agg (iceC b)) (.int .i64 1)).run Tryz.prog w = .ok (.agg #[.int .i64 b.wh.lo, .int .i64 b.wh.hi]) w := fun _ => by kernel_rfl
 go_wp2_with fail
 clear ge21
 replace F20 := F20.new 32 #[.int .i64 b.wh.lo, .int .i64 b.wh.hi] (n := w17.heap.size) (by simp)
 have Fn_ := F20
 (try dsimp only [lpF, lpG] at Fn_)
 obtain ⟨w23, hx24, F26, hxs25⟩ := Fn_.name
 (try simp at hxs25)
 rw [hx24]
 clear hx24 F20 Fn_
 have hi27 : ∀ w, (Instr.index 142 (.agg (iceC b)) (.int .i64 1)).run Tryz.prog w = .ok (.agg #[.int .i64 b.wh.lo, .int .i64 b.wh.hi]) w := fun _ => by kernel_rfl
 replace F26 := F26.drew
 refine ru_begin (fun W => W.cell? ⟨w.heap.size, 2, none⟩ = some (.int .i64 a.wh.lo) /\ W.cell? ⟨w17.heap.size, 0, none⟩ = some (.int .i64 b.wh.lo) /\ W.cell? ⟨w.heap.size, 3, none⟩ = some (.int .i64 a.wh.hi) /\ W.cell? ⟨w17.heap.size, 1, none⟩ = some (.int .i64 b.wh.hi)) 17 (by kernel_rfl) ?_ ?_
 · exact ⟨F26.q 1 2, F26.q 0 0, F26.q 1 3, F26.q 0 1⟩
 obtain ⟨wd30, hwd_⟩ : ∃ x : World, w23.drew = x := ⟨_, rfl⟩
 rw [hwd_] at F26 ⊢
 have wd30s : w23.heap.size <= wd30.heap.size := by rw [← hwd_]; exact Nat.le_refl _
 clear hwd_
 have hS29 := (And.intro (F26.q 1 2) (And.intro (F26.q 0 0) (And.intro (F26.q 1 3) (F26.q 0 1))))
 refine ru_t 0 [] ?_
 refine ru_t 1 [] ?_
 refine ru_t 2 [] ?_
 refine ru_t 3 [] ?_
 refine ru_t 4 [] ?_
 refine ru_t 5 [] ?_
 refine ru_t 6 [] ?_
 refine ru_t 7 [] ?_
 refine ru_t 8 [] ?_
 refine ru_t 9 [] ?_
 refine ru_t 10 [] ?_
 refine ru_t 11 [] ?_
 refine ru_t 12 [] ?_
 refine ru_t 13 [] ?_
 refine ru_t 14 [] ?_
 refine ru_t 15 [] ?_
 refine ru_t 16 [] ?_
 (try simp only [lpX])
 clear hS29
 refine ru_o 17 fun K hK => ?_
 have kb_ := F26.bx8 1 rfl
 go_simp
 clear kb_
 have F31 := ((F26.front 1 rfl rfl).set 2 (.int .i64 (min a.wh.lo b.wh.lo))).nf #[.int .i64 (min a.bl.lo b.bl.lo), .int .i64 (max a.bl.hi b.bl.hi), .int .i64 (min a.wh.lo b.wh.lo), .int .i64 a.wh.hi, .int .i64 a.we.lo, .int .i64 a.we.hi, .int .i64 a.sn.lo, .int .i64 a.sn.hi] rfl
 clear F26
 have F32 := (F31.set 3 (.int .i64 (max a.wh.hi b.wh.hi))).nf #[.int .i64 (min a.bl.lo b.bl.lo), .int .i64 (max a.bl.hi b.bl.hi), .int .i64 (min a.wh.lo b.wh.lo), .int .i64 (max a.wh.hi b.wh.hi), .int .i64 a.we.lo, .int .i64 a.we.hi, .int .i64 a.sn.lo, .int .i64 a.sn.hi] rfl
 clear F31
 refine ru_back_late hK (by kernel_rfl) ?_
 clear hK K
 (try simp only [lpX])
 refine ru_done (by kernel_rfl) ?_
 (try clear hi27)
 have Fn_ := (F32.drop 1 rfl)
 (try dsimp only [lpF, lpG] at Fn_)
 obtain ⟨w33, hx34, F36, hxs35⟩ := Fn_.name
 (try simp at hxs35)
 rw [hx34]
 clear hx34 F32 Fn_
 go_wp2_with fail
 rw [rounds_succ]
 have ge37 : ∀ w, (Instr.index 142 (.agg (iceC b)) (.int .i64 2)).run Tryz.prog w = .ok (.agg #[.int .i64 b.we.lo, .int .i64 b.we.hi]) w := fun _ => by kernel_rfl
 go_wp2_with fail
 clear ge37
 replace F36 := F36.new 32 #[.int .i64 b.we.lo, .int .i64 b.we.hi] (n := w33.heap.size) (by simp)
 have Fn_ := F36
 (try dsimp only [lpF, lpG] at Fn_)
 obtain ⟨w39, hx40, F42, hxs41⟩ := Fn_.name
 (try simp at hxs41)
 rw [hx40]
 clear hx40 F36 Fn_
 have hi43 : ∀ w, (Instr.index 142 (.agg (iceC b)) (.int .i64 2)).run Tryz.prog w = .ok (.agg #[.int .i64 b.we.lo, .int .i64 b.we.hi]) w := fun _ => by kernel_rfl
 replace F42 := F42.drew
 refine ru_begin (fun W => W.cell? ⟨w.heap.size, 4, none⟩ = some (.int .i64 a.we.lo) /\ W.cell? ⟨w33.heap.size, 0, none⟩ = some (.int .i64 b.we.lo) /\ W.cell? ⟨w.heap.size, 5, none⟩ = some (.int .i64 a.we.hi) /\ W.cell? ⟨w33.heap.size, 1, none⟩ = some (.int .i64 b.we.hi)) 17 (by kernel_rfl) ?_ ?_
 · exact ⟨F42.q 1 4, F42.q 0 0, F42.q 1 5, F42.q 0 1⟩
 obtain ⟨wd46, hwd_⟩ : ∃ x : World, w39.drew = x := ⟨_, rfl⟩
 rw [hwd_] at F42 ⊢
 have wd46s : w39.heap.size <= wd46.heap.size := by rw [← hwd_]; exact Nat.le_refl _
 clear hwd_
 have hS45 := (And.intro (F42.q 1 4) (And.intro (F42.q 0 0) (And.intro (F42.q 1 5) (F42.q 0 1))))
 refine ru_t 0 [] ?_
 refine ru_t 1 [] ?_
 refine ru_t 2 [] ?_
 refine ru_t 3 [] ?_
 refine ru_t 4 [] ?_
 refine ru_t 5 [] ?_
 refine ru_t 6 [] ?_
 refine ru_t 7 [] ?_
 refine ru_t 8 [] ?_
 refine ru_t 9 [] ?_
 refine ru_t 10 [] ?_
 refine ru_t 11 [] ?_
 refine ru_t 12 [] ?_
 refine ru_t 13 [] ?_
 refine ru_t 14 [] ?_
 refine ru_t 15 [] ?_
 refine ru_t 16 [] ?_
 (try simp only [lpX])
 clear hS45
 refine ru_o 17 fun K hK => ?_
 have kb_ := F42.bx8 1 rfl
 go_simp
 clear kb_
 have F47 := ((F42.front 1 rfl rfl).set 4 (.int .i64 (min a.we.lo b.we.lo))).nf #[.int .i64 (min a.bl.lo b.bl.lo), .int .i64 (max a.bl.hi b.bl.hi), .int .i64 (min a.wh.lo b.wh.lo), .int .i64 (max a.wh.hi b.wh.hi), .int .i64 (min a.we.lo b.we.lo), .int .i64 a.we.hi, .int .i64 a.sn.lo, .int .i64 a.sn.hi] rfl
 clear F42
 have F48 := (F47.set 5 (.int .i64 (max a.we.hi b.we.hi))).nf #[.int .i64 (min a.bl.lo b.bl.lo), .int .i64 (max a.bl.hi b.bl.hi), .int .i64 (min a.wh.lo b.wh.lo), .int .i64 (max a.wh.hi b.wh.hi), .int .i64 (min a.we.lo b.we.lo), .int .i64 (max a.we.hi b.we.hi), .int .i64 a.sn.lo, .int .i64 a.sn.hi] rfl
 clear F47
 refine ru_back_late hK (by kernel_rfl) ?_
 clear hK K
 (try simp only [lpX])
 refine ru_done (by kernel_rfl) ?_
 (try clear hi43)
 have Fn_ := (F48.drop 1 rfl)
 (try dsimp only [lpF, lpG] at Fn_)
 obtain ⟨w49, hx50, F52, hxs51⟩ := Fn_.name
 (try simp at hxs51)
 rw [hx50]
 clear hx50 F48 Fn_
 go_wp2_with fail
 rw [rounds_succ]
 have ge53 : ∀ w, (Instr.index 142 (.agg (iceC b)) (.int .i64 3)).run Tryz.prog w = .ok (.agg #[.int .i64 b.sn.lo, .int .i64 b.sn.hi]) w := fun _ => by kernel_rfl
 go_wp2_with fail
 clear ge53
 replace F52 := F52.new 32 #[.int .i64 b.sn.lo, .int .i64 b.sn.hi] (n := w49.heap.size) (by simp)
 have Fn_ := F52
 (try dsimp only [lpF, lpG] at Fn_)
 obtain ⟨w55, hx56, F58, hxs57⟩ := Fn_.name
 (try simp at hxs57)
 rw [hx56]
 clear hx56 F52 Fn_
 have hi59 : ∀ w, (Instr.index 142 (.agg (iceC b)) (.int .i64 3)).run Tryz.prog w = .ok (.agg #[.int .i64 b.sn.lo, .int .i64 b.sn.hi]) w := fun _ => by kernel_rfl
 replace F58 := F58.drew
 refine ru_begin (fun W => W.cell? ⟨w.heap.size, 6, none⟩ = some (.int .i64 a.sn.lo) /\ W.cell? ⟨w49.heap.size, 0, none⟩ = some (.int .i64 b.sn.lo) /\ W.cell? ⟨w.heap.size, 7, none⟩ = some (.int .i64 a.sn.hi) /\ W.cell? ⟨w49.heap.size, 1, none⟩ = some (.int .i64 b.sn.hi)) 17 (by kernel_rfl) ?_ ?_
 · exact ⟨F58.q 1 6, F58.q 0 0, F58.q 1 7, F58.q 0 1⟩
 obtain ⟨wd62, hwd_⟩ : ∃ x : World, w55.drew = x := ⟨_, rfl⟩
 rw [hwd_] at F58 ⊢
 have wd62s : w55.heap.size <= wd62.heap.size := by rw [← hwd_]; exact Nat.le_refl _
 clear hwd_
 have hS61 := (And.intro (F58.q 1 6) (And.intro (F58.q 0 0) (And.intro (F58.q 1 7) (F58.q 0 1))))
 refine ru_t 0 [] ?_
 refine ru_t 1 [] ?_
 refine ru_t 2 [] ?_
 refine ru_t 3 [] ?_
 refine ru_t 4 [] ?_
 refine ru_t 5 [] ?_
 refine ru_t 6 [] ?_
 refine ru_t 7 [] ?_
 refine ru_t 8 [] ?_
 refine ru_t 9 [] ?_
 refine ru_t 10 [] ?_
 refine ru_t 11 [] ?_
 refine ru_t 12 [] ?_
 refine ru_t 13 [] ?_
 refine ru_t 14 [] ?_
 refine ru_t 15 [] ?_
 refine ru_t 16 [] ?_
 (try simp only [lpX])
 clear hS61
 refine ru_o 17 fun K hK => ?_
 have kb_ := F58.bx8 1 rfl
 go_simp
 clear kb_
 have F63 := ((F58.front 1 rfl rfl).set 6 (.int .i64 (min a.sn.lo b.sn.lo))).nf #[.int .i64 (min a.bl.lo b.bl.lo), .int .i64 (max a.bl.hi b.bl.hi), .int .i64 (min a.wh.lo b.wh.lo), .int .i64 (max a.wh.hi b.wh.hi), .int .i64 (min a.we.lo b.we.lo), .int .i64 (max a.we.hi b.we.hi), .int .i64 (min a.sn.lo b.sn.lo), .int .i64 a.sn.hi] rfl
 clear F58
 have F64 := (F63.set 7 (.int .i64 (max a.sn.hi b.sn.hi))).nf #[.int .i64 (min a.bl.lo b.bl.lo), .int .i64 (max a.bl.hi b.bl.hi), .int .i64 (min a.wh.lo b.wh.lo), .int .i64 (max a.wh.hi b.wh.hi), .int .i64 (min a.we.lo b.we.lo), .int .i64 (max a.we.hi b.we.hi), .int .i64 (min a.sn.lo b.sn.lo), .int .i64 (max a.sn.hi b.sn.hi)] rfl
 clear F63
 refine ru_back_late hK (by kernel_rfl) ?_
 clear hK K
 (try simp only [lpX])
 refine ru_done (by kernel_rfl) ?_
 (try clear hi59)
 have Fn_ := (F64.drop 1 rfl)
 (try dsimp only [lpF, lpG] at Fn_)
 obtain ⟨w65, hx66, F68, hxs67⟩ := Fn_.name
 (try simp at hxs67)
 rw [hx66]
 clear hx66 F64 Fn_
 go_wp2_with fail
 rw [rounds_succ]
 have Hx69 := lhd (show ((jnd a b).bl.lo) = min a.bl.lo b.bl.lo by rfl)
 have Hx70 := lhd (show ((jnd a b).bl.hi) = max a.bl.hi b.bl.hi by rfl)
 have Hx71 := lhd (show ((jnd a b).wh.lo) = min a.wh.lo b.wh.lo by rfl)
 have Hx72 := lhd (show ((jnd a b).wh.hi) = max a.wh.hi b.wh.hi by rfl)
 have Hx73 := lhd (show ((jnd a b).we.lo) = min a.we.lo b.we.lo by rfl)
 have Hx74 := lhd (show ((jnd a b).we.hi) = max a.we.hi b.we.hi by rfl)
 have Hx75 := lhd (show ((jnd a b).sn.lo) = min a.sn.lo b.sn.lo by rfl)
 have Hx76 := lhd (show ((jnd a b).sn.hi) = max a.sn.hi b.sn.hi by rfl)
 have b77 := F68.bx8 0 rfl
 have b78 := F68.bx8 1 rfl
 go_wp2_with fail
 clear b77 b78
 have F79 := (F68.front 1 rfl rfl).pt8 (.int .i64 (min a.bl.lo b.bl.lo)) (.int .i64 (max a.bl.hi b.bl.hi)) (.int .i64 (min a.wh.lo b.wh.lo)) (.int .i64 (max a.wh.hi b.wh.hi)) (.int .i64 (min a.we.lo b.we.lo)) (.int .i64 (max a.we.hi b.we.hi)) (.int .i64 (min a.sn.lo b.sn.lo)) (.int .i64 (max a.sn.hi b.sn.hi))
 clear F68
 have kb80 := F79.bx8 0 rfl
 go_wp2_with fail
 exact bodyPost_ret (v := .agg #[.int .i64 (min a.bl.lo b.bl.lo), .int .i64 (max a.bl.hi b.bl.hi), .int .i64 (min a.wh.lo b.wh.lo), .int .i64 (max a.wh.hi b.wh.hi), .int .i64 (min a.we.lo b.we.lo), .int .i64 (max a.we.hi b.we.hi), .int .i64 (min a.sn.lo b.sn.lo), .int .i64 (max a.sn.hi b.sn.hi)]) (by simp [results, Tryz.results108, go_sem, kb80]) rfl (⟨by rw [Hx69.out, Hx70.out, Hx71.out, Hx72.out, Hx73.out, Hx74.out, Hx75.out, Hx76.out] <;> rfl, F79.gb⟩)
set_option maxHeartbeats 8000000 in
theorem bears_c (lo hi : Nat) (v : Value) (l : Fro) (x : Ice) (k m : Int) (w : World) (hl : Sl covEnc 3 lo hi w v l.cov) (h2 : hi <= w.heap.size) (hL : LawOk l) (hx : IceK x k m) (hk : (0 <= k /\ k <= 401) /\ 0 <= m /\ m <= 401) :
  Calls Tryz.prog 76 #[.agg (froC l v), .agg (iceC x)] w (Ret (.agg #[.int .i64 ((brs l x).lo), .int .i64 ((brs l x).hi)]) w) := by
 have F1 : Bun w [] w := Bun.nil _
 have hm_cs := hl.len
 unfold maxLen at hm_cs
 obtain ⟨sa, sc, rfl⟩ := hl.any
 replace F1 := F1.sl0 hl h2 rfl
 clear hl
 obtain ⟨⟨hg1, hg2⟩, ⟨hl1, hl2⟩, ⟨hn1, hn2⟩, hpt, ⟨hm1, hm2, hm3⟩, ⟨hs1, hs2⟩, ⟨hw1, hw2, hw3⟩⟩ := id hL
 have HL := lhd hL
 clear hL hpt
 obtain ⟨⟨⟨xb1, xb2⟩, xb3, xb4⟩, ⟨⟨xw1, xw2⟩, xw3, xw4⟩, ⟨xe1, xe2⟩, ⟨xs1, xs2⟩, xm1, xm2⟩ := hx
 go_enter Tryz.func76, Tryz.ntmps76
 go_wp2_with fail
 replace F1 := F1.new 139 (froC l (.slice sa l.cov.length sc)) (n := w.heap.size) (by simp)
 replace F1 := F1.new 142 (iceC x) (n := (w.heap.size + 1)) (by simp)
 replace F1 := F1.new 32 #[.int .i64 0, .int .i64 0] (n := (w.heap.size + 2)) (by simp)
 have Fn_ := F1
 (try dsimp only [lpF, lpG] at Fn_)
 obtain ⟨w8, hx9, F11, hxs10⟩ := Fn_.name
 (try simp at hxs10)
 rw [hx9]
 clear hx9 F1 Fn_
 replace F11 := F11.drew
 refine ru_begin (fun W => W.cell? ⟨(w.heap.size + 1), 0, none⟩ = some (.int .i64 x.bl.lo) /\ W.cell? ⟨(w.heap.size + 1), 2, none⟩ = some (.int .i64 x.wh.lo) /\ W.cell? ⟨w.heap.size, 6, none⟩ = some (.int .i64 l.white.lo) /\ W.cell? ⟨(w.heap.size + 1), 1, none⟩ = some (.int .i64 x.bl.hi) /\ W.cell? ⟨(w.heap.size + 1), 3, none⟩ = some (.int .i64 x.wh.hi) /\ W.cell? ⟨w.heap.size, 7, none⟩ = some (.int .i64 l.white.hi)) 25 (by kernel_rfl) ?_ ?_
 · exact ⟨F11.q 1 0, F11.q 1 2, F11.q 2 6, F11.q 1 1, F11.q 1 3, F11.q 2 7⟩
 obtain ⟨wd14, hwd_⟩ : ∃ x : World, w8.drew = x := ⟨_, rfl⟩
 rw [hwd_] at F11 ⊢
 have wd14s : w8.heap.size <= wd14.heap.size := by rw [← hwd_]; exact Nat.le_refl _
 clear hwd_
 have hS13 := (And.intro (F11.q 1 0) (And.intro (F11.q 1 2) (And.intro (F11.q 2 6) (And.intro (F11.q 1 1) (And.intro (F11.q 1 3) (F11.q 2 7))))))
 refine ru_t 0 [] ?_
 refine ru_t 1 [] ?_
 refine ru_t 2 [] ?_
 refine ru_t 3 [] ?_
 refine ru_t 4 [] ?_
 refine ru_t 5 [] ?_
 refine ru_t 6 [] ?_
 refine ru_t 7 [] ?_
 refine ru_t 8 [] ?_
 refine ru_t 9 [] ?_
 refine ru_t 12 [] ?_
 refine ru_t 13 [] ?_
 refine ru_t 14 [] ?_
 refine ru_t 15 [] ?_
 refine ru_t 16 [] ?_
 refine ru_t 17 [] ?_
 refine ru_t 18 [] ?_
 refine ru_t 19 [] ?_
 refine ru_t 20 [] ?_
 refine ru_t 21 [] ?_
 (try simp only [lpX])
 clear hS13
 refine ru_o 10 fun K hK => ?_
 go_simp
 refine (down_c _ _ _ (by omega) (by omega) (by omega) (by omega)).mono ?_
 rintro e _ ⟨rfl, rfl⟩
 have hd15 := dn_bd (n := x.wh.lo) (p := l.white.lo) (by omega) (by omega) (by omega)
 refine ru_back hK (by exact ⟨F11.q 1 0, F11.q 1 2, F11.q 2 6, F11.q 1 1, F11.q 1 3, F11.q 2 7⟩) (fun _ => ?_)
 clear hK K
 (try simp only [lpX])
 have hw16 : IntKind.i64.wrap (x.bl.lo + (dn x.wh.lo l.white.lo)) = x.bl.lo + (dn x.wh.lo l.white.lo) := IntWalk.i64_in _ (by omega)
 refine ru_p 11 ?_
 (try simp only [lpX])
 refine ru_o 22 fun K hK => ?_
 go_simp
 refine (up_c _ _ _ (by omega) (by omega) (by omega) (by omega)).mono ?_
 rintro e _ ⟨rfl, rfl⟩
 have hd17 := up_bd (n := x.wh.hi) (p := l.white.hi) (by omega) (by omega) (by omega)
 refine ru_back hK (by exact ⟨F11.q 1 0, F11.q 1 2, F11.q 2 6, F11.q 1 1, F11.q 1 3, F11.q 2 7⟩) (fun _ => ?_)
 clear hK K
 (try simp only [lpX])
 have hw18 : IntKind.i64.wrap (x.bl.hi + (upp x.wh.hi l.white.hi)) = x.bl.hi + (upp x.wh.hi l.white.hi) := IntWalk.i64_in _ (by omega)
 refine ru_p 23 ?_
 (try simp only [lpX])
 refine ru_p 24 ?_
 (try simp only [lpX])
 refine ru_o 25 fun K hK => ?_
 have kb_ := F11.bx2 0 rfl
 go_simp
 clear kb_
 replace F11 := F11.pt2 (.int .i64 (x.bl.lo + (dn x.wh.lo l.white.lo))) (.int .i64 (x.bl.hi + (upp x.wh.hi l.white.hi)))
 refine ru_back_late hK (by kernel_rfl) ?_
 clear hK K
 (try simp only [lpX])
 refine ru_done (by kernel_rfl) ?_
 (try clear hw16 hw18)
 have Fn_ := ((F11.drop 1 rfl).drop 1 rfl)
 (try dsimp only [lpF, lpG] at Fn_)
 obtain ⟨w20, hx21, F23, hxs22⟩ := Fn_.name
 (try simp at hxs22)
 rw [hx21]
 clear hx21 F11 Fn_
 have Hx24 := lhd (show ((brs l x).lo) = x.bl.lo + (dn x.wh.lo l.white.lo) by rfl)
 have Hx25 := lhd (show ((brs l x).hi) = x.bl.hi + (upp x.wh.hi l.white.hi) by rfl)
 go_wp2_with fail
 have kb26 := F23.bx2 0 rfl
 go_wp2_with fail
 exact bodyPost_ret (v := .agg #[.int .i64 (x.bl.lo + (dn x.wh.lo l.white.lo)), .int .i64 (x.bl.hi + (upp x.wh.hi l.white.hi))]) (by simp [results, Tryz.results76, go_sem, kb26]) rfl (⟨by rw [Hx24.out, Hx25.out] <;> rfl, F23.gb⟩)
end Go.Proofs.YtcoldeolmleeiaaGreat
