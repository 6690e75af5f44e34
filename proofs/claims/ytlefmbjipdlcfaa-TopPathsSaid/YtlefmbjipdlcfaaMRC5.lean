/- top: rescue: the example of chapter 7 holds. -/
import Derived.Test.YtlefmbjipdlcfaaMRC4
import Derived.Test.YtlefmbjipdlcfaaMKC
import Derived.Test.YtlefmbjipdlcfaaMKA
set_option linter.unusedVariables false
set_option linter.unusedSimpArgs false
set_option linter.unnecessarySimpa false
namespace Go.Proofs.Ytlefmbjipdlcfaa
open Go.RowKit
set_option maxRecDepth 100000
attribute [local go_sem] Oper.semAt_some
set_option maxHeartbeats 16000000 in
theorem reach_c (vp vq vw vc vt vl : Value) (w : World) (hW : WatAt w vp vq vw vc vt vl) :
  Calls Try.prog 48 #[.agg #[.int .i64 1, vp, vq, vw, vc, vt, vl], .int .i64 0, .int .i64 0] w (Ret (.agg #[.int .i64 2, .int .i64 3]) w) := by
 have F1 : Bun w [] w := Bun.nil _
 obtain ⟨hr, ⟨vg, ⟨lt_, ht_, hlt_, hht_⟩, ⟨lg_, hg_, hlg_, hhg_⟩⟩, ⟨ll_, hl_, hll_, hhl_⟩⟩ := hW
 obtain ⟨⟨lo1, hi1, hl1, hh1⟩, ⟨lo2, hi2, hl2, hh2⟩, ⟨lo3, hi3, hl3, hh3⟩, ⟨lo4, hi4, hl4, hh4⟩⟩ := hr
 have hm_ps := hl1.len
 unfold maxLen at hm_ps
 obtain ⟨a1_, c1_, rfl⟩ := hl1.any
 replace F1 := F1.sl0 hl1 hh1 rfl
 clear hl1
 have hm_po := hl2.len
 unfold maxLen at hm_po
 obtain ⟨a2_, c2_, rfl⟩ := hl2.any
 replace F1 := F1.sl0 hl2 hh2 rfl
 clear hl2
 have hm_wa := hl3.len
 unfold maxLen at hm_wa
 obtain ⟨a3_, c3_, rfl⟩ := hl3.any
 replace F1 := F1.sl0 hl3 hh3 rfl
 clear hl3
 have hm_ch := hl4.len
 unfold maxLen at hm_ch
 obtain ⟨a4_, c4_, rfl⟩ := hl4.any
 replace F1 := F1.sl0 hl4 hh4 rfl
 clear hl4
 obtain ⟨x6, o7, e_⟩ := Sl.addr (F1.at 2 rfl : Sl poEnc 7 lo2 hi2 _ (.slice a2_ [p7].length c2_) [p7]) Nat.zero_lt_one
 subst e_
 have hz8 : Hid ([p7][0]? = some p7) := lhd (rfl)
 obtain ⟨x9, o10, e_⟩ := Sl.addr (F1.at 1 rfl : Sl spEnc 2 lo3 hi3 _ (.slice a3_ (ws0 1).length c3_) (ws0 1)) Nat.zero_lt_one
 subst e_
 have hz11 : Hid ((ws0 1)[0]? = some (⟨0, 0⟩ : Sp)) := lhd (rfl)
 obtain ⟨x12, o13, e_⟩ := Sl.addr (F1.at 0 rfl : Sl chEnc 3 lo4 hi4 _ (.slice a4_ [(9 : Int)].length c4_) ([(9 : Int)])) Nat.zero_lt_one
 subst e_
 have hz14 : Hid (([(9 : Int)])[0]? = some (9 : Int)) := lhd (rfl)
 have hm_gs := hlg_.len
 unfold maxLen at hm_gs
 obtain ⟨aG, cG, rfl⟩ := hlg_.any
 replace F1 := F1.sl0 hlg_ hhg_ rfl
 clear hlg_
 obtain ⟨x16, o17, e_⟩ := Sl.addr (F1.at 0 rfl : Sl spEnc 2 lg_ hg_ _ (.slice aG [(⟨2, 3⟩ : Sp)].length cG) ([(⟨2, 3⟩ : Sp)])) Nat.zero_lt_one
 subst e_
 have hz18 : Hid (([(⟨2, 3⟩ : Sp)])[0]? = some (⟨2, 3⟩ : Sp)) := lhd (rfl)
 have hm_tm := hlt_.len
 unfold maxLen at hm_tm
 obtain ⟨aT, cT, rfl⟩ := hlt_.any
 replace F1 := F1.sl0 hlt_ hht_ rfl
 clear hlt_
 obtain ⟨x20, o21, e_⟩ := Sl.addr (F1.at 0 rfl : Sl vEncR 1 lt_ ht_ _ (.slice aT [(.slice (some ⟨x16, o17, none⟩) 1 cG : Value)].length cT) ([(.slice (some ⟨x16, o17, none⟩) 1 cG : Value)])) Nat.zero_lt_one
 subst e_
 have hz22 : Hid (([(.slice (some ⟨x16, o17, none⟩) 1 cG : Value)])[0]? = some (.slice (some ⟨x16, o17, none⟩) 1 cG)) := lhd (rfl)
 have hm_lv := hll_.len
 unfold maxLen at hm_lv
 obtain ⟨aL, cL, rfl⟩ := hll_.any
 replace F1 := F1.sl0 hll_ hhl_ rfl
 clear hll_
 obtain ⟨x24, o25, e_⟩ := Sl.addr (F1.at 0 rfl : Sl spEnc 2 ll_ hl_ _ (.slice aL [(⟨9, 9⟩ : Sp)].length cL) ([(⟨9, 9⟩ : Sp)])) Nat.zero_lt_one
 subst e_
 have hz26 : Hid (([(⟨9, 9⟩ : Sp)])[0]? = some (⟨9, 9⟩ : Sp)) := lhd (rfl)
 go_enter Try.func48, Try.ntmps48
 replace F1 := F1.nilrow spEnc 31 2
 go_wp2_with fail
 replace F1 := F1.new 95 #[.int .i64 1, .slice a1_ 0 c1_, .slice (some ⟨x6, o7, none⟩) 1 c2_, .slice (some ⟨x9, o10, none⟩) 1 c3_, .slice (some ⟨x12, o13, none⟩) 1 c4_, .slice (some ⟨x20, o21, none⟩) 1 cT, .slice (some ⟨x24, o25, none⟩) 1 cL] (n := w.heap.size) (by simp)
 replace F1 := F1.new 31 #[.int .i64 0, .int .i64 0] (n := (w.heap.size + 1)) (by simp)
 have Fn_ := F1
 (try dsimp only [List.eraseIdx_cons_succ, List.eraseIdx_cons_zero] at Fn_)
 obtain ⟨w30, hx31, F33, hxs32⟩ := Fn_.name
 (try simp at hxs32)
 rw [hx31]
 clear hx31 F1 Fn_
 refine wp_loop_rounds 2 ?_
 rw [rounds_succ]
 have ge34 : World.cell? _ ⟨x6, o7, none⟩ = some (.int .i64 0) := (by have h_ := Sl.cells (F33.at 8 rfl) hz8.out 0 _ rfl; simpa [Nat.add_assoc, p7] using h_)
 have gl35 := cell_lt ge34
 have ge36 : World.cell? _ ⟨x6, o7 + 1, none⟩ = some (.int .i64 2) := (by have h_ := Sl.cells (F33.at 8 rfl) hz8.out 1 _ rfl; simpa [Nat.add_assoc, p7] using h_)
 have ge37 : World.cell? _ ⟨x6, o7 + 2, none⟩ = some (.int .i64 3) := (by have h_ := Sl.cells (F33.at 8 rfl) hz8.out 2 _ rfl; simpa [Nat.add_assoc, p7] using h_)
 have ge38 : World.cell? _ ⟨x6, o7 + 3, none⟩ = some (.int .i64 0) := (by have h_ := Sl.cells (F33.at 8 rfl) hz8.out 3 _ rfl; simpa [Nat.add_assoc, p7] using h_)
 have ge39 : World.cell? _ ⟨x6, o7 + 4, none⟩ = some (.int .i64 0) := (by have h_ := Sl.cells (F33.at 8 rfl) hz8.out 4 _ rfl; simpa [Nat.add_assoc, p7] using h_)
 have ge40 : World.cell? _ ⟨x6, o7 + 5, none⟩ = some (.int .i64 0) := (by have h_ := Sl.cells (F33.at 8 rfl) hz8.out 5 _ rfl; simpa [Nat.add_assoc, p7] using h_)
 have ge41 : World.cell? _ ⟨x6, o7 + 6, none⟩ = some (.slice none 0 0) := (by have h_ := Sl.cells (F33.at 8 rfl) hz8.out 6 _ rfl; simpa [Nat.add_assoc, p7] using h_)
 go_wp2_with fail
 clear ge34 gl35 ge36 ge37 ge38 ge39 ge40 ge41
 replace F33 := F33.new 35 #[.int .i64 0, .int .i64 2, .int .i64 3, .int .i64 0, .int .i64 0, .int .i64 0, .slice none 0 0] (n := w30.heap.size) (by simp)
 refine (manned_c 0 2 3 _).mono ?_
 rintro e w45 ⟨rfl, hg43⟩
 have hg43s := hg43.size
 (try simp at hg43s)
 replace F33 := F33.gn hg43
 clear hg43
 have b47 := F33.bx7 2 rfl
 have ge48 : World.cell? _ ⟨x20, o21, none⟩ = some (.slice (some ⟨x16, o17, none⟩) 1 cG) := (by have h_ := Sl.cells (F33.at 5 rfl) hz22.out 0 _ rfl; simpa [Nat.add_assoc, slcB] using h_)
 have gl49 := cell_lt ge48
 have ge50 : World.cell? _ ⟨x16, o17, none⟩ = some (.int .i64 2) := (by have h_ := Sl.cells (F33.at 6 rfl) hz18.out 0 _ rfl; simpa [Nat.add_assoc] using h_)
 have gl51 := cell_lt ge50
 have ge52 : World.cell? _ ⟨x16, o17 + 1, none⟩ = some (.int .i64 3) := (by have h_ := Sl.cells (F33.at 6 rfl) hz18.out 1 _ rfl; simpa [Nat.add_assoc] using h_)
 go_wp2_with (at_builtin; refine wpList_app _ okSp rfl _ _ rfl w.heap.size (.slice none 0 0) [] [(⟨2, 3⟩ : Sp)] rfl (by exact ((F33.at 3 rfl : Own spEnc 31 2 w.heap.size _ (.slice none 0 0) [])).alloc _) ⟨_, 0, none⟩ 1 1 rfl rfl (by decide) (news_of (Bk.newAt _ _ _ (by simp))) 1 (rfl) (by omega) (by first | omega | (simp; omega)) _ rfl ?_; intro g53 cap54 w55 hp56; refine Hid.out ?_)
 refine lhd ?_
 have hp56s := hp56.gb.size
 (try simp at hp56s)
 clear b47 ge48 gl49 ge50 gl51 ge52
 have F57 := ((F33.alloc (.cells #[.int .i64 2, .int .i64 3] 31)).front 3 rfl rfl).app hp56 (by simp)
 clear F33
 go_wp2_with fail
 rw [rounds_succ]
 go_wp2_with fail
 refine (soonest_c _ _ _ _ (Own.sl (F57.at 0 rfl : Own spEnc 31 2 w.heap.size _ (.slice (some ⟨g53, 0, none⟩) 1 cap54) ([] ++ [(⟨2, 3⟩ : Sp)])) (fun _ => rfl)) (Nat.le_refl _)).mono ?_
 rintro e w60 ⟨rfl, hg58⟩
 have hg58s := hg58.size
 (try simp at hg58s)
 replace F57 := F57.gn hg58
 clear hg58
 have b62 := F57.bx2 2 rfl
 go_wp2_with fail
 clear b62
 have F63 := (F57.front 2 rfl rfl).pt2 (.int .i64 2) (.int .i64 3)
 clear F57
 have kb64 := F63.bx2 0 rfl
 go_wp2_with fail
 exact bodyPost_ret (v := .agg #[.int .i64 2, .int .i64 3]) (by simp [results, Try.results48, go_sem, kb64]) rfl (⟨rfl, F63.gb⟩)
set_option maxHeartbeats 16000000 in
theorem cover_c (vp vq vw vc vt vl : Value) (w : World) (hW : WatAt w vp vq vw vc vt vl) :
  Calls Try.prog 42 #[.agg #[.int .i64 1, vp, vq, vw, vc, vt, vl], .int .i64 0, .int .i64 0] w (Ret (.int .i64 1) w) := by
 have F1 : Bun w [] w := Bun.nil _
 obtain ⟨hr, ⟨vg, ⟨lt_, ht_, hlt_, hht_⟩, ⟨lg_, hg_, hlg_, hhg_⟩⟩, ⟨ll_, hl_, hll_, hhl_⟩⟩ := hW
 obtain ⟨⟨lo1, hi1, hl1, hh1⟩, ⟨lo2, hi2, hl2, hh2⟩, ⟨lo3, hi3, hl3, hh3⟩, ⟨lo4, hi4, hl4, hh4⟩⟩ := hr
 have hm_ps := hl1.len
 unfold maxLen at hm_ps
 obtain ⟨a1_, c1_, rfl⟩ := hl1.any
 replace F1 := F1.sl0 hl1 hh1 rfl
 clear hl1
 have hm_po := hl2.len
 unfold maxLen at hm_po
 obtain ⟨a2_, c2_, rfl⟩ := hl2.any
 replace F1 := F1.sl0 hl2 hh2 rfl
 clear hl2
 have hm_wa := hl3.len
 unfold maxLen at hm_wa
 obtain ⟨a3_, c3_, rfl⟩ := hl3.any
 replace F1 := F1.sl0 hl3 hh3 rfl
 clear hl3
 have hm_ch := hl4.len
 unfold maxLen at hm_ch
 obtain ⟨a4_, c4_, rfl⟩ := hl4.any
 replace F1 := F1.sl0 hl4 hh4 rfl
 clear hl4
 obtain ⟨x6, o7, e_⟩ := Sl.addr (F1.at 2 rfl : Sl poEnc 7 lo2 hi2 _ (.slice a2_ [p7].length c2_) [p7]) Nat.zero_lt_one
 subst e_
 have hz8 : Hid ([p7][0]? = some p7) := lhd (rfl)
 obtain ⟨x9, o10, e_⟩ := Sl.addr (F1.at 1 rfl : Sl spEnc 2 lo3 hi3 _ (.slice a3_ (ws0 1).length c3_) (ws0 1)) Nat.zero_lt_one
 subst e_
 have hz11 : Hid ((ws0 1)[0]? = some (⟨0, 0⟩ : Sp)) := lhd (rfl)
 obtain ⟨x12, o13, e_⟩ := Sl.addr (F1.at 0 rfl : Sl chEnc 3 lo4 hi4 _ (.slice a4_ [(9 : Int)].length c4_) ([(9 : Int)])) Nat.zero_lt_one
 subst e_
 have hz14 : Hid (([(9 : Int)])[0]? = some (9 : Int)) := lhd (rfl)
 have hm_gs := hlg_.len
 unfold maxLen at hm_gs
 obtain ⟨aG, cG, rfl⟩ := hlg_.any
 replace F1 := F1.sl0 hlg_ hhg_ rfl
 clear hlg_
 obtain ⟨x16, o17, e_⟩ := Sl.addr (F1.at 0 rfl : Sl spEnc 2 lg_ hg_ _ (.slice aG [(⟨2, 3⟩ : Sp)].length cG) ([(⟨2, 3⟩ : Sp)])) Nat.zero_lt_one
 subst e_
 have hz18 : Hid (([(⟨2, 3⟩ : Sp)])[0]? = some (⟨2, 3⟩ : Sp)) := lhd (rfl)
 have hm_tm := hlt_.len
 unfold maxLen at hm_tm
 obtain ⟨aT, cT, rfl⟩ := hlt_.any
 replace F1 := F1.sl0 hlt_ hht_ rfl
 clear hlt_
 obtain ⟨x20, o21, e_⟩ := Sl.addr (F1.at 0 rfl : Sl vEncR 1 lt_ ht_ _ (.slice aT [(.slice (some ⟨x16, o17, none⟩) 1 cG : Value)].length cT) ([(.slice (some ⟨x16, o17, none⟩) 1 cG : Value)])) Nat.zero_lt_one
 subst e_
 have hz22 : Hid (([(.slice (some ⟨x16, o17, none⟩) 1 cG : Value)])[0]? = some (.slice (some ⟨x16, o17, none⟩) 1 cG)) := lhd (rfl)
 have hm_lv := hll_.len
 unfold maxLen at hm_lv
 obtain ⟨aL, cL, rfl⟩ := hll_.any
 replace F1 := F1.sl0 hll_ hhl_ rfl
 clear hll_
 obtain ⟨x24, o25, e_⟩ := Sl.addr (F1.at 0 rfl : Sl spEnc 2 ll_ hl_ _ (.slice aL [(⟨9, 9⟩ : Sp)].length cL) ([(⟨9, 9⟩ : Sp)])) Nat.zero_lt_one
 subst e_
 have hz26 : Hid (([(⟨9, 9⟩ : Sp)])[0]? = some (⟨9, 9⟩ : Sp)) := lhd (rfl)
 go_enter Try.func42, Try.ntmps42
 go_wp2_with fail
 replace F1 := F1.new 95 #[.int .i64 1, .slice a1_ 0 c1_, .slice (some ⟨x6, o7, none⟩) 1 c2_, .slice (some ⟨x9, o10, none⟩) 1 c3_, .slice (some ⟨x12, o13, none⟩) 1 c4_, .slice (some ⟨x20, o21, none⟩) 1 cT, .slice (some ⟨x24, o25, none⟩) 1 cL] (n := w.heap.size) (by simp)
 refine (reach_c _ _ _ _ _ _ _ ⟨⟨⟨_, _, (F1.at 7 rfl : Sl ptEnc 5 lo1 hi1 _ (.slice a1_ 0 c1_) ([] : List Lg)), (Nat.le_trans hh1 F1.gb.size)⟩, ⟨_, _, (F1.at 6 rfl : Sl poEnc 7 lo2 hi2 _ (.slice (some ⟨x6, o7, none⟩) 1 c2_) [p7]), (Nat.le_trans hh2 F1.gb.size)⟩, ⟨_, _, (F1.at 5 rfl : Sl spEnc 2 lo3 hi3 _ (.slice (some ⟨x9, o10, none⟩) 1 c3_) (ws0 1)), (Nat.le_trans hh3 F1.gb.size)⟩, ⟨_, _, (F1.at 4 rfl : Sl chEnc 3 lo4 hi4 _ (.slice (some ⟨x12, o13, none⟩) 1 c4_) ([(9 : Int)])), (Nat.le_trans hh4 F1.gb.size)⟩⟩, ⟨_, ⟨_, _, (F1.at 2 rfl : Sl vEncR 1 lt_ ht_ _ (.slice (some ⟨x20, o21, none⟩) 1 cT) ([(.slice (some ⟨x16, o17, none⟩) 1 cG : Value)])), (Nat.le_trans hht_ F1.gb.size)⟩, ⟨_, _, (F1.at 3 rfl : Sl spEnc 2 lg_ hg_ _ (.slice (some ⟨x16, o17, none⟩) 1 cG) ([(⟨2, 3⟩ : Sp)])), (Nat.le_trans hhg_ F1.gb.size)⟩⟩, ⟨_, _, (F1.at 1 rfl : Sl spEnc 2 ll_ hl_ _ (.slice (some ⟨x24, o25, none⟩) 1 cL) ([(⟨9, 9⟩ : Sp)])), (Nat.le_trans hhl_ F1.gb.size)⟩⟩).mono ?_
 rintro e w30 ⟨rfl, hg28⟩
 have hg28s := hg28.size
 (try simp at hg28s)
 replace F1 := F1.gn hg28
 clear hg28
 go_wp2_with fail
 replace F1 := F1.new 31 #[.int .i64 2, .int .i64 3] (n := w30.heap.size) (by simp)
 have b33 := F1.bx2 0 rfl
 have b34 := F1.bx7 1 rfl
 have ge35 : World.cell? _ ⟨x24, o25, none⟩ = some (.int .i64 9) := (by have h_ := Sl.cells (F1.at 2 rfl) hz26.out 0 _ rfl; simpa [Nat.add_assoc] using h_)
 go_quiet (fail)
 clear b33 b34 ge35
 replace F1 := F1.drewN nq
 have Fn_ := F1
 (try dsimp only [List.eraseIdx_cons_succ, List.eraseIdx_cons_zero] at Fn_)
 obtain ⟨w37, hx38, F40, hxs39⟩ := Fn_.name
 (try simp at hxs39)
 rw [hx38]
 clear hx38 F1 Fn_
 go_wp2_with fail
 go_ret
 exact ⟨rfl, F40.gb⟩
set_option maxHeartbeats 16000000 in
theorem asked_c (vp vq vw vc : Value) (w : World) (hr : R7 w vp vq vw vc) :
  Calls Try.prog 41 #[.agg #[.int .i64 1, vp, vq, vw, vc], .int .i64 0] w (AskP vp vq vw vc w) := by
 have F1 : Bun w [] w := Bun.nil _
 obtain ⟨⟨lo1, hi1, hl1, hh1⟩, ⟨lo2, hi2, hl2, hh2⟩, ⟨lo3, hi3, hl3, hh3⟩, ⟨lo4, hi4, hl4, hh4⟩⟩ := hr
 have hm_ps := hl1.len
 unfold maxLen at hm_ps
 obtain ⟨a1_, c1_, rfl⟩ := hl1.any
 replace F1 := F1.sl0 hl1 hh1 rfl
 clear hl1
 have hm_po := hl2.len
 unfold maxLen at hm_po
 obtain ⟨a2_, c2_, rfl⟩ := hl2.any
 replace F1 := F1.sl0 hl2 hh2 rfl
 clear hl2
 have hm_wa := hl3.len
 unfold maxLen at hm_wa
 obtain ⟨a3_, c3_, rfl⟩ := hl3.any
 replace F1 := F1.sl0 hl3 hh3 rfl
 clear hl3
 have hm_ch := hl4.len
 unfold maxLen at hm_ch
 obtain ⟨a4_, c4_, rfl⟩ := hl4.any
 replace F1 := F1.sl0 hl4 hh4 rfl
 clear hl4
 obtain ⟨x6, o7, e_⟩ := Sl.addr (F1.at 2 rfl : Sl poEnc 7 lo2 hi2 _ (.slice a2_ [p7].length c2_) [p7]) Nat.zero_lt_one
 subst e_
 have hz8 : Hid ([p7][0]? = some p7) := lhd (rfl)
 obtain ⟨x9, o10, e_⟩ := Sl.addr (F1.at 1 rfl : Sl spEnc 2 lo3 hi3 _ (.slice a3_ (ws0 1).length c3_) (ws0 1)) Nat.zero_lt_one
 subst e_
 have hz11 : Hid ((ws0 1)[0]? = some (⟨0, 0⟩ : Sp)) := lhd (rfl)
 obtain ⟨x12, o13, e_⟩ := Sl.addr (F1.at 0 rfl : Sl chEnc 3 lo4 hi4 _ (.slice a4_ [(9 : Int)].length c4_) ([(9 : Int)])) Nat.zero_lt_one
 subst e_
 have hz14 : Hid (([(9 : Int)])[0]? = some (9 : Int)) := lhd (rfl)
 go_enter Try.func41, Try.ntmps41
 go_wp2_with fail
 replace F1 := F1.new 42 #[.int .i64 1, .slice a1_ 0 c1_, .slice (some ⟨x6, o7, none⟩) 1 c2_, .slice (some ⟨x9, o10, none⟩) 1 c3_, .slice (some ⟨x12, o13, none⟩) 1 c4_] (n := w.heap.size) (by simp)
 replace F1 := F1.new 95 #[.int .i64 0, .slice none 0 0, .slice none 0 0, .slice none 0 0, .slice none 0 0, .slice none 0 0, .slice none 0 0] (n := (w.heap.size + 1)) (by simp)
 refine (rcheck_c _ _ _ _ 1 [] p7 9 _ ⟨⟨_, _, (F1.at 5 rfl : Sl ptEnc 5 lo1 hi1 _ (.slice a1_ 0 c1_) ([] : List Lg)), (Nat.le_trans hh1 F1.gb.size)⟩, ⟨_, _, (F1.at 4 rfl : Sl poEnc 7 lo2 hi2 _ (.slice (some ⟨x6, o7, none⟩) 1 c2_) [p7]), (Nat.le_trans hh2 F1.gb.size)⟩, ⟨_, _, (F1.at 3 rfl : Sl spEnc 2 lo3 hi3 _ (.slice (some ⟨x9, o10, none⟩) 1 c3_) (ws0 1)), (Nat.le_trans hh3 F1.gb.size)⟩, ⟨_, _, (F1.at 2 rfl : Sl chEnc 3 lo4 hi4 _ (.slice (some ⟨x12, o13, none⟩) 1 c4_) ([(9 : Int)])), (Nat.le_trans hh4 F1.gb.size)⟩⟩ rsc7).mono ?_
 rintro e w19 ⟨rfl, hg17⟩
 have hg17s := hg17.size
 (try simp at hg17s)
 replace F1 := F1.gn hg17
 clear hg17
 go_wp2_with fail
 refine (rwithin_y (n := 0) (lo := 0) (hi := 1439) (by omega) _).mono ?_
 rintro e _ ⟨rfl, rfl⟩
 have b21 := F1.bx5 1 rfl
 go_wp2_with fail
 clear b21
 refine (watchOf_c _ _ _ _ _ ⟨⟨_, _, (F1.at 5 rfl : Sl ptEnc 5 lo1 hi1 _ (.slice a1_ 0 c1_) ([] : List Lg)), (Nat.le_trans hh1 F1.gb.size)⟩, ⟨_, _, (F1.at 4 rfl : Sl poEnc 7 lo2 hi2 _ (.slice (some ⟨x6, o7, none⟩) 1 c2_) [p7]), (Nat.le_trans hh2 F1.gb.size)⟩, ⟨_, _, (F1.at 3 rfl : Sl spEnc 2 lo3 hi3 _ (.slice (some ⟨x9, o10, none⟩) 1 c3_) (ws0 1)), (Nat.le_trans hh3 F1.gb.size)⟩, ⟨_, _, (F1.at 2 rfl : Sl chEnc 3 lo4 hi4 _ (.slice (some ⟨x12, o13, none⟩) 1 c4_) ([(9 : Int)])), (Nat.le_trans hh4 F1.gb.size)⟩⟩).mono ?_
 rintro e w24 ⟨aT, aG, aL, cT, cG, cL, loW, hiW, rfl, ⟨hxW, hyW⟩, hz1, hz2, hz3, hg22⟩
 have hg22s := hg22.size
 (try simp at hg22s)
 replace F1 := F1.add (rsl vEncR 1 loW hiW (.slice aT 1 cT) ([(.slice aG 1 cG : Value)])) hg22 (hz1) (fun g e => ⟨Nat.le_trans hxW e.1, Nat.lt_of_lt_of_le e.2 hyW⟩)
 clear hg22
 replace F1 := F1.more 0 (rsl spEnc 2 loW hiW (.slice aG 1 cG) ([(⟨2, 3⟩ : Sp)])) rfl rfl rfl (fun _ h_ => h_) hz2
 replace F1 := F1.more 1 (rsl spEnc 2 loW hiW (.slice aL 1 cL) ([(⟨9, 9⟩ : Sp)])) rfl rfl rfl (fun _ h_ => h_) hz3
 have hht_ := hyW
 have hhg_ := hyW
 have hhl_ := hyW
 have b28 := F1.bx7 3 rfl
 go_wp2_with fail
 clear b28
 have F29 := (F1.front 3 rfl rfl).pt7 (.int .i64 1) (.slice a1_ 0 c1_) (.slice (some ⟨x6, o7, none⟩) 1 c2_) (.slice (some ⟨x9, o10, none⟩) 1 c3_) (.slice (some ⟨x12, o13, none⟩) 1 c4_) (.slice aT 1 cT) (.slice aL 1 cL)
 clear F1
 have kb30 := F29.bx7 0 rfl
 go_wp2_with fail
 exact bodyPost_ret (v := .tuple #[.agg #[.int .i64 1, .slice a1_ 0 c1_, .slice (some ⟨x6, o7, none⟩) 1 c2_, .slice (some ⟨x9, o10, none⟩) 1 c3_, .slice (some ⟨x12, o13, none⟩) 1 c4_, .slice aT 1 cT, .slice aL 1 cL], .int .i64 0]) (by simp [results, Try.results41, go_sem, kb30]) rfl (⟨_, _, _, _, _, _, loW, hiW, rfl, ⟨(by first | omega | (simp; omega)), (by first | omega | (simp; omega))⟩, (F29.at 3 rfl : Sl vEncR 1 loW hiW _ (.slice aT 1 cT) ([(.slice aG 1 cG : Value)])), (F29.at 2 rfl : Sl spEnc 2 loW hiW _ (.slice aG 1 cG) ([(⟨2, 3⟩ : Sp)])), (F29.at 1 rfl : Sl spEnc 2 loW hiW _ (.slice aL 1 cL) ([(⟨9, 9⟩ : Sp)])), F29.gb⟩)
def CovP (w : World) : Ending -> World -> Prop := fun e w' => ∃ (a : Option Addr) (c lo hi : Nat), e = .returned (.tuple #[.slice a 1 c, .int .i64 0]) /\ (w.heap.size <= lo /\ hi <= w'.heap.size) /\ Sl intEnc 1 lo hi w' (.slice a 1 c) [1] /\ w.grownBy w' none
set_option maxHeartbeats 16000000 in
theorem cover7_c (vp vq vw vc : Value) (w : World) (hr : R7 w vp vq vw vc) :
  Calls Try.prog 26 #[.agg #[.int .i64 1, vp, vq, vw, vc], .int .i64 0] w (CovP w) := by
 have F1 : Bun w [] w := Bun.nil _
 obtain ⟨⟨lo1, hi1, hl1, hh1⟩, ⟨lo2, hi2, hl2, hh2⟩, ⟨lo3, hi3, hl3, hh3⟩, ⟨lo4, hi4, hl4, hh4⟩⟩ := hr
 have hm_ps := hl1.len
 unfold maxLen at hm_ps
 obtain ⟨a1_, c1_, rfl⟩ := hl1.any
 replace F1 := F1.sl0 hl1 hh1 rfl
 clear hl1
 have hm_po := hl2.len
 unfold maxLen at hm_po
 obtain ⟨a2_, c2_, rfl⟩ := hl2.any
 replace F1 := F1.sl0 hl2 hh2 rfl
 clear hl2
 have hm_wa := hl3.len
 unfold maxLen at hm_wa
 obtain ⟨a3_, c3_, rfl⟩ := hl3.any
 replace F1 := F1.sl0 hl3 hh3 rfl
 clear hl3
 have hm_ch := hl4.len
 unfold maxLen at hm_ch
 obtain ⟨a4_, c4_, rfl⟩ := hl4.any
 replace F1 := F1.sl0 hl4 hh4 rfl
 clear hl4
 obtain ⟨x6, o7, e_⟩ := Sl.addr (F1.at 2 rfl : Sl poEnc 7 lo2 hi2 _ (.slice a2_ [p7].length c2_) [p7]) Nat.zero_lt_one
 subst e_
 have hz8 : Hid ([p7][0]? = some p7) := lhd (rfl)
 obtain ⟨x9, o10, e_⟩ := Sl.addr (F1.at 1 rfl : Sl spEnc 2 lo3 hi3 _ (.slice a3_ (ws0 1).length c3_) (ws0 1)) Nat.zero_lt_one
 subst e_
 have hz11 : Hid ((ws0 1)[0]? = some (⟨0, 0⟩ : Sp)) := lhd (rfl)
 obtain ⟨x12, o13, e_⟩ := Sl.addr (F1.at 0 rfl : Sl chEnc 3 lo4 hi4 _ (.slice a4_ [(9 : Int)].length c4_) ([(9 : Int)])) Nat.zero_lt_one
 subst e_
 have hz14 : Hid (([(9 : Int)])[0]? = some (9 : Int)) := lhd (rfl)
 go_enter Try.func26, Try.ntmps26
 go_wp2_with fail
 replace F1 := F1.new 42 #[.int .i64 1, .slice a1_ 0 c1_, .slice (some ⟨x6, o7, none⟩) 1 c2_, .slice (some ⟨x9, o10, none⟩) 1 c3_, .slice (some ⟨x12, o13, none⟩) 1 c4_] (n := w.heap.size) (by simp)
 refine (asked_c _ _ _ _ _ ⟨⟨_, _, (F1.at 4 rfl : Sl ptEnc 5 lo1 hi1 _ (.slice a1_ 0 c1_) ([] : List Lg)), (Nat.le_trans hh1 F1.gb.size)⟩, ⟨_, _, (F1.at 3 rfl : Sl poEnc 7 lo2 hi2 _ (.slice (some ⟨x6, o7, none⟩) 1 c2_) [p7]), (Nat.le_trans hh2 F1.gb.size)⟩, ⟨_, _, (F1.at 2 rfl : Sl spEnc 2 lo3 hi3 _ (.slice (some ⟨x9, o10, none⟩) 1 c3_) (ws0 1)), (Nat.le_trans hh3 F1.gb.size)⟩, ⟨_, _, (F1.at 1 rfl : Sl chEnc 3 lo4 hi4 _ (.slice (some ⟨x12, o13, none⟩) 1 c4_) ([(9 : Int)])), (Nat.le_trans hh4 F1.gb.size)⟩⟩).mono ?_
 rintro e w18 ⟨aT, aG, aL, cT, cG, cL, loW, hiW, rfl, ⟨hxW, hyW⟩, hz1, hz2, hz3, hg16⟩
 have hg16s := hg16.size
 (try simp at hg16s)
 replace F1 := F1.add (rsl vEncR 1 loW hiW (.slice aT 1 cT) ([(.slice aG 1 cG : Value)])) hg16 (hz1) (fun g e => ⟨Nat.le_trans hxW e.1, Nat.lt_of_lt_of_le e.2 hyW⟩)
 clear hg16
 replace F1 := F1.more 0 (rsl spEnc 2 loW hiW (.slice aG 1 cG) ([(⟨2, 3⟩ : Sp)])) rfl rfl rfl (fun _ h_ => h_) hz2
 replace F1 := F1.more 1 (rsl spEnc 2 loW hiW (.slice aL 1 cL) ([(⟨9, 9⟩ : Sp)])) rfl rfl rfl (fun _ h_ => h_) hz3
 have hht_ := hyW
 have hhg_ := hyW
 have hhl_ := hyW
 replace F1 := F1.nilrow intEnc 3 1
 have b23 := F1.bx5 4 rfl
 go_wp2_with fail
 clear b23
 replace F1 := F1.new 95 #[.int .i64 1, .slice a1_ 0 c1_, .slice (some ⟨x6, o7, none⟩) 1 c2_, .slice (some ⟨x9, o10, none⟩) 1 c3_, .slice (some ⟨x12, o13, none⟩) 1 c4_, .slice aT 1 cT, .slice aL 1 cL] (n := w18.heap.size) (by simp)
 have Fn_ := (F1.drop 5 rfl)
 (try dsimp only [List.eraseIdx_cons_succ, List.eraseIdx_cons_zero] at Fn_)
 obtain ⟨w25, hx26, F28, hxs27⟩ := Fn_.name
 (try simp at hxs27)
 rw [hx26]
 clear hx26 F1 Fn_
 refine wp_loop_rounds 2 ?_
 rw [rounds_succ]
 have b29 := F28.bx7 0 rfl
 go_wp2_with fail
 clear b29
 refine (cover_c _ _ _ _ _ _ _ ⟨⟨⟨_, _, (F28.at 8 rfl : Sl ptEnc 5 lo1 hi1 _ (.slice a1_ 0 c1_) ([] : List Lg)), (Nat.le_trans hh1 F28.gb.size)⟩, ⟨_, _, (F28.at 7 rfl : Sl poEnc 7 lo2 hi2 _ (.slice (some ⟨x6, o7, none⟩) 1 c2_) [p7]), (Nat.le_trans hh2 F28.gb.size)⟩, ⟨_, _, (F28.at 6 rfl : Sl spEnc 2 lo3 hi3 _ (.slice (some ⟨x9, o10, none⟩) 1 c3_) (ws0 1)), (Nat.le_trans hh3 F28.gb.size)⟩, ⟨_, _, (F28.at 5 rfl : Sl chEnc 3 lo4 hi4 _ (.slice (some ⟨x12, o13, none⟩) 1 c4_) ([(9 : Int)])), (Nat.le_trans hh4 F28.gb.size)⟩⟩, ⟨_, ⟨_, _, (F28.at 4 rfl : Sl vEncR 1 loW hiW _ (.slice aT 1 cT) ([(.slice aG 1 cG : Value)])), (by first | omega | (simp; omega))⟩, ⟨_, _, (F28.at 3 rfl : Sl spEnc 2 loW hiW _ (.slice aG 1 cG) ([(⟨2, 3⟩ : Sp)])), (by first | omega | (simp; omega))⟩⟩, ⟨_, _, (F28.at 2 rfl : Sl spEnc 2 loW hiW _ (.slice aL 1 cL) ([(⟨9, 9⟩ : Sp)])), (by first | omega | (simp; omega))⟩⟩).mono ?_
 rintro e w32 ⟨rfl, hg30⟩
 have hg30s := hg30.size
 (try simp at hg30s)
 replace F28 := F28.gn hg30
 clear hg30
 go_wp2_with (at_builtin; refine wpList_app _ okInt rfl _ _ rfl w.heap.size (.slice none 0 0) [] [1] rfl (by exact ((F28.at 1 rfl : Own intEnc 3 1 w.heap.size _ (.slice none 0 0) [])).alloc _) ⟨_, 0, none⟩ 1 1 rfl rfl (by decide) (news_of (Bk.newAt _ _ _ (by simp))) 1 (rfl) (by omega) (by first | omega | (simp; omega)) _ rfl ?_; intro g34 cap35 w36 hp37; refine Hid.out ?_)
 refine lhd ?_
 have hp37s := hp37.gb.size
 (try simp at hp37s)
 have F38 := ((F28.alloc (.cells #[.int .i64 1] 3)).front 1 rfl rfl).app hp37 (by simp)
 clear F28
 go_wp2_with fail
 rw [rounds_succ]
 go_wp2_with fail
 exact bodyPost_ret (v := .tuple #[.slice (some ⟨g34, 0, none⟩) 1 cap35, .int .i64 0]) (by simp [results, Try.results26, go_sem]) rfl (⟨_, _, w.heap.size, _, rfl, ⟨Nat.le_refl _, Nat.le_refl _⟩, (Own.sl (F38.at 0 rfl : Own intEnc 3 1 w.heap.size _ (.slice (some ⟨g34, 0, none⟩) 1 cap35) ([] ++ [1])) (fun _ => rfl)), F38.gb⟩)
theorem same_r (lo hi lo' hi' : Nat) (v v' : Value) (l : List Int) (w : World) (hx : Ints lo hi w v l) (hy : Ints lo' hi' w v' l) : Calls Try.prog 27 #[v, v'] w (Ret (.bool true) w) := by
 have h := same_c lo hi lo' hi' v v' l l w hx hy
 rw [sameB_self] at h
 exact h
theorem r7_of {w : World} {g1 g2 g3 : Nat} {t1 t2 t3 : TypeId} (h1 : Bk w g1 t1 #[.int .i64 0, .int .i64 2, .int .i64 3, .int .i64 0, .int .i64 0, .int .i64 0, .slice none 0 0]) (h2 : Bk w g2 t2 #[.int .i64 0, .int .i64 0]) (h3 : Bk w g3 t3 #[.int .i64 (-400), .int .i64 9, .int .i64 9]) :
  R7 w (.slice none 0 0) (.slice (some ⟨g1, 0, none⟩) 1 1) (.slice (some ⟨g2, 0, none⟩) 1 1) (.slice (some ⟨g3, 0, none⟩) 1 1) :=
 ⟨⟨0, w.heap.size, Sl.of_nil _ _, Nat.le_refl _⟩, ⟨_, _, Bk.slT poEnc 7 [p7] 1 1 h1 (fun _ => rfl) rfl rfl (by omega), h1.lt⟩, ⟨_, _, Bk.slT spEnc 2 (ws0 1) 1 1 h2 (fun _ => rfl) rfl rfl (by omega), h2.lt⟩, ⟨_, _, Bk.slT chEnc 3 [(9 : Int)] 1 1 h3 (fun _ => rfl) rfl rfl (by omega), h3.lt⟩⟩
set_option maxHeartbeats 16000000 in
theorem tawake7_c  (w : World)  :
  Calls Try.prog 11 #[] w (Ret (.bool true) w) := by
 have F1 : Bun w [] w := Bun.nil _
 go_enter Try.func11, Try.ntmps11
 go_wp2_with fail
 replace F1 := F1.new 35 #[.int .i64 0, .int .i64 2, .int .i64 3, .int .i64 0, .int .i64 0, .int .i64 0, .slice none 0 0] (n := w.heap.size) (by simp)
 refine (tone_c 0 _).mono ?_
 rintro e w5 ⟨rfl, hg3⟩
 have hg3s := hg3.size
 (try simp at hg3s)
 replace F1 := F1.gn hg3
 clear hg3
 go_wp2_with fail
 replace F1 := F1.new 31 #[.int .i64 0, .int .i64 0] (n := w5.heap.size) (by simp)
 refine (tone_c 9 _).mono ?_
 rintro e w10 ⟨rfl, hg8⟩
 have hg8s := hg8.size
 (try simp at hg8s)
 replace F1 := F1.gn hg8
 clear hg8
 go_wp2_with fail
 replace F1 := F1.new 38 #[.int .i64 (-400), .int .i64 9, .int .i64 9] (n := w10.heap.size) (by simp)
 replace F1 := F1.new 42 #[.int .i64 1, .slice none 0 0, .slice (some ⟨w.heap.size, 0, none⟩) 1 1, .slice (some ⟨w5.heap.size, 0, none⟩) 1 1, .slice (some ⟨w10.heap.size, 0, none⟩) 1 1] (n := (w10.heap.size + 1)) (by simp)
 refine (cover7_c _ _ _ _ _ (r7_of (F1.at 3 rfl : Bk _ w.heap.size 35 #[.int .i64 0, .int .i64 2, .int .i64 3, .int .i64 0, .int .i64 0, .int .i64 0, .slice none 0 0]) (F1.at 2 rfl : Bk _ w5.heap.size 31 #[.int .i64 0, .int .i64 0]) (F1.at 1 rfl : Bk _ w10.heap.size 38 #[.int .i64 (-400), .int .i64 9, .int .i64 9]))).mono ?_
 rintro e w16 ⟨aV, cV, loV, hiV, rfl, ⟨hxV, hyV⟩, hzV, hg14⟩
 have hg14s := hg14.size
 (try simp at hg14s)
 replace F1 := F1.add (rsl intEnc 1 loV hiV (.slice aV 1 cV) ([(1 : Int)])) hg14 (hzV) (fun g e => ⟨Nat.le_trans hxV e.1, Nat.lt_of_lt_of_le e.2 hyV⟩)
 clear hg14
 go_wp2_with fail
 replace F1 := F1.new 3 #[.int .i64 1] (n := w16.heap.size) (by simp)
 refine (same_r _ _ _ _ _ _ [1] _ (F1.at 1 rfl : Sl intEnc 1 loV hiV _ (.slice aV 1 cV) ([(1 : Int)])) (slI_of [1] 1 1 (F1.at 0 rfl : Bk _ w16.heap.size 3 #[.int .i64 1]) rfl rfl (by omega))).mono ?_
 rintro e w21 ⟨rfl, hg19⟩
 have hg19s := hg19.size
 (try simp at hg19s)
 replace F1 := F1.gn hg19
 clear hg19
 go_wp2_with fail
 refine (tawake5_c _).mono ?_
 rintro e w25 ⟨rfl, hg23⟩
 have hg23s := hg23.size
 (try simp at hg23s)
 replace F1 := F1.gn hg23
 clear hg23
 go_wp2_with fail
 go_ret
 exact ⟨rfl, F1.gb⟩
end Go.Proofs.Ytlefmbjipdlcfaa
