/- bear: one load on one place. -/
import Derived.Test.YtdgplekokdeafaaQB8
import Derived.Test.YtdgplekokdeafaaQKC
import Derived.Test.YtdgplekokdeafaaQMixG
set_option linter.unusedVariables false
set_option linter.unusedSimpArgs false
set_option linter.unnecessarySimpa false
namespace Go.Proofs.Ytdgplekokdeafaa
open Go.RowKit
set_option maxRecDepth 100000
attribute [local go_sem] Oper.semAt_some
structure Lod where
 at_ : Int
 wt : Sp
 st : Int
def lodEnc (x : Lod) : List Value := [.int .i64 x.at_, .int .i64 x.wt.lo, .int .i64 x.wt.hi, .int .i64 x.st]
set_option maxHeartbeats 8000000 in
theorem thickn_c (loi hii : Nat) (vi : Value) (x : Sp) (vs vc : Value) (p : Pla) (w : World) (hi_ : Sl spEnc 2 loi hii w vi [x]) (hi2 : hii <= w.heap.size) :
  Calls Try.prog 85 #[.agg #[.bool true, .int .i64 p.st.lo, .int .i64 p.st.hi, vs, vc, .int .i64 p.near, .int .i64 p.edge, .int .i64 p.grav, .int .i64 p.low, .int .i64 p.high, .int .i64 p.shore, .int .i64 p.wider, vi, .slice none 0 0], .int .i64 50] w (Ret (.int .i64 x.lo) w) := by
 have F1 : Bun w [] w := Bun.nil _
 obtain ⟨ai_, ci_, rfl⟩ := hi_.any
 replace F1 := F1.sl0 hi_ hi2 rfl
 clear hi_
 obtain ⟨x3, o4, e_⟩ := Sl.addr (F1.s 0 rfl) (by simp)
 subst e_
 have hz5 : Hid ([x][0]? = some x) := lhd (rfl)
 have hqt_ : Int.tdiv 50 100 = 0 := by decide
 have hqw_ : IntKind.i64.wrap 0 = 0 := by decide
 go_enter Try.func85, Try.ntmps85
 go_wp2_with fail
 replace F1 := F1.new 128 #[.bool true, .int .i64 p.st.lo, .int .i64 p.st.hi, vs, vc, .int .i64 p.near, .int .i64 p.edge, .int .i64 p.grav, .int .i64 p.low, .int .i64 p.high, .int .i64 p.shore, .int .i64 p.wider, .slice (some ⟨x3, o4, none⟩) 1 ci_, .slice none 0 0] (n := w.heap.size) (by simp)
 have Fn_ := F1
 (try dsimp only [lpF, lpG] at Fn_)
 obtain ⟨w7, hx8, F10, hxs9⟩ := Fn_.name
 (try simp at hxs9)
 rw [hx8]
 clear hx8 F1 Fn_
 replace F10 := F10.drew
 refine ru_begin (fun W => W.cell? ⟨w.heap.size, 0, none⟩ = some (.bool true) /\ W.cell? ⟨w.heap.size, 12, none⟩ = some (.slice (some ⟨x3, o4, none⟩) 1 ci_) /\ W.cell? ⟨x3, o4, none⟩ = some (.int .i64 x.lo) /\ W.cell? ⟨x3, o4 + 1, none⟩ = some (.int .i64 x.hi)) 9 (by kernel_rfl) ?_ ?_
 · exact ⟨F10.q 0 0, F10.q 0 12, (by have h_ := Sl.cells (F10.at 1 rfl) hz5.out 0 _ rfl; simpa [Nat.add_assoc] using h_), (by have h_ := Sl.cells (F10.at 1 rfl) hz5.out 1 _ rfl; simpa [Nat.add_assoc] using h_)⟩
 obtain ⟨wd13, hwd_⟩ : ∃ x : World, w7.drew = x := ⟨_, rfl⟩
 rw [hwd_] at F10 ⊢
 have wd13s : w7.heap.size <= wd13.heap.size := by rw [← hwd_]; exact Nat.le_refl _
 clear hwd_
 have hS12 := (And.intro (F10.q 0 0) (And.intro (F10.q 0 12) (And.intro ((by have h_ := Sl.cells (F10.at 1 rfl) hz5.out 0 _ rfl; simpa [Nat.add_assoc] using h_)) ((by have h_ := Sl.cells (F10.at 1 rfl) hz5.out 1 _ rfl; simpa [Nat.add_assoc] using h_)))))
 refine ru_t 0 [] ?_
 refine ru_t 1 [] ?_
 refine ru_t 2 [] ?_
 refine ru_t 3 [] ?_
 refine ru_t 4 [] ?_
 refine ru_t 5 [] ?_
 refine ru_t 6 [] ?_
 refine ru_t 7 [] ?_
 (try simp only [lpX])
 clear hS12
 refine ru_o 8 fun K hK => ?_
 go_simp
 refine (strong_c x _).mono ?_
 rintro e w16 ⟨rfl, hg14⟩
 have hg14s := hg14.size
 (try simp at hg14s)
 replace F10 := F10.gn hg14
 refine ru_back hK (by exact ⟨F10.q 0 0, F10.q 0 12, (by have h_ := Sl.cells (F10.at 1 rfl) hz5.out 0 _ rfl; simpa [Nat.add_assoc] using h_), (by have h_ := Sl.cells (F10.at 1 rfl) hz5.out 1 _ rfl; simpa [Nat.add_assoc] using h_)⟩) (fun _ => ?_)
 clear hK K
 (try simp only [lpX])
 refine ru_o 9 fun K hK => ?_
 go_simp
 refine ru_back_late hK (by kernel_rfl) ?_
 clear hK K
 (try simp only [lpX])
 refine ru_done (by kernel_rfl) ?_
 have Fn_ := F10
 (try dsimp only [lpF, lpG] at Fn_)
 obtain ⟨w18, hx19, F21, hxs20⟩ := Fn_.name
 (try simp at hxs20)
 rw [hx19]
 clear hx19 F10 Fn_
 have b22 := F21.bx14 0 rfl
 go_wp2_with fail
 clear b22
 refine wp_loop_rounds 2 ?_
 rw [rounds_succ]
 go_wp2_with fail
 go_ret
 exact ⟨rfl, F21.gb⟩
theorem part0_c (lo hi : Nat) (v : Value) (l : List Sha) (w : World) (hT : TabOk l) (hl : Sl shaEnc 2 lo hi w v l) (h2 : hi <= w.heap.size) : Calls Try.prog 47 #[v, .int .i64 0] w (Ret (.int .i64 1000000) w) := by
 have h := part_c lo hi v l 0 w hT.n.1 hl h2
 rw [prt_zero hT] at h
 exact h
set_option maxHeartbeats 16000000 in
theorem bears1_c (los his loc hic : Nat) (vs vc : Value) (p : Pla) (loi hii : Nat) (vi : Value) (x : Sp) (lol hil : Nat) (vl : Value) (q : Int) (w : World) (hp : PlaOk p) (hs : Sl shaEnc 2 los his w vs p.sh) (hs2 : his <= w.heap.size) (hc : Sl shaEnc 2 loc hic w vc p.cr) (hc2 : hic <= w.heap.size) (hi_ : Sl spEnc 2 loi hii w vi [x]) (hi2 : hii <= w.heap.size) (hx : 0 <= x.lo /\ x.lo <= 5000) (hl_ : Sl lodEnc 4 lol hil w vl [(⟨50, ⟨q, q⟩, 0⟩ : Lod)]) (hl2 : hil <= w.heap.size) (hq : 0 <= q /\ q <= 200000) :
  Calls Try.prog 68 #[.agg #[.bool true, .int .i64 p.st.lo, .int .i64 p.st.hi, vs, vc, .int .i64 p.near, .int .i64 p.edge, .int .i64 p.grav, .int .i64 p.low, .int .i64 p.high, .int .i64 p.shore, .int .i64 p.wider, vi, .slice none 0 0], vl, .int .i64 0] w (Ret (.bool (enB p (q * 1000000) x.lo 0)) w) := by
 have F1 : Bun w [] w := Bun.nil _
 have hm_sh := hs.len
 unfold maxLen at hm_sh
 obtain ⟨as_, cs_, rfl⟩ := hs.any
 replace F1 := F1.sl0 hs hs2 rfl
 clear hs
 have hm_cr := hc.len
 unfold maxLen at hm_cr
 obtain ⟨ac_, cc_, rfl⟩ := hc.any
 replace F1 := F1.sl0 hc hc2 rfl
 clear hc
 obtain ⟨ai_, ci_, rfl⟩ := hi_.any
 replace F1 := F1.sl0 hi_ hi2 rfl
 clear hi_
 obtain ⟨x5, o6, e_⟩ := Sl.addr (F1.s 0 rfl) (by simp)
 subst e_
 have hz7 : Hid ([x][0]? = some x) := lhd (rfl)
 obtain ⟨al_, cl_, rfl⟩ := hl_.any
 replace F1 := F1.sl0 hl_ hl2 rfl
 clear hl_
 obtain ⟨x9, o10, e_⟩ := Sl.addr (F1.s 0 rfl) (by simp)
 subst e_
 have hz11 : Hid (([(⟨50, ⟨q, q⟩, 0⟩ : Lod)])[0]? = some (⟨50, ⟨q, q⟩, 0⟩ : Lod)) := lhd (rfl)
 have HPK := lhd hp
 clear hp
 go_enter Try.func68, Try.ntmps68
 go_wp2_with fail
 replace F1 := F1.new 128 #[.bool true, .int .i64 p.st.lo, .int .i64 p.st.hi, .slice as_ p.sh.length cs_, .slice ac_ p.cr.length cc_, .int .i64 p.near, .int .i64 p.edge, .int .i64 p.grav, .int .i64 p.low, .int .i64 p.high, .int .i64 p.shore, .int .i64 p.wider, .slice (some ⟨x5, o6, none⟩) 1 ci_, .slice none 0 0] (n := w.heap.size) (by simp)
 refine wp_loop_rounds 3 ?_
 rw [rounds_succ]
 have ge13 : World.cell? _ ⟨x9, o10, none⟩ = some (.int .i64 50) := (by have h_ := Sl.cells (F1.at 1 rfl) hz11.out 0 _ rfl; simpa [Nat.add_assoc] using h_)
 have gl14 := cell_lt ge13
 have ge15 : World.cell? _ ⟨x9, o10 + 1, none⟩ = some (.int .i64 q) := (by have h_ := Sl.cells (F1.at 1 rfl) hz11.out 1 _ rfl; simpa [Nat.add_assoc] using h_)
 have ge16 : World.cell? _ ⟨x9, o10 + 2, none⟩ = some (.int .i64 q) := (by have h_ := Sl.cells (F1.at 1 rfl) hz11.out 2 _ rfl; simpa [Nat.add_assoc] using h_)
 have ge17 : World.cell? _ ⟨x9, o10 + 3, none⟩ = some (.int .i64 0) := (by have h_ := Sl.cells (F1.at 1 rfl) hz11.out 3 _ rfl; simpa [Nat.add_assoc] using h_)
 go_wp2_with fail
 clear ge13 gl14 ge15 ge16 ge17
 replace F1 := F1.new 61 #[.int .i64 50, .int .i64 q, .int .i64 q, .int .i64 0] (n := (w.heap.size + 1)) (by simp)
 have Fn_ := F1
 (try dsimp only [lpF, lpG] at Fn_)
 obtain ⟨w19, hx20, F22, hxs21⟩ := Fn_.name
 (try simp at hxs21)
 rw [hx20]
 clear hx20 F1 Fn_
 replace F22 := F22.drew
 refine ru_begin (fun W => W.cell? ⟨w.heap.size, 0, none⟩ = some (.bool true) /\ W.cell? ⟨(w.heap.size + 1), 1, none⟩ = some (.int .i64 q) /\ W.cell? ⟨(w.heap.size + 1), 2, none⟩ = some (.int .i64 q) /\ W.cell? ⟨w.heap.size, 3, none⟩ = some (.slice as_ p.sh.length cs_) /\ W.cell? ⟨x9, o10, none⟩ = some (.int .i64 50) /\ W.cell? ⟨(w.heap.size + 1), 0, none⟩ = some (.int .i64 50)) 29 (by kernel_rfl) ?_ ?_
 · exact ⟨F22.q 1 0, F22.q 0 1, F22.q 0 2, F22.q 1 3, (by have h_ := Sl.cells (F22.at 2 rfl) hz11.out 0 _ rfl; simpa [Nat.add_assoc] using h_), F22.q 0 0⟩
 obtain ⟨wd25, hwd_⟩ : ∃ x : World, w19.drew = x := ⟨_, rfl⟩
 rw [hwd_] at F22 ⊢
 have wd25s : w19.heap.size <= wd25.heap.size := by rw [← hwd_]; exact Nat.le_refl _
 clear hwd_
 have hS24 := (And.intro (F22.q 1 0) (And.intro (F22.q 0 1) (And.intro (F22.q 0 2) (And.intro (F22.q 1 3) (And.intro ((by have h_ := Sl.cells (F22.at 2 rfl) hz11.out 0 _ rfl; simpa [Nat.add_assoc] using h_)) (F22.q 0 0))))))
 refine ru_t 0 [] ?_
 refine ru_t 1 [] ?_
 refine ru_t 2 [] ?_
 refine ru_t 3 [] ?_
 refine ru_t 4 [] ?_
 refine ru_t 6 [] ?_
 refine ru_t 7 [] ?_
 refine ru_t 8 [] ?_
 refine ru_t 9 [] ?_
 refine ru_t 10 [] ?_
 refine ru_t 11 [] ?_
 refine ru_t 12 [] ?_
 refine ru_t 13 [] ?_
 refine ru_t 14 [] ?_
 refine ru_t 15 [] ?_
 refine ru_t 16 [] ?_
 refine ru_t 17 [] ?_
 refine ru_t 18 [] ?_
 refine ru_t 19 [] ?_
 refine ru_t 20 [] ?_
 refine ru_t 21 [] ?_
 refine ru_t 22 [] ?_
 refine ru_t 23 [] ?_
 refine ru_t 24 [] ?_
 refine ru_t 25 [] ?_
 (try simp only [lpX])
 clear hS24
 refine ru_o 5 fun K hK => ?_
 go_simp
 refine (heavy_c ⟨q, q⟩ _).mono ?_
 rintro e w28 ⟨rfl, hg26⟩
 have hg26s := hg26.size
 (try simp at hg26s)
 replace F22 := F22.gn hg26
 refine ru_back hK (by exact ⟨F22.q 1 0, F22.q 0 1, F22.q 0 2, F22.q 1 3, (by have h_ := Sl.cells (F22.at 2 rfl) hz11.out 0 _ rfl; simpa [Nat.add_assoc] using h_), F22.q 0 0⟩) (fun _ => ?_)
 clear hK K
 (try simp only [lpX])
 refine ru_o 26 fun K hK => ?_
 go_simp
 refine (part0_c los his _ p.sh _ HPK.out.sh (F22.s 5 rfl) (Nat.le_trans hs2 F22.gb.size)).mono ?_
 rintro e w32 ⟨rfl, hg30⟩
 have hg30s := hg30.size
 (try simp at hg30s)
 replace F22 := F22.gn hg30
 refine ru_back hK (by exact ⟨F22.q 1 0, F22.q 0 1, F22.q 0 2, F22.q 1 3, (by have h_ := Sl.cells (F22.at 2 rfl) hz11.out 0 _ rfl; simpa [Nat.add_assoc] using h_), F22.q 0 0⟩) (fun _ => ?_)
 clear hK K
 (try simp only [lpX])
 have hw34 : IntKind.i64.wrap (q * 1000000) = q * 1000000 := IntWalk.i64_in _ (by omega)
 refine ru_p 27 ?_
 (try simp only [lpX])
 have hw35 : IntKind.i64.wrap (q * 1000000) = q * 1000000 := IntWalk.i64_in _ (by omega)
 refine ru_p 28 ?_
 (try simp only [lpX])
 refine ru_o 29 fun K hK => ?_
 go_simp
 refine ru_back_late hK (by kernel_rfl) ?_
 clear hK K
 (try simp only [lpX])
 refine ru_done (by kernel_rfl) ?_
 (try clear hw34 hw35)
 have Fn_ := (F22.drop 0 rfl)
 (try dsimp only [lpF, lpG] at Fn_)
 obtain ⟨w36, hx37, F39, hxs38⟩ := Fn_.name
 (try simp at hxs38)
 rw [hx37]
 clear hx37 F22 Fn_
 go_wp2_with fail
 rw [rounds_succ]
 go_wp2_with fail
 replace F39 := F39.drew
 refine ru_begin (fun W => C8 W w.heap.size (.bool true) (.int .i64 p.st.lo) (.int .i64 p.st.hi) (.slice as_ p.sh.length cs_) (.slice ac_ p.cr.length cc_) (.int .i64 p.near) (.int .i64 p.edge) (.int .i64 p.grav) /\ W.cell? ⟨w.heap.size, 8, none⟩ = some (.int .i64 p.low) /\ W.cell? ⟨w.heap.size, 9, none⟩ = some (.int .i64 p.high) /\ W.cell? ⟨w.heap.size, 10, none⟩ = some (.int .i64 p.shore) /\ W.cell? ⟨w.heap.size, 11, none⟩ = some (.int .i64 p.wider) /\ W.cell? ⟨w.heap.size, 12, none⟩ = some (.slice (some ⟨x5, o6, none⟩) 1 ci_) /\ W.cell? ⟨w.heap.size, 13, none⟩ = some (.slice none 0 0) /\ W.cell? ⟨x9, o10, none⟩ = some (.int .i64 50) /\ W.cell? ⟨x9, o10 + 3, none⟩ = some (.int .i64 0)) 15 (by kernel_rfl) ?_ ?_
 · exact ⟨F39.c8 0, F39.q 0 8, F39.q 0 9, F39.q 0 10, F39.q 0 11, F39.q 0 12, F39.q 0 13, (by have h_ := Sl.cells (F39.at 1 rfl) hz11.out 0 _ rfl; simpa [Nat.add_assoc] using h_), (by have h_ := Sl.cells (F39.at 1 rfl) hz11.out 3 _ rfl; simpa [Nat.add_assoc] using h_)⟩
 obtain ⟨wd42, hwd_⟩ : ∃ x : World, w36.drew = x := ⟨_, rfl⟩
 rw [hwd_] at F39 ⊢
 have wd42s : w36.heap.size <= wd42.heap.size := by rw [← hwd_]; exact Nat.le_refl _
 clear hwd_
 have hS41 := (And.intro (F39.c8 0) (And.intro (F39.q 0 8) (And.intro (F39.q 0 9) (And.intro (F39.q 0 10) (And.intro (F39.q 0 11) (And.intro (F39.q 0 12) (And.intro (F39.q 0 13) (And.intro ((by have h_ := Sl.cells (F39.at 1 rfl) hz11.out 0 _ rfl; simpa [Nat.add_assoc] using h_)) ((by have h_ := Sl.cells (F39.at 1 rfl) hz11.out 3 _ rfl; simpa [Nat.add_assoc] using h_))))))))))
 refine ru_t 0 [] ?_
 refine ru_t 1 [] ?_
 refine ru_t 2 [] ?_
 refine ru_t 3 [] ?_
 refine ru_t 4 [] ?_
 refine ru_t 5 [] ?_
 refine ru_t 6 [] ?_
 refine ru_t 7 [] ?_
 refine ru_t 9 [] ?_
 refine ru_t 10 [] ?_
 refine ru_t 11 [] ?_
 refine ru_t 12 [] ?_
 refine ru_t 13 [] ?_
 (try simp only [lpX])
 clear hS41
 refine ru_o 8 fun K hK => ?_
 go_simp
 refine (thickn_c loi hii _ x _ _ p _ (F39.s 2 rfl) (Nat.le_trans hi2 F39.gb.size)).mono ?_
 rintro e w45 ⟨rfl, hg43⟩
 have hg43s := hg43.size
 (try simp at hg43s)
 replace F39 := F39.gn hg43
 refine ru_back hK (by exact ⟨F39.c8 0, F39.q 0 8, F39.q 0 9, F39.q 0 10, F39.q 0 11, F39.q 0 12, F39.q 0 13, (by have h_ := Sl.cells (F39.at 1 rfl) hz11.out 0 _ rfl; simpa [Nat.add_assoc] using h_), (by have h_ := Sl.cells (F39.at 1 rfl) hz11.out 3 _ rfl; simpa [Nat.add_assoc] using h_)⟩) (fun _ => ?_)
 clear hK K
 (try simp only [lpX])
 refine ru_o 14 fun K hK => ?_
 go_simp
 refine (enough_c loc hic _ _ _ _ p (q * 1000000) x.lo 0 _ HPK.out (F39.s 3 rfl) (Nat.le_trans hc2 F39.gb.size) hx (by omega)).mono ?_
 rintro e w49 ⟨rfl, hg47⟩
 have hg47s := hg47.size
 (try simp at hg47s)
 replace F39 := F39.gn hg47
 refine ru_back hK (by exact ⟨F39.c8 0, F39.q 0 8, F39.q 0 9, F39.q 0 10, F39.q 0 11, F39.q 0 12, F39.q 0 13, (by have h_ := Sl.cells (F39.at 1 rfl) hz11.out 0 _ rfl; simpa [Nat.add_assoc] using h_), (by have h_ := Sl.cells (F39.at 1 rfl) hz11.out 3 _ rfl; simpa [Nat.add_assoc] using h_)⟩) (fun _ => ?_)
 clear hK K
 (try simp only [lpX])
 refine ru_o 15 fun K hK => ?_
 go_simp
 refine ru_back_late hK (by kernel_rfl) ?_
 clear hK K
 (try simp only [lpX])
 refine ru_done (by kernel_rfl) ?_
 have Fn_ := (F39.drop 0 rfl)
 (try dsimp only [lpF, lpG] at Fn_)
 obtain ⟨w51, hx52, F54, hxs53⟩ := Fn_.name
 (try simp at hxs53)
 rw [hx52]
 clear hx52 F39 Fn_
 go_wp2_with fail
 go_ret
 exact ⟨rfl, F54.gb⟩
end Go.Proofs.Ytdgplekokdeafaa
