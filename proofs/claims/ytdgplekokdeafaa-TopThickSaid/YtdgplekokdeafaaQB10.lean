/- bear: Holds of one load. -/
import Derived.Test.YtdgplekokdeafaaQB9
import Derived.Test.YtdgplekokdeafaaQKC
import Derived.Test.YtdgplekokdeafaaQMixG
set_option linter.unusedVariables false
set_option linter.unusedSimpArgs false
set_option linter.unnecessarySimpa false
namespace Go.Proofs.Ytdgplekokdeafaa
open Go.RowKit
set_option maxRecDepth 100000
attribute [local go_sem] Oper.semAt_some
theorem bears1_y (los his loc hic : Nat) (vs vc : Value) (p : Pla) (loi hii : Nat) (vi : Value) (x : Sp) (lol hil : Nat) (vl : Value) (q : Int) (w : World) (hp : PlaOk p) (hs : Sl shaEnc 2 los his w vs p.sh) (hs2 : his <= w.heap.size) (hc : Sl shaEnc 2 loc hic w vc p.cr) (hc2 : hic <= w.heap.size) (hi_ : Sl spEnc 2 loi hii w vi [x]) (hi2 : hii <= w.heap.size) (hx : 0 <= x.lo /\ x.lo <= 5000) (hl_ : Sl lodEnc 4 lol hil w vl [(⟨50, ⟨q, q⟩, 0⟩ : Lod)]) (hl2 : hil <= w.heap.size) (hq : 0 <= q /\ q <= 200000) (hb : q <= alnV p x.lo 0) :
  Calls Try.prog 68 #[.agg #[.bool true, .int .i64 p.st.lo, .int .i64 p.st.hi, vs, vc, .int .i64 p.near, .int .i64 p.edge, .int .i64 p.grav, .int .i64 p.low, .int .i64 p.high, .int .i64 p.shore, .int .i64 p.wider, vi, .slice none 0 0], vl, .int .i64 0] w (Ret (.bool true) w) := by
 have h := bears1_c los his loc hic vs vc p loi hii vi x lol hil vl q w hp hs hs2 hc hc2 hi_ hi2 hx hl_ hl2 hq
 rw [show enB p (q * 1000000) x.lo 0 = true from decide_eq_true (aln_enough hb)] at h
 exact h
set_option maxHeartbeats 8000000 in
theorem verdict1_c (los his loc hic : Nat) (vs vc : Value) (p : Pla) (loi hii : Nat) (vi : Value) (x : Sp) (lol hil : Nat) (vl : Value) (q : Int) (w : World) (hp : PlaOk p) (hts : TabC p.sh) (htc : TabC p.cr) (hs : Sl shaEnc 2 los his w vs p.sh) (hs2 : his <= w.heap.size) (hc : Sl shaEnc 2 loc hic w vc p.cr) (hc2 : hic <= w.heap.size) (hi_ : Sl spEnc 2 loi hii w vi [x]) (hi2 : hii <= w.heap.size) (hx : 0 <= x.lo /\ x.lo <= x.hi /\ x.hi <= 5000) (hl_ : Sl lodEnc 4 lol hil w vl [(⟨50, ⟨q, q⟩, 0⟩ : Lod)]) (hl2 : hil <= w.heap.size) (hq : 0 <= q /\ q <= 200000) (hb : q <= alnV p x.lo 0) :
  Calls Try.prog 44 #[.agg #[.int .i64 p.st.lo, .int .i64 p.st.hi, vs, vc, .int .i64 p.near, .int .i64 p.edge, .int .i64 p.grav, .int .i64 p.low, .int .i64 p.high, .int .i64 p.shore, .int .i64 p.wider], vi, .slice none 0 0, vl, .int .i64 0] w (Ret (.int .i64 1) w) := by
 have F1 : Bun w [] w := Bun.nil _
 have hm_sh := hs.len
 unfold maxLen at hm_sh
 obtain ⟨as_, cs_, rfl⟩ := hs.any
 replace F1 := F1.sl0 hs hs2 rfl
 clear hs
 have hm_cr := hc.len
 unfold maxLen at hm_cr
 obtain ⟨ac_, cc_, rfl⟩ := hc.any
 replace F1 := F1.sl0 hc hc2 rfl
 clear hc
 have HPK := lhd hp
 have hst_ := hp.st
 have hne_ := hp.near
 have hed_ := hp.edge
 have hgr_ := hp.grav
 have hlw_ := hp.low
 have hso_ := hp.shore
 have hwi_ := hp.wider
 clear hp
 have HTS := lhd hts
 have HTC := lhd htc
 clear hts htc
 obtain ⟨ai_, ci_, rfl⟩ := hi_.any
 replace F1 := F1.sl0 hi_ hi2 rfl
 clear hi_
 obtain ⟨x5, o6, e_⟩ := Sl.addr (F1.s 0 rfl) (by simp)
 subst e_
 have hz7 : Hid ([x][0]? = some x) := lhd (rfl)
 obtain ⟨al_, cl_, rfl⟩ := hl_.any
 replace F1 := F1.sl0 hl_ hl2 rfl
 clear hl_
 obtain ⟨x9, o10, e_⟩ := Sl.addr (F1.s 0 rfl) (by simp)
 subst e_
 have hz11 : Hid (([(⟨50, ⟨q, q⟩, 0⟩ : Lod)])[0]? = some (⟨50, ⟨q, q⟩, 0⟩ : Lod)) := lhd (rfl)
 have HBW := lhd hb
 clear hb
 go_enter Try.func44, Try.ntmps44
 go_wp2_with fail
 replace F1 := F1.new 39 #[.int .i64 p.st.lo, .int .i64 p.st.hi, .slice as_ p.sh.length cs_, .slice ac_ p.cr.length cc_, .int .i64 p.near, .int .i64 p.edge, .int .i64 p.grav, .int .i64 p.low, .int .i64 p.high, .int .i64 p.shore, .int .i64 p.wider] (n := w.heap.size) (by simp)
 refine (bears1_y los his loc hic _ _ p loi hii _ x lol hil _ q _ HPK.out (F1.s 4 rfl) (Nat.le_trans hs2 F1.gb.size) (F1.s 3 rfl) (Nat.le_trans hc2 F1.gb.size) (F1.s 2 rfl) (Nat.le_trans hi2 F1.gb.size) (by omega) (F1.s 1 rfl) (Nat.le_trans hl2 F1.gb.size) hq HBW.out).mono ?_
 rintro e w15 ⟨rfl, hg13⟩
 have hg13s := hg13.size
 (try simp at hg13s)
 replace F1 := F1.gn hg13
 clear hg13
 go_wp2_with fail
 go_ret
 exact ⟨rfl, F1.gb⟩
set_option maxHeartbeats 8000000 in
theorem faults1_c (loi hii : Nat) (vi : Value) (x : Sp) (w : World) (hi_ : Sl spEnc 2 loi hii w vi [x]) (hi2 : hii <= w.heap.size) (hx : 0 <= x.lo /\ x.lo <= x.hi /\ x.hi <= 5000) :
  Calls Try.prog 67 #[vi, .int .i64 1000, .int .i64 5000] w (Ret (.int .i64 0) w) := by
 have F1 : Bun w [] w := Bun.nil _
 obtain ⟨ai_, ci_, rfl⟩ := hi_.any
 replace F1 := F1.sl0 hi_ hi2 rfl
 clear hi_
 obtain ⟨x3, o4, e_⟩ := Sl.addr (F1.s 0 rfl) (by simp)
 subst e_
 have hz5 : Hid ([x][0]? = some x) := lhd (rfl)
 go_enter Try.func67, Try.ntmps67
 go_wp2_with fail
 refine wp_loop_rounds 3 ?_
 rw [rounds_succ]
 have ge6 : World.cell? _ ⟨x3, o4, none⟩ = some (.int .i64 x.lo) := (by have h_ := Sl.cells (F1.at 0 rfl) hz5.out 0 _ rfl; simpa [Nat.add_assoc] using h_)
 have gl7 := cell_lt ge6
 have ge8 : World.cell? _ ⟨x3, o4 + 1, none⟩ = some (.int .i64 x.hi) := (by have h_ := Sl.cells (F1.at 0 rfl) hz5.out 1 _ rfl; simpa [Nat.add_assoc] using h_)
 go_wp2_with fail
 clear ge6 gl7 ge8
 replace F1 := F1.new 27 #[.int .i64 x.lo, .int .i64 x.hi] (n := w.heap.size) (by simp)
 refine (bfault_0 (a := x.lo) (b := x.hi) (lo := 0) (hi := 5000) (by omega) _).mono ?_
 rintro e w12 ⟨rfl, hg10⟩
 have hg10s := hg10.size
 (try simp at hg10s)
 replace F1 := F1.gn hg10
 clear hg10
 go_wp2_with fail
 rw [rounds_succ]
 go_wp2_with fail
 go_ret
 exact ⟨rfl, F1.gb⟩
set_option maxHeartbeats 8000000 in
theorem faults0_c  (w : World)  :
  Calls Try.prog 67 #[.slice none 0 0, .int .i64 50, .int .i64 100000] w (Ret (.int .i64 0) w) := by
 have F1 : Bun w [] w := Bun.nil _
 go_enter Try.func67, Try.ntmps67
 go_wp2_with fail
 refine wp_loop_rounds 2 ?_
 rw [rounds_succ]
 go_wp2_with fail
 go_ret
 exact ⟨rfl, F1.gb⟩
set_option maxHeartbeats 8000000 in
theorem loads1_c (lol hil : Nat) (vl : Value) (q : Int) (w : World) (hl_ : Sl lodEnc 4 lol hil w vl [(⟨50, ⟨q, q⟩, 0⟩ : Lod)]) (hl2 : hil <= w.heap.size) (hq : 0 <= q /\ q <= 200000) :
  Calls Try.prog 43 #[vl, .int .i64 1] w (Ret (.int .i64 0) w) := by
 have F1 : Bun w [] w := Bun.nil _
 obtain ⟨al_, cl_, rfl⟩ := hl_.any
 replace F1 := F1.sl0 hl_ hl2 rfl
 clear hl_
 obtain ⟨x3, o4, e_⟩ := Sl.addr (F1.s 0 rfl) (by simp)
 subst e_
 have hz5 : Hid (([(⟨50, ⟨q, q⟩, 0⟩ : Lod)])[0]? = some (⟨50, ⟨q, q⟩, 0⟩ : Lod)) := lhd (rfl)
 go_enter Try.func43, Try.ntmps43
 go_wp2_with fail
 refine wp_loop_rounds 3 ?_
 rw [rounds_succ]
 have ge6 : World.cell? _ ⟨x3, o4, none⟩ = some (.int .i64 50) := (by have h_ := Sl.cells (F1.at 0 rfl) hz5.out 0 _ rfl; simpa [Nat.add_assoc] using h_)
 have gl7 := cell_lt ge6
 have ge8 : World.cell? _ ⟨x3, o4 + 1, none⟩ = some (.int .i64 q) := (by have h_ := Sl.cells (F1.at 0 rfl) hz5.out 1 _ rfl; simpa [Nat.add_assoc] using h_)
 have ge9 : World.cell? _ ⟨x3, o4 + 2, none⟩ = some (.int .i64 q) := (by have h_ := Sl.cells (F1.at 0 rfl) hz5.out 2 _ rfl; simpa [Nat.add_assoc] using h_)
 have ge10 : World.cell? _ ⟨x3, o4 + 3, none⟩ = some (.int .i64 0) := (by have h_ := Sl.cells (F1.at 0 rfl) hz5.out 3 _ rfl; simpa [Nat.add_assoc] using h_)
 go_wp2_with fail
 clear ge6 gl7 ge8 ge9 ge10
 replace F1 := F1.new 61 #[.int .i64 50, .int .i64 q, .int .i64 q, .int .i64 0] (n := w.heap.size) (by simp)
 refine (bwithin_y (n := 50) (lo := 0) (hi := 99) (by omega) _).mono ?_
 rintro e _ ⟨rfl, rfl⟩
 have Fn_ := F1
 (try dsimp only [lpF, lpG] at Fn_)
 obtain ⟨w12, hx13, F15, hxs14⟩ := Fn_.name
 (try simp at hxs14)
 rw [hx13]
 clear hx13 F1 Fn_
 have b16 := F15.bx4 0 rfl
 go_wp2_with fail
 clear b16
 refine (bfault_0 (a := q) (b := q) (lo := 0) (hi := 200000) (by omega) _).mono ?_
 rintro e w19 ⟨rfl, hg17⟩
 have hg17s := hg17.size
 (try simp at hg17s)
 replace F15 := F15.gn hg17
 clear hg17
 have b21 := F15.bx4 0 rfl
 go_wp2_with fail
 clear b21
 refine (bwithin_y (n := 0) (lo := 0) (hi := 10000) (by omega) _).mono ?_
 rintro e _ ⟨rfl, rfl⟩
 go_wp2_with fail
 rw [rounds_succ]
 go_wp2_with fail
 go_ret
 exact ⟨rfl, F15.gb⟩
set_option maxHeartbeats 8000000 in
theorem bcheckAll1_c (los his loc hic : Nat) (vs vc : Value) (p : Pla) (loi hii : Nat) (vi : Value) (x : Sp) (w : World) (hp : PlaOk p) (hts : TabC p.sh) (htc : TabC p.cr) (hs : Sl shaEnc 2 los his w vs p.sh) (hs2 : his <= w.heap.size) (hc : Sl shaEnc 2 loc hic w vc p.cr) (hc2 : hic <= w.heap.size) (hi_ : Sl spEnc 2 loi hii w vi [x]) (hi2 : hii <= w.heap.size) (hx : 0 <= x.lo /\ x.lo <= x.hi /\ x.hi <= 5000) :
  Calls Try.prog 42 #[.agg #[.int .i64 p.st.lo, .int .i64 p.st.hi, vs, vc, .int .i64 p.near, .int .i64 p.edge, .int .i64 p.grav, .int .i64 p.low, .int .i64 p.high, .int .i64 p.shore, .int .i64 p.wider], vi, .slice none 0 0] w (Ret (.int .i64 0) w) := by
 have F1 : Bun w [] w := Bun.nil _
 have hm_sh := hs.len
 unfold maxLen at hm_sh
 obtain ⟨as_, cs_, rfl⟩ := hs.any
 replace F1 := F1.sl0 hs hs2 rfl
 clear hs
 have hm_cr := hc.len
 unfold maxLen at hm_cr
 obtain ⟨ac_, cc_, rfl⟩ := hc.any
 replace F1 := F1.sl0 hc hc2 rfl
 clear hc
 have HPK := lhd hp
 have hst_ := hp.st
 have hne_ := hp.near
 have hed_ := hp.edge
 have hgr_ := hp.grav
 have hlw_ := hp.low
 have hso_ := hp.shore
 have hwi_ := hp.wider
 clear hp
 have HTS := lhd hts
 have HTC := lhd htc
 clear hts htc
 obtain ⟨ai_, ci_, rfl⟩ := hi_.any
 replace F1 := F1.sl0 hi_ hi2 rfl
 clear hi_
 obtain ⟨x5, o6, e_⟩ := Sl.addr (F1.s 0 rfl) (by simp)
 subst e_
 have hz7 : Hid ([x][0]? = some x) := lhd (rfl)
 go_enter Try.func42, Try.ntmps42
 go_wp2_with fail
 replace F1 := F1.new 39 #[.int .i64 p.st.lo, .int .i64 p.st.hi, .slice as_ p.sh.length cs_, .slice ac_ p.cr.length cc_, .int .i64 p.near, .int .i64 p.edge, .int .i64 p.grav, .int .i64 p.low, .int .i64 p.high, .int .i64 p.shore, .int .i64 p.wider] (n := w.heap.size) (by simp)
 refine (pcheck_c los his loc hic _ _ p _ HPK.out HTS.out HTC.out (F1.s 3 rfl) (Nat.le_trans hs2 F1.gb.size) (F1.s 2 rfl) (Nat.le_trans hc2 F1.gb.size)).mono ?_
 rintro e w11 ⟨rfl, hg9⟩
 have hg9s := hg9.size
 (try simp at hg9s)
 replace F1 := F1.gn hg9
 clear hg9
 go_wp2_with fail
 refine (faults1_c loi hii _ x _ (F1.s 1 rfl) (Nat.le_trans hi2 F1.gb.size) hx).mono ?_
 rintro e w15 ⟨rfl, hg13⟩
 have hg13s := hg13.size
 (try simp at hg13s)
 replace F1 := F1.gn hg13
 clear hg13
 go_wp2_with fail
 refine (faults0_c _).mono ?_
 rintro e w19 ⟨rfl, hg17⟩
 have hg17s := hg17.size
 (try simp at hg17s)
 replace F1 := F1.gn hg17
 clear hg17
 go_wp2_with fail
 go_ret
 exact ⟨rfl, F1.gb⟩
end Go.Proofs.Ytdgplekokdeafaa
