/- frost and its reference: the errors of laws; of laws, ice and days. -/
import Derived.Test.YtkclabflkocbaaaRF3
set_option linter.unusedVariables false
set_option linter.unusedSimpArgs false
set_option linter.unnecessarySimpa false
namespace Go.Proofs.Ytkclabflkocbaaa
open Go.RowKit
set_option maxRecDepth 100000
set_option maxHeartbeats 4000000 in
theorem check_c (lo hi : Nat) (v : Value) (l : Fro) (w : World) (hl : Sl covEnc 3 lo hi w v l.cov) (h2 : hi <= w.heap.size) :
  Calls Try.prog 38 #[.agg #[.int .i64 l.gr, .int .i64 l.la, v, .int .i64 l.melt.lo, .int .i64 l.melt.hi, .int .i64 l.soak, .int .i64 l.white.lo, .int .i64 l.white.hi]] w (Ret (.int .i64 (froErr l)) w) := by
 have F1 : Bun w [] w := Bun.nil _
 have hm_cs := hl.len
 unfold maxLen at hm_cs
 obtain ⟨a, c, rfl⟩ := hl.any
 replace F1 := F1.sl0 hl h2 rfl
 clear hl
 go_enter Try.func38, Try.ntmps38
 by_cases c3 : l.gr < 0
 ·
  have c3H := lhd c3
  have Hx4 := lhd (show ((froErr l : Int)) = 2 by simp [froErr, c3H.out] <;> (repeat' split) <;> first | rfl | (intros; exfalso; omega) | omega)
  go_wp2_with fail
  replace F1 := F1.new 29 #[.int .i64 l.gr, .int .i64 l.la, .slice a l.cov.length c, .int .i64 l.melt.lo, .int .i64 l.melt.hi, .int .i64 l.soak, .int .i64 l.white.lo, .int .i64 l.white.hi] (n := w.heap.size) (by simp)
  go_ret
  exact ⟨by rw [Hx4.out] <;> rfl, F1.gb⟩
 have c3H := lhd c3
 have c3a : decide (l.gr < 0) = false := dec_f c3
 by_cases c6 : 10000 < l.gr
 ·
  have c6H := lhd c6
  have Hx7 := lhd (show ((froErr l : Int)) = 2 by simp [froErr, c3H.out, c6H.out] <;> (repeat' split) <;> first | rfl | (intros; exfalso; omega) | omega)
  go_wp2_with fail
  replace F1 := F1.new 29 #[.int .i64 l.gr, .int .i64 l.la, .slice a l.cov.length c, .int .i64 l.melt.lo, .int .i64 l.melt.hi, .int .i64 l.soak, .int .i64 l.white.lo, .int .i64 l.white.hi] (n := w.heap.size) (by simp)
  go_ret
  exact ⟨by rw [Hx7.out] <;> rfl, F1.gb⟩
 have c6H := lhd c6
 have c6a : decide (10000 < l.gr) = false := dec_f c6
 by_cases c9 : l.la < 1
 ·
  have c9H := lhd c9
  have Hx10 := lhd (show ((froErr l : Int)) = 2 by simp [froErr, c3H.out, c6H.out, c9H.out] <;> (repeat' split) <;> first | rfl | (intros; exfalso; omega) | omega)
  go_wp2_with fail
  replace F1 := F1.new 29 #[.int .i64 l.gr, .int .i64 l.la, .slice a l.cov.length c, .int .i64 l.melt.lo, .int .i64 l.melt.hi, .int .i64 l.soak, .int .i64 l.white.lo, .int .i64 l.white.hi] (n := w.heap.size) (by simp)
  go_ret
  exact ⟨by rw [Hx10.out] <;> rfl, F1.gb⟩
 have c9H := lhd c9
 have c9a : decide (l.la < 1) = false := dec_f c9
 by_cases c12 : 1000 < l.la
 ·
  have c12H := lhd c12
  have Hx13 := lhd (show ((froErr l : Int)) = 2 by simp [froErr, c3H.out, c6H.out, c9H.out, c12H.out] <;> (repeat' split) <;> first | rfl | (intros; exfalso; omega) | omega)
  go_wp2_with fail
  replace F1 := F1.new 29 #[.int .i64 l.gr, .int .i64 l.la, .slice a l.cov.length c, .int .i64 l.melt.lo, .int .i64 l.melt.hi, .int .i64 l.soak, .int .i64 l.white.lo, .int .i64 l.white.hi] (n := w.heap.size) (by simp)
  go_ret
  exact ⟨by rw [Hx13.out] <;> rfl, F1.gb⟩
 have c12H := lhd c12
 have c12a : decide (1000 < l.la) = false := dec_f c12
 go_wp2_with fail
 replace F1 := F1.new 29 #[.int .i64 l.gr, .int .i64 l.la, .slice a l.cov.length c, .int .i64 l.melt.lo, .int .i64 l.melt.hi, .int .i64 l.soak, .int .i64 l.white.lo, .int .i64 l.white.hi] (n := w.heap.size) (by simp)
 refine (covers_c lo hi _ l.cov _ (F1.at 1 rfl : Sl covEnc 3 lo hi _ (.slice a l.cov.length c) l.cov) (Nat.le_trans h2 F1.gb.size)).mono ?_
 rintro e w18 ⟨rfl, hg16⟩
 have hg16s := hg16.size
 (try simp at hg16s)
 replace F1 := F1.gn hg16
 clear hg16
 by_cases c20 : covsE l.cov = 0
 ·
  have c20a : ((covsE l.cov) == 0) = true := beq_t c20
  have c20b : ((covsE l.cov) != 0) = false := bne_f c20
  have c20H := lhd c20
  clear c20
  have b21 := F1.bx8 0 rfl
  go_wp2_with fail
  clear b21
  refine (fault_c _ _ _ _ _).mono ?_
  rintro e w24 ⟨rfl, hg22⟩
  have hg22s := hg22.size
  (try simp at hg22s)
  replace F1 := F1.gn hg22
  clear hg22
  by_cases c26 : spanErr l.melt.lo l.melt.hi 0 10000000 = 0
  ·
   have c26a : ((spanErr l.melt.lo l.melt.hi 0 10000000) == 0) = true := beq_t c26
   have c26b : ((spanErr l.melt.lo l.melt.hi 0 10000000) != 0) = false := bne_f c26
   have c26H := lhd c26
   clear c26
   by_cases c27 : l.soak < 0
   ·
    have c27H := lhd c27
    have Hx28 := lhd (show ((froErr l : Int)) = 2 by simp [froErr, c3H.out, c6H.out, c9H.out, c12H.out, c20H.out, c26H.out, c27H.out] <;> (repeat' split) <;> first | rfl | (intros; exfalso; omega) | omega)
    have b29 := F1.bx8 0 rfl
    go_wp2_with fail
    clear b29
    go_ret
    exact ⟨by rw [Hx28.out] <;> rfl, F1.gb⟩
   have c27H := lhd c27
   have c27a : decide (l.soak < 0) = false := dec_f c27
   by_cases c30 : 1000000 < l.soak
   ·
    have c30H := lhd c30
    have Hx31 := lhd (show ((froErr l : Int)) = 2 by simp [froErr, c3H.out, c6H.out, c9H.out, c12H.out, c20H.out, c26H.out, c27H.out, c30H.out] <;> (repeat' split) <;> first | rfl | (intros; exfalso; omega) | omega)
    have b32 := F1.bx8 0 rfl
    go_wp2_with fail
    clear b32
    go_ret
    exact ⟨by rw [Hx31.out] <;> rfl, F1.gb⟩
   have c30H := lhd c30
   have c30a : decide (1000000 < l.soak) = false := dec_f c30
   have b33 := F1.bx8 0 rfl
   go_wp2_with fail
   clear b33
   refine (fault_c _ _ _ _ _).mono ?_
   rintro e w36 ⟨rfl, hg34⟩
   have hg34s := hg34.size
   (try simp at hg34s)
   replace F1 := F1.gn hg34
   clear hg34
   have Hx38 := lhd (show ((froErr l : Int)) = spanErr l.white.lo l.white.hi 0 1000000 by simp [froErr, c3H.out, c6H.out, c9H.out, c12H.out, c20H.out, c26H.out, c27H.out, c30H.out] <;> (repeat' split) <;> first | rfl | (intros; exfalso; omega) | omega)
   go_wp2_with fail
   go_ret
   exact ⟨by rw [Hx38.out] <;> rfl, F1.gb⟩
  have c26a : ((spanErr l.melt.lo l.melt.hi 0 10000000) == 0) = false := beq_f c26
  have c26b : ((spanErr l.melt.lo l.melt.hi 0 10000000) != 0) = true := bne_t c26
  have c26H := lhd c26
  clear c26
  have Hx39 := lhd (show ((froErr l : Int)) = spanErr l.melt.lo l.melt.hi 0 10000000 by simp [froErr, c3H.out, c6H.out, c9H.out, c12H.out, c20H.out, c26H.out] <;> (repeat' split) <;> first | rfl | (intros; exfalso; omega) | omega)
  go_wp2_with fail
  go_ret
  exact ⟨by rw [Hx39.out] <;> rfl, F1.gb⟩
 have c20a : ((covsE l.cov) == 0) = false := beq_f c20
 have c20b : ((covsE l.cov) != 0) = true := bne_t c20
 have c20H := lhd c20
 clear c20
 have Hx40 := lhd (show ((froErr l : Int)) = covsE l.cov by simp [froErr, c3H.out, c6H.out, c9H.out, c12H.out, c20H.out] <;> (repeat' split) <;> first | rfl | (intros; exfalso; omega) | omega)
 go_wp2_with fail
 go_ret
 exact ⟨by rw [Hx40.out] <;> rfl, F1.gb⟩
set_option maxHeartbeats 4000000 in
theorem checkAll_c (lo hi : Nat) (v : Value) (l : Fro) (x : Ice) (lo' hi' : Nat) (v' : Value) (ds : List Wea) (w : World) (hl : Sl covEnc 3 lo hi w v l.cov) (h2 : hi <= w.heap.size) (hd : Sl weaEnc 6 lo' hi' w v' ds) (h3 : hi' <= w.heap.size) :
  Calls Try.prog 23 #[.agg #[.int .i64 l.gr, .int .i64 l.la, v, .int .i64 l.melt.lo, .int .i64 l.melt.hi, .int .i64 l.soak, .int .i64 l.white.lo, .int .i64 l.white.hi], .agg #[.int .i64 x.bl.lo, .int .i64 x.bl.hi, .int .i64 x.wh.lo, .int .i64 x.wh.hi, .int .i64 x.we.lo, .int .i64 x.we.hi, .int .i64 x.sn.lo, .int .i64 x.sn.hi], v'] w (Ret (.int .i64 (allE l x ds)) w) := by
 have F1 : Bun w [] w := Bun.nil _
 have hm_cs := hl.len
 unfold maxLen at hm_cs
 obtain ⟨a, c, rfl⟩ := hl.any
 replace F1 := F1.sl0 hl h2 rfl
 clear hl
 have hm_ds := hd.len
 unfold maxLen at hm_ds
 obtain ⟨a', c', rfl⟩ := hd.any
 replace F1 := F1.sl0 hd h3 rfl
 clear hd
 go_enter Try.func23, Try.ntmps23
 go_wp2_with fail
 replace F1 := F1.new 29 #[.int .i64 l.gr, .int .i64 l.la, .slice a l.cov.length c, .int .i64 l.melt.lo, .int .i64 l.melt.hi, .int .i64 l.soak, .int .i64 l.white.lo, .int .i64 l.white.hi] (n := w.heap.size) (by simp)
 replace F1 := F1.new 32 #[.int .i64 x.bl.lo, .int .i64 x.bl.hi, .int .i64 x.wh.lo, .int .i64 x.wh.hi, .int .i64 x.we.lo, .int .i64 x.we.hi, .int .i64 x.sn.lo, .int .i64 x.sn.hi] (n := (w.heap.size + 1)) (by simp)
 refine (check_c lo hi _ l _ (F1.at 3 rfl : Sl covEnc 3 lo hi _ (.slice a l.cov.length c) l.cov) (Nat.le_trans h2 F1.gb.size)).mono ?_
 rintro e w8 ⟨rfl, hg6⟩
 have hg6s := hg6.size
 (try simp at hg6s)
 replace F1 := F1.gn hg6
 clear hg6
 by_cases c10 : froErr l = 0
 ·
  have c10a : ((froErr l) == 0) = true := beq_t c10
  have c10b : ((froErr l) != 0) = false := bne_f c10
  have c10H := lhd c10
  clear c10
  have b11 := F1.bx8 0 rfl
  go_wp2_with fail
  clear b11
  refine (checkIce_c _ _).mono ?_
  rintro e w14 ⟨rfl, hg12⟩
  have hg12s := hg12.size
  (try simp at hg12s)
  replace F1 := F1.gn hg12
  clear hg12
  by_cases c16 : iceErr x = 0
  ·
   have c16a : ((iceErr x) == 0) = true := beq_t c16
   have c16b : ((iceErr x) != 0) = false := bne_f c16
   have c16H := lhd c16
   clear c16
   go_wp2_with fail
   refine (checkDays_c lo' hi' _ ds _ (F1.at 2 rfl : Sl weaEnc 6 lo' hi' _ (.slice a' ds.length c') ds) (Nat.le_trans h3 F1.gb.size)).mono ?_
   rintro e w19 ⟨rfl, hg17⟩
   have hg17s := hg17.size
   (try simp at hg17s)
   replace F1 := F1.gn hg17
   clear hg17
   have Hx21 := lhd (show ((allE l x ds : Int)) = daysE ds by simp [allE, c10H.out, c16H.out] <;> (repeat' split) <;> first | rfl | (intros; exfalso; omega) | omega)
   go_wp2_with fail
   go_ret
   exact ⟨by rw [Hx21.out] <;> rfl, F1.gb⟩
  have c16a : ((iceErr x) == 0) = false := beq_f c16
  have c16b : ((iceErr x) != 0) = true := bne_t c16
  have c16H := lhd c16
  clear c16
  have Hx22 := lhd (show ((allE l x ds : Int)) = iceErr x by simp [allE, c10H.out, c16H.out] <;> (repeat' split) <;> first | rfl | (intros; exfalso; omega) | omega)
  go_wp2_with fail
  go_ret
  exact ⟨by rw [Hx22.out] <;> rfl, F1.gb⟩
 have c10a : ((froErr l) == 0) = false := beq_f c10
 have c10b : ((froErr l) != 0) = true := bne_t c10
 have c10H := lhd c10
 clear c10
 have Hx23 := lhd (show ((allE l x ds : Int)) = froErr l by simp [allE, c10H.out] <;> (repeat' split) <;> first | rfl | (intros; exfalso; omega) | omega)
 go_wp2_with fail
 go_ret
 exact ⟨by rw [Hx23.out] <;> rfl, F1.gb⟩
end Go.Proofs.Ytkclabflkocbaaa
