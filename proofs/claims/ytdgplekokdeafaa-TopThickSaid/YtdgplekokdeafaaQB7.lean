/- bear: Need. -/
import Derived.Test.YtdgplekokdeafaaQB6
import Derived.Test.YtdgplekokdeafaaQKC
import Derived.Test.YtdgplekokdeafaaQMixG
set_option linter.unusedVariables false
set_option linter.unusedSimpArgs false
set_option linter.unnecessarySimpa false
namespace Go.Proofs.Ytdgplekokdeafaa
open Go.RowKit
set_option maxRecDepth 100000
attribute [local go_sem] Oper.semAt_some
def NeedP (p : Pla) (m wt : Int) (w : World) : Ending -> World -> Prop := fun e w' => ∃ n er : Int, e = .returned (.tuple #[.int .i64 n, .int .i64 er]) /\ (er = 14 ∨ (er = 0 /\ (0 <= n /\ n <= 5000) /\ wt <= alnV p n m)) /\ w.grownBy w' none
theorem SchR.bears {p : Pla} {m wt : Int} {i : Nat} (h : SchR p m wt i) (hi : (i : Int) <= 5000) : wt <= alnV p (i : Int) m := by
 rcases h.yes with h1 | h1
 · omega
 · exact of_decide_eq_true h1
set_option maxHeartbeats 8000000 in
theorem need_c (los his loc hic : Nat) (vs vc : Value) (p : Pla) (wt m : Int) (w : World) (hp : PlaOk p) (hts : TabC p.sh) (htc : TabC p.cr) (hs : Sl shaEnc 2 los his w vs p.sh) (hs2 : his <= w.heap.size) (hc : Sl shaEnc 2 loc hic w vc p.cr) (hc2 : hic <= w.heap.size) (hw : 0 <= wt /\ wt <= 200000) (hm : 0 <= m /\ m <= 10000) :
  Calls Try.prog 11 #[.agg #[.int .i64 p.st.lo, .int .i64 p.st.hi, vs, vc, .int .i64 p.near, .int .i64 p.edge, .int .i64 p.grav, .int .i64 p.low, .int .i64 p.high, .int .i64 p.shore, .int .i64 p.wider], .int .i64 wt, .int .i64 m] w (NeedP p m wt w) := by
 have F1 : Bun w [] w := Bun.nil _
 have hm_sh := hs.len
 unfold maxLen at hm_sh
 obtain ⟨as_, cs_, rfl⟩ := hs.any
 replace F1 := F1.sl0 hs hs2 rfl
 clear hs
 have hm_cr := hc.len
 unfold maxLen at hm_cr
 obtain ⟨ac_, cc_, rfl⟩ := hc.any
 replace F1 := F1.sl0 hc hc2 rfl
 clear hc
 have HPK := lhd hp
 have hst_ := hp.st
 have hne_ := hp.near
 have hed_ := hp.edge
 have hgr_ := hp.grav
 have hlw_ := hp.low
 have hso_ := hp.shore
 have hwi_ := hp.wider
 clear hp
 have HTS := lhd hts
 have HTC := lhd htc
 clear hts htc
 go_enter Try.func11, Try.ntmps11
 go_wp2_with fail
 replace F1 := F1.new 39 #[.int .i64 p.st.lo, .int .i64 p.st.hi, .slice as_ p.sh.length cs_, .slice ac_ p.cr.length cc_, .int .i64 p.near, .int .i64 p.edge, .int .i64 p.grav, .int .i64 p.low, .int .i64 p.high, .int .i64 p.shore, .int .i64 p.wider] (n := w.heap.size) (by simp)
 replace F1 := F1.new 3 #[.int .i64 wt] (n := (w.heap.size + 1)) (by simp)
 replace F1 := F1.new 3 #[.int .i64 m] (n := (w.heap.size + 2)) (by simp)
 refine (pcheck_c los his loc hic _ _ p _ HPK.out HTS.out HTC.out (F1.s 4 rfl) (Nat.le_trans hs2 F1.gb.size) (F1.s 3 rfl) (Nat.le_trans hc2 F1.gb.size)).mono ?_
 rintro e w9 ⟨rfl, hg7⟩
 have hg7s := hg7.size
 (try simp at hg7s)
 replace F1 := F1.gn hg7
 clear hg7
 have b11 := F1.bx1 1 rfl
 go_wp2_with fail
 clear b11
 refine (bwithin_y (n := wt) (lo := 0) (hi := 200000) (by omega) _).mono ?_
 rintro e _ ⟨rfl, rfl⟩
 have b12 := F1.bx1 0 rfl
 go_wp2_with fail
 clear b12
 refine (bwithin_y (n := m) (lo := 0) (hi := 10000) (by omega) _).mono ?_
 rintro e _ ⟨rfl, rfl⟩
 go_wp2_with fail
 refine (nsearch_c w.heap.size (w.heap.size + 2) (w.heap.size + 1) los his loc hic _ _ p m wt _ (F1.b 2 rfl) (F1.b 0 rfl) (F1.b 1 rfl) HPK.out HTS.out HTC.out (F1.s 4 rfl) (Nat.le_trans hs2 F1.gb.size) (F1.s 3 rfl) (Nat.le_trans hc2 F1.gb.size) hm).mono ?_
 rintro e w15 ⟨i, rfl, hsr, hg13⟩
 have HSR := lhd hsr
 have hile_ := hsr.le
 clear hsr
 have hg13s := hg13.size
 (try simp at hg13s)
 replace F1 := F1.gn hg13
 clear hg13
 by_cases c17 : 5000 < (i : Int)
 ·
  have c17H := lhd c17
  go_wp2_with fail
  exact bodyPost_ret (v := .tuple #[.int .i64 0, .int .i64 14]) (by simp [results, Try.results11, go_sem]) rfl (⟨0, 14, rfl, .inl rfl, F1.gb⟩)
 have c17H := lhd c17
 have c17a := dec_f c17
 go_wp2_with fail
 exact bodyPost_ret (v := .tuple #[.int .i64 (i : Int), .int .i64 0]) (by simp [results, Try.results11, go_sem]) rfl (⟨(i : Int), 0, rfl, .inr ⟨rfl, ⟨by omega, by omega⟩, HSR.out.bears (by omega)⟩, F1.gb⟩)
end Go.Proofs.Ytdgplekokdeafaa
