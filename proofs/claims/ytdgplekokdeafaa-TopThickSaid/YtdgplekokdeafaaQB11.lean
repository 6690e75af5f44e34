/- bear: Holds of one load. -/
import Derived.Test.YtdgplekokdeafaaQB10
import Derived.Test.YtdgplekokdeafaaQKF1
import Derived.Test.YtdgplekokdeafaaQKC
import Derived.Test.YtdgplekokdeafaaQMixG
set_option linter.unusedVariables false
set_option linter.unusedSimpArgs false
set_option linter.unnecessarySimpa false
namespace Go.Proofs.Ytdgplekokdeafaa
open Go.RowKit
set_option maxRecDepth 100000
attribute [local go_sem] Oper.semAt_some
def HoldP (w : World) : Ending -> World -> Prop := fun e w' => ∃ (a : Option Addr) (c lo hi : Nat), e = .returned (.tuple #[.slice a 1 c, .int .i64 0]) /\ (w.heap.size <= lo /\ hi <= w'.heap.size) /\ Sl intEnc 1 lo hi w' (.slice a 1 c) [1] /\ w.grownBy w' none
theorem HoldP.mk {w w' : World} {vo : Value} {l : List Int} (h : Own intEnc 3 1 w.heap.size w' vo l) (hl : l = [1]) (hg : w.grownBy w' none) : HoldP w (.returned (.tuple #[vo, .int .i64 0])) w' := by
 subst hl
 have h1 := h.sl (fun _ => rfl)
 obtain ⟨a, c, rfl⟩ := h1.any
 exact ⟨a, c, _, _, rfl, ⟨Nat.le_refl _, Nat.le_refl _⟩, h1, hg⟩
set_option maxHeartbeats 8000000 in
theorem holds1_c (los his loc hic : Nat) (vs vc : Value) (p : Pla) (loi hii : Nat) (vi : Value) (x : Sp) (lol hil : Nat) (vl : Value) (q : Int) (w : World) (hp : PlaOk p) (hts : TabC p.sh) (htc : TabC p.cr) (hs : Sl shaEnc 2 los his w vs p.sh) (hs2 : his <= w.heap.size) (hc : Sl shaEnc 2 loc hic w vc p.cr) (hc2 : hic <= w.heap.size) (hi_ : Sl spEnc 2 loi hii w vi [x]) (hi2 : hii <= w.heap.size) (hx : 0 <= x.lo /\ x.lo <= x.hi /\ x.hi <= 5000) (hl_ : Sl lodEnc 4 lol hil w vl [(⟨50, ⟨q, q⟩, 0⟩ : Lod)]) (hl2 : hil <= w.heap.size) (hq : 0 <= q /\ q <= 200000) (hb : q <= alnV p x.lo 0) :
  Calls Try.prog 18 #[.agg #[.int .i64 p.st.lo, .int .i64 p.st.hi, vs, vc, .int .i64 p.near, .int .i64 p.edge, .int .i64 p.grav, .int .i64 p.low, .int .i64 p.high, .int .i64 p.shore, .int .i64 p.wider], vi, .slice none 0 0, vl] w (HoldP w) := by
 have F1 : Bun w [] w := Bun.nil _
 have hm_sh := hs.len
 unfold maxLen at hm_sh
 obtain ⟨as_, cs_, rfl⟩ := hs.any
 replace F1 := F1.sl0 hs hs2 rfl
 clear hs
 have hm_cr := hc.len
 unfold maxLen at hm_cr
 obtain ⟨ac_, cc_, rfl⟩ := hc.any
 replace F1 := F1.sl0 hc hc2 rfl
 clear hc
 have HPK := lhd hp
 have hst_ := hp.st
 have hne_ := hp.near
 have hed_ := hp.edge
 have hgr_ := hp.grav
 have hlw_ := hp.low
 have hso_ := hp.shore
 have hwi_ := hp.wider
 clear hp
 have HTS := lhd hts
 have HTC := lhd htc
 clear hts htc
 obtain ⟨ai_, ci_, rfl⟩ := hi_.any
 replace F1 := F1.sl0 hi_ hi2 rfl
 clear hi_
 obtain ⟨x5, o6, e_⟩ := Sl.addr (F1.s 0 rfl) (by simp)
 subst e_
 have hz7 : Hid ([x][0]? = some x) := lhd (rfl)
 obtain ⟨al_, cl_, rfl⟩ := hl_.any
 replace F1 := F1.sl0 hl_ hl2 rfl
 clear hl_
 obtain ⟨x9, o10, e_⟩ := Sl.addr (F1.s 0 rfl) (by simp)
 subst e_
 have hz11 : Hid (([(⟨50, ⟨q, q⟩, 0⟩ : Lod)])[0]? = some (⟨50, ⟨q, q⟩, 0⟩ : Lod)) := lhd (rfl)
 have HBW := lhd hb
 clear hb
 replace F1 := F1.nilrow intEnc 3 1
 go_enter Try.func18, Try.ntmps18
 go_wp2_with fail
 replace F1 := F1.new 39 #[.int .i64 p.st.lo, .int .i64 p.st.hi, .slice as_ p.sh.length cs_, .slice ac_ p.cr.length cc_, .int .i64 p.near, .int .i64 p.edge, .int .i64 p.grav, .int .i64 p.low, .int .i64 p.high, .int .i64 p.shore, .int .i64 p.wider] (n := w.heap.size) (by simp)
 refine (bcheckAll1_c los his loc hic _ _ p loi hii _ x _ HPK.out HTS.out HTC.out (F1.s 5 rfl) (Nat.le_trans hs2 F1.gb.size) (F1.s 4 rfl) (Nat.le_trans hc2 F1.gb.size) (F1.s 3 rfl) (Nat.le_trans hi2 F1.gb.size) hx).mono ?_
 rintro e w16 ⟨rfl, hg14⟩
 have hg14s := hg14.size
 (try simp at hg14s)
 replace F1 := F1.gn hg14
 clear hg14
 go_wp2_with fail
 refine (loads1_c lol hil _ q _ (F1.s 2 rfl) (Nat.le_trans hl2 F1.gb.size) hq).mono ?_
 rintro e w20 ⟨rfl, hg18⟩
 have hg18s := hg18.size
 (try simp at hg18s)
 replace F1 := F1.gn hg18
 clear hg18
 go_wp2_with fail
 refine wp_loop_rounds 3 ?_
 rw [rounds_succ]
 have b22 := F1.bx11 0 rfl
 go_wp2_with fail
 clear b22
 refine (verdict1_c los his loc hic _ _ p loi hii _ x lol hil _ q _ HPK.out HTS.out HTC.out (F1.s 5 rfl) (Nat.le_trans hs2 F1.gb.size) (F1.s 4 rfl) (Nat.le_trans hc2 F1.gb.size) (F1.s 3 rfl) (Nat.le_trans hi2 F1.gb.size) hx (F1.s 2 rfl) (Nat.le_trans hl2 F1.gb.size) hq HBW.out).mono ?_
 rintro e w25 ⟨rfl, hg23⟩
 have hg23s := hg23.size
 (try simp at hg23s)
 replace F1 := F1.gn hg23
 clear hg23
 go_wp2_with (at_builtin; refine wpList_app _ okInt rfl _ _ rfl w.heap.size (.slice none 0 0) [] [1] rfl (by exact ((F1.o 1 rfl)).alloc _) ⟨_, 0, none⟩ 1 1 rfl rfl (by decide) (news_of (Bk.newAt _ _ _ (by simp))) 1 (by rfl) (by omega) (by first | omega | (simp; omega)) _ rfl ?_; intro g27 cap28 w29 hp30; refine Hid.out ?_)
 refine lhd ?_
 have hp30s := hp30.gb.size
 (try simp at hp30s)
 have F31 := ((F1.alloc (.cells #[.int .i64 1] 3)).front 1 rfl rfl).app hp30 (by simp)
 clear F1
 go_wp2_with fail
 rw [rounds_succ]
 go_wp2_with fail
 exact bodyPost_ret (v := .tuple #[.slice (some ⟨g27, 0, none⟩) 1 cap28, .int .i64 0]) (by simp [results, Try.results18, go_sem]) rfl (HoldP.mk (F31.o 0 rfl) (by rfl) F31.gb)
end Go.Proofs.Ytdgplekokdeafaa
