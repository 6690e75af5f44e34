/- bear: the least thickness that bears. -/
import Derived.Test.YtdgplekokdeafaaQB2
import Derived.Test.YtdgplekokdeafaaQKC
import Derived.Test.YtdgplekokdeafaaQMixG
set_option linter.unusedVariables false
set_option linter.unusedSimpArgs false
set_option linter.unnecessarySimpa false
namespace Go.Proofs.Ytdgplekokdeafaa
open Go.RowKit
set_option maxRecDepth 100000
attribute [local go_sem] Oper.semAt_some
def bearsB (p : Pla) (m wt h : Int) : Bool := decide (wt <= alnV p h m)
structure SchR (p : Pla) (m wt : Int) (i : Nat) : Prop where
 le : i <= 5001
 no : i = 0 ∨ bearsB p m wt ((i : Int) - 1) = false
 yes : i = 5001 ∨ bearsB p m wt (i : Int) = true
def SchP (p : Pla) (m wt : Int) (w : World) : Ending -> World -> Prop := fun e w' => ∃ i : Nat, e = .returned (.int .i64 (i : Int)) /\ SchR p m wt i /\ w.grownBy w' none
set_option maxHeartbeats 8000000 in
theorem need1_c (gp gm gw los his loc hic : Nat) (vs vc : Value) (p : Pla) (m wt : Int) (h : Int) (w : World) (hbp : Bk w gp 39 (plaC p vs vc)) (hbm : Bk w gm 3 #[.int .i64 m]) (hbw : Bk w gw 3 #[.int .i64 wt]) (hp : PlaOk p) (hts : TabC p.sh) (htc : TabC p.cr) (hs : Sl shaEnc 2 los his w vs p.sh) (hs2 : his <= w.heap.size) (hc : Sl shaEnc 2 loc hic w vc p.cr) (hc2 : hic <= w.heap.size) (hm : 0 <= m /\ m <= 10000) (hh : 0 <= h /\ h <= 5000) :
  Calls Try.prog 28 #[.int .i64 h, .pointer (some ⟨gp, 0, none⟩), .pointer (some ⟨gm, 0, none⟩), .pointer (some ⟨gw, 0, none⟩)] w (Ret (.bool (bearsB p m wt h)) w) := by
 have F1 : Bun w [] w := Bun.nil _
 obtain ⟨as_, cs_, rfl⟩ := hs.any
 obtain ⟨ac_, cc_, rfl⟩ := hc.any
 replace F1 := F1.sl0 hs hs2 rfl
 replace F1 := F1.sl0 hc hc2 rfl
 replace F1 := F1.fix0 hbp rfl
 replace F1 := F1.fix0 hbm rfl
 replace F1 := F1.fix0 hbw rfl
 have HPK := lhd hp
 have HTS := lhd hts
 have HTC := lhd htc
 clear hp hts htc hs hc hbp hbm hbw
 go_enter Try.func28, Try.ntmps28
 go_wp2_with fail
 replace F1 := F1.drew
 refine ru_begin (fun W => W.cell? ⟨gp, 0, none⟩ = some (.int .i64 p.st.lo) /\ W.cell? ⟨gp, 1, none⟩ = some (.int .i64 p.st.hi) /\ W.cell? ⟨gp, 2, none⟩ = some (.slice as_ p.sh.length cs_) /\ W.cell? ⟨gp, 3, none⟩ = some (.slice ac_ p.cr.length cc_) /\ W.cell? ⟨gp, 4, none⟩ = some (.int .i64 p.near) /\ W.cell? ⟨gp, 5, none⟩ = some (.int .i64 p.edge) /\ W.cell? ⟨gp, 6, none⟩ = some (.int .i64 p.grav) /\ W.cell? ⟨gp, 7, none⟩ = some (.int .i64 p.low) /\ W.cell? ⟨gp, 8, none⟩ = some (.int .i64 p.high) /\ W.cell? ⟨gp, 9, none⟩ = some (.int .i64 p.shore) /\ W.cell? ⟨gp, 10, none⟩ = some (.int .i64 p.wider) /\ W.cell? ⟨gm, 0, none⟩ = some (.int .i64 m) /\ W.cell? ⟨gw, 0, none⟩ = some (.int .i64 wt)) 6 (by kernel_rfl) ?_ ?_
 · exact ⟨((F1.b 2 rfl)).cell 0, ((F1.b 2 rfl)).cell 1, ((F1.b 2 rfl)).cell 2, ((F1.b 2 rfl)).cell 3, ((F1.b 2 rfl)).cell 4, ((F1.b 2 rfl)).cell 5, ((F1.b 2 rfl)).cell 6, ((F1.b 2 rfl)).cell 7, ((F1.b 2 rfl)).cell 8, ((F1.b 2 rfl)).cell 9, ((F1.b 2 rfl)).cell 10, ((F1.b 1 rfl)).cell 0, ((F1.b 0 rfl)).cell 0⟩
 obtain ⟨wd9, hwd_⟩ : ∃ x : World, w.drew = x := ⟨_, rfl⟩
 rw [hwd_] at F1 ⊢
 have wd9s : w.heap.size <= wd9.heap.size := by rw [← hwd_]; exact Nat.le_refl _
 clear hwd_
 have hS8 := (And.intro (((F1.b 2 rfl)).cell 0) (And.intro (((F1.b 2 rfl)).cell 1) (And.intro (((F1.b 2 rfl)).cell 2) (And.intro (((F1.b 2 rfl)).cell 3) (And.intro (((F1.b 2 rfl)).cell 4) (And.intro (((F1.b 2 rfl)).cell 5) (And.intro (((F1.b 2 rfl)).cell 6) (And.intro (((F1.b 2 rfl)).cell 7) (And.intro (((F1.b 2 rfl)).cell 8) (And.intro (((F1.b 2 rfl)).cell 9) (And.intro (((F1.b 2 rfl)).cell 10) (And.intro (((F1.b 1 rfl)).cell 0) (((F1.b 0 rfl)).cell 0)))))))))))))
 refine ru_t 0 [] ?_
 refine ru_t 1 [] ?_
 refine ru_t 2 [] ?_
 refine ru_t 4 [] ?_
 (try simp only [lpX])
 clear hS8
 refine ru_o 3 fun K hK => ?_
 go_simp
 refine (alone_c los his loc hic _ _ p h m _ HPK.out HTS.out HTC.out (F1.s 4 rfl) (Nat.le_trans hs2 F1.gb.size) (F1.s 3 rfl) (Nat.le_trans hc2 F1.gb.size) hh).mono ?_
 rintro e w12 ⟨rfl, hg10⟩
 have hg10s := hg10.size
 (try simp at hg10s)
 replace F1 := F1.gn hg10
 refine ru_back hK (by exact ⟨((F1.b 2 rfl)).cell 0, ((F1.b 2 rfl)).cell 1, ((F1.b 2 rfl)).cell 2, ((F1.b 2 rfl)).cell 3, ((F1.b 2 rfl)).cell 4, ((F1.b 2 rfl)).cell 5, ((F1.b 2 rfl)).cell 6, ((F1.b 2 rfl)).cell 7, ((F1.b 2 rfl)).cell 8, ((F1.b 2 rfl)).cell 9, ((F1.b 2 rfl)).cell 10, ((F1.b 1 rfl)).cell 0, ((F1.b 0 rfl)).cell 0⟩) (fun _ => ?_)
 clear hK K
 (try simp only [lpX])
 refine ru_p 5 ?_
 (try simp only [lpX])
 refine ru_o 6 fun K hK => ?_
 go_simp
 refine ru_back_late hK (by kernel_rfl) ?_
 clear hK K
 (try simp only [lpX])
 refine ru_done (by kernel_rfl) ?_
 have Fn_ := F1
 (try dsimp only [lpF, lpG] at Fn_)
 obtain ⟨w14, hx15, F17, hxs16⟩ := Fn_.name
 (try simp at hxs16)
 rw [hx15]
 clear hx15 F1 Fn_
 have Hx18 := lhd (show ((bearsB p m wt h : Bool)) = (decide (wt <= alnV p h m)) by rfl)
 go_wp2_with fail
 go_ret
 exact ⟨by rw [Hx18.out] <;> rfl, F17.gb⟩
set_option maxHeartbeats 8000000 in
theorem nsearch_c (gp gm gw los his loc hic : Nat) (vs vc : Value) (p : Pla) (m wt : Int) (w : World) (hbp : Bk w gp 39 (plaC p vs vc)) (hbm : Bk w gm 3 #[.int .i64 m]) (hbw : Bk w gw 3 #[.int .i64 wt]) (hp : PlaOk p) (hts : TabC p.sh) (htc : TabC p.cr) (hs : Sl shaEnc 2 los his w vs p.sh) (hs2 : his <= w.heap.size) (hc : Sl shaEnc 2 loc hic w vc p.cr) (hc2 : hic <= w.heap.size) (hm : 0 <= m /\ m <= 10000) :
  Calls Try.prog 27 #[.int .i64 5001, .func (.func 28) #[] #[.pointer (some ⟨gp, 0, none⟩), .pointer (some ⟨gm, 0, none⟩), .pointer (some ⟨gw, 0, none⟩)]] w (SchP p m wt w) := by
 have F1 : Bun w [] w := Bun.nil _
 obtain ⟨as_, cs_, rfl⟩ := hs.any
 obtain ⟨ac_, cc_, rfl⟩ := hc.any
 replace F1 := F1.sl0 hs hs2 rfl
 replace F1 := F1.sl0 hc hc2 rfl
 replace F1 := F1.fix0 hbp rfl
 replace F1 := F1.fix0 hbm rfl
 replace F1 := F1.fix0 hbw rfl
 have HPK := lhd hp
 have HTS := lhd hts
 have HTC := lhd htc
 clear hp hts htc hs hc hbp hbm hbw
 go_enter Try.func27, Try.ntmps27
 go_wp2_with fail
 obtain ⟨HI7_, HI70⟩ : ∃ I : RelT, I = (fun t ds wr => ∃ (i j : Nat), t 1 = .func (.func 28) #[] #[.pointer (some ⟨gp, 0, none⟩), .pointer (some ⟨gm, 0, none⟩), .pointer (some ⟨gw, 0, none⟩)] /\ t 5 = .int .i64 (i : Int) /\ t 6 = .int .i64 (j : Int) /\ i <= j /\ j <= 5001 /\ Hid ((i = 0 ∨ bearsB p m wt ((i : Int) - 1) = false) /\ (j = 5001 ∨ bearsB p m wt (j : Int) = true)) /\ ds = [] /\ w.heap.size <= wr.heap.size /\ Bun w [rfix gw 3 #[.int .i64 wt], rfix gm 3 #[.int .i64 m], rfix gp 39 #[.int .i64 p.st.lo, .int .i64 p.st.hi, .slice as_ p.sh.length cs_, .slice ac_ p.cr.length cc_, .int .i64 p.near, .int .i64 p.edge, .int .i64 p.grav, .int .i64 p.low, .int .i64 p.high, .int .i64 p.shore, .int .i64 p.wider], rsl shaEnc 2 loc hic (.slice ac_ p.cr.length cc_) p.cr, rsl shaEnc 2 los his (.slice as_ p.sh.length cs_) p.sh] wr) := ⟨_, rfl⟩
 have HI7 := lhd HI70
 clear HI70
 refine wp_loopS 26 rfl HI7_ (fun t wr => (intOf (t 6)).toNat - (intOf (t 5)).toNat) ?atStart1 ?round1
 case round1 =>
  intro t ds wr hHid
  rw [HI7.out] at hHid
  obtain ⟨i, j, e1, e5, e6, hrel⟩ := hHid
  have e : ((List.range 26).map t).toArray = #[t 0, t 1, t 2, t 3, t 4, t 5, t 6, t 7, t 8, t 9, t 10, t 11, t 12, t 13, t 14, t 15, t 16, t 17, t 18, t 19, t 20, t 21, t 22, t 23, t 24, t 25] := rfl
  (try dsimp only at e)
  rw [e1, e5, e6] at e
  rw [e]
  simp only [e5, e6]
  clear e e1 e5 e6
  obtain ⟨hij, hj1, HLT, rfl, hs9, hF8⟩ := hrel
  clear F1
  obtain ⟨w10, rfl⟩ : ∃ x_ : World, x_ = wr := ⟨_, rfl⟩
  by_cases c11 : (i : Int) < (j : Int)
  ·
   have c11H := lhd c11
   go_wp2_with fail
   refine (need1_c gp gm gw los his loc hic _ _ p m wt (((i : Int) + (j : Int)) / 2) _ (hF8.b 2 rfl) (hF8.b 1 rfl) (hF8.b 0 rfl) HPK.out HTS.out HTC.out (hF8.s 4 rfl) (Nat.le_trans hs2 hF8.gb.size) (hF8.s 3 rfl) (Nat.le_trans hc2 hF8.gb.size) hm (by omega)).mono ?_
   rintro e w14 ⟨rfl, hg12⟩
   have hg12s := hg12.size
   (try simp at hg12s)
   have F15 := hF8.gn hg12
   clear hF8
   clear hg12
   cases c16 : bearsB p m wt (((i : Int) + (j : Int)) / 2)
   ·
    have c16H := lhd c16
    go_wp2_with fail
    (first | refine ⟨rfl, ?_, ?_⟩ | refine ⟨?_, ?_⟩)
    · rw [HI7.out]; exact ⟨(i + j) / 2 + 1, j, rfl, (by show Value.int .i64 ((((i : Int) + (j : Int)) / 2) + 1) = _; rw [show (((i + j) / 2 + 1 : Nat) : Int) = ((i : Int) + (j : Int)) / 2 + 1 by omega]), rfl, (by omega), (by omega), (lhd ⟨.inr (by rw [show (((i + j) / 2 + 1 : Nat) : Int) - 1 = ((i : Int) + (j : Int)) / 2 by omega]; exact c16H.out), HLT.out.2⟩), (by first | rfl | simp), (by first | omega | (simp; done) | (simp; omega)), F15⟩
    · simp [slot, intOf]; omega
   have c16H := lhd c16
   go_wp2_with fail
   (first | refine ⟨rfl, ?_, ?_⟩ | refine ⟨?_, ?_⟩)
   · rw [HI7.out]; exact ⟨i, (i + j) / 2, rfl, rfl, (by show Value.int .i64 (((i : Int) + (j : Int)) / 2) = _; rw [show (((i + j) / 2 : Nat) : Int) = ((i : Int) + (j : Int)) / 2 by omega]), (by omega), (by omega), (lhd ⟨HLT.out.1, .inr (by rw [show (((i + j) / 2 : Nat) : Int) = ((i : Int) + (j : Int)) / 2 by omega]; exact c16H.out)⟩), (by first | rfl | simp), (by first | omega | (simp; done) | (simp; omega)), F15⟩
   · simp [slot, intOf]; omega
  have c11H := lhd c11
  have c11a := dec_f c11
  go_wp2_with fail
  go_ret
  exact (by obtain rfl : i = j := (by omega); exact ⟨i, rfl, ⟨hj1, HLT.out.1, HLT.out.2⟩, hF8.gb⟩)
 case atStart1 =>
  rw [HI7.out]
  exact ⟨0, 5001, rfl, rfl, rfl, (by omega), (by omega), (lhd ⟨.inl rfl, .inl rfl⟩), rfl, (by first | exact Nat.le_refl _ | omega | (simp; done) | (simp; omega)), F1⟩
end Go.Proofs.Ytdgplekokdeafaa
