/- build: the working hours of a machine, as an iterator. -/
import Derived.Test.YtcoldeolmleeiaaGreatKGG1
import Derived.TacticsInMore
import Derived.OwnWalkIn
import Derived.LoopIn
set_option linter.unusedVariables false
set_option linter.unusedSimpArgs false
set_option linter.unnecessarySimpa false
namespace Go.Proofs.YtcoldeolmleeiaaGreat
open Go.RowKit Go.Shelf
set_option maxRecDepth 100000
theorem rgJ745 (t : Nat -> Value) : ((List.range 45).map t).toArray = #[t 0, t 1, t 2, t 3, t 4, t 5, t 6, t 7, t 8, t 9, t 10, t 11, t 12, t 13, t 14, t 15, t 16, t 17, t 18, t 19, t 20, t 21, t 22, t 23, t 24, t 25, t 26, t 27, t 28, t 29, t 30, t 31, t 32, t 33, t 34, t 35, t 36, t 37, t 38, t 39, t 40, t 41, t 42, t 43, t 44] := rfl
def hsAt (l : List Nat) (i : Nat) : Int := ((l.getD i 0 : Nat) : Int)
theorem hsAt_get {l : List Nat} {i h : Nat} (hi : l[i]? = some h) : hsAt l i = (h : Int) := by unfold hsAt; rw [List.getD_eq_getElem?_getD, hi]; rfl
theorem hsAt_bd {f : Nat -> Bool} {b n i : Nat} (hi : i < (hsL f b n).length) : 0 <= hsAt (hsL f b n) i /\ hsAt (hsL f b n) i < (b : Int) + n := by
 have h1 := List.getElem?_eq_getElem hi
 rw [hsAt_get h1]
 have h2 := List.mem_of_getElem? h1
 unfold hsL at h2 ⊢
 rw [List.mem_filter, List.mem_range'_1] at h2
 omega
def whX (wb : Bool) (x : Mch) (dl : List Wea) (h : Nat) : Bool := wkB wb (wkV x (dy dl (h / 24))) && decide (((h % 24 : Nat) : Int) < x.shift)
theorem whX_case {wb : Bool} {ms : List Mch} {ts : List Tsk} {dl : List Wea} {m : Int} {x : Mch} (h : ms[m.toNat]? = some x) : (caseOf wb ms ts dl).wh m = whX wb x dl := by
 funext h_
 unfold Cs.wh whX
 show (wkB wb (wkV (mc ms m.toNat) (dy dl (h_ / 24))) && decide (((h_ % 24 : Nat) : Int) < (mc ms m.toNat).shift)) = _
 rw [mc_get h]
theorem idleX {wb : Bool} {x : Mch} {dl : List Wea} {d h : Nat} {z : Wea} (hz : dl[d]? = some z) (h1 : 24 * d <= h) (h2 : h < 24 * (d + 1)) (hh : wkB wb (wkV x z) = false ∨ 24 * (d : Int) + x.shift <= h) : whX wb x dl h = false := by
 have e1 : h / 24 = d := by omega
 have e2 : h % 24 = h - 24 * d := by omega
 unfold whX
 rw [e1, e2, dy_get hz]
 rcases hh with hh | hh
 · rw [hh]; rfl
 · rw [Bool.and_eq_false_iff]; right; simp; omega
theorem busyX {wb : Bool} {x : Mch} {dl : List Wea} {d h : Nat} {z : Wea} (hz : dl[d]? = some z) (h1 : 24 * d <= h) (h2 : h < 24 * (d + 1)) (hh : wkB wb (wkV x z) = true) (h3 : (h : Int) < 24 * (d : Int) + x.shift) : whX wb x dl h = true := by
 have e1 : h / 24 = d := by omega
 have e2 : h % 24 = h - 24 * d := by omega
 unfold whX
 rw [e1, e2, dy_get hz, hh, Bool.true_and]
 simp; omega
structure HoldT (pd lo2 hi2 : Nat) (v1 v2 v3 v4 vd : Value) (x : Mch) (b : Int) (dl : List Wea) (A : World) : Prop where
 hs : HoldS pd v1 v2 v3 v4 vd x b A
 ds : Sl weaEnc 6 lo2 hi2 A vd dl
 n2 : hi2 <= pd
set_option maxHeartbeats 8000000 in
theorem shiftsb_seq (pd lo2 hi2 : Nat) (vm vt : Value) (x : Mch) (b : Nat) (ad : Option Addr) (cd : Nat) (dl : List Wea) (hx : MchOk x) (hn : dl.length <= 400) (hb : b <= 24 * dl.length) :
  SeqI Tryz.prog 84 #[.pointer (some ⟨(pd + 2), 0, none⟩), .pointer (some ⟨pd, 0, none⟩), .pointer (some ⟨(pd + 1), 0, none⟩)] (hsL (whX false x dl) b (24 * dl.length - b)).length (fun i => #[.int .i64 (hsAt (hsL (whX false x dl) b (24 * dl.length - b)) i)]) (HoldT pd lo2 hi2 (.func (.func 41) #[] #[]) (.func (.func 42) #[] #[]) vm vt (.slice ad dl.length cd) x (b : Int) dl) := by
 intro ly J Jx W hJ hJx hH hY h0
 have HJ := lhd hJ
 have HJx := lhd hJx
 have HH := lhd hH
 have HY := lhd hY
 have hJ0 := h0 _ W (gb_refl _ _) rfl
 have hxs := hx.shift
 clear hJ hJx hH hY h0 hx
 have HJA := lhd hJ0
 have hc := (HH.out _ _ _ hJ0).1
 have hm := hc.ds.len
 unfold maxLen at hm
 have F1 : Bun W [] W := Bun.nil _
 replace F1 := F1.fix0 hc.hs.1 rfl
 replace F1 := F1.fix0 hc.hs.2.1 rfl
 replace F1 := F1.fix0 hc.hs.2.2 rfl
 replace F1 := F1.sl0 hc.ds (by have := hc.n2; have := hc.hs.1.lt; omega) rfl
 have hpd1 := hc.hs.1.lt
 have hpd2 := hc.hs.2.1.lt
 have hpd3 := hc.hs.2.2.lt
 have hcn2 := hc.n2
 have HC := lhd hc
 clear hc
 clear HJA
 have hq24 : Int.tdiv (b : Int) 24 = ((b / 24 : Nat) : Int) := by rw [Int.tdiv_eq_ediv_of_nonneg (by omega)]; rfl
 go_enter Tryz.func84, Tryz.ntmps84
 have b6 := Bk.bx1 (F1.b 1 rfl)
 go_wp2_with fail
 clear b6
 go_wp2_with fail
 obtain ⟨HI7_, HI70⟩ : ∃ I : RelT, I = (fun t ds wr => ∃ (d : Nat), t 0 = .func (.yield ly) #[] #[] /\ t 1 = .pointer (some ⟨(pd + 2), 0, none⟩) /\ t 2 = .pointer (some ⟨pd, 0, none⟩) /\ t 3 = .pointer (some ⟨(pd + 1), 0, none⟩) /\ t 5 = .int .i64 (d : Int) /\ d <= dl.length /\ b / 24 <= d /\ ds = [] /\ J W.heap.size (cntH (whX false x dl) b (max b (24 * d))) wr) := ⟨_, rfl⟩
 have HI7 := lhd HI70
 clear HI70
 refine wp_loopS 45 rfl HI7_ (fun t wr => (dl.length + 1) - (intOf (t 5)).toNat) ?atStart1 ?round1
 case round1 =>
  intro t ds wr hHid
  rw [HI7.out] at hHid
  obtain ⟨d, e0, e1, e2, e3, e5, hrel⟩ := hHid
  have e := rgJ745 t
  (try dsimp only at e)
  rw [e0, e1, e2, e3, e5] at e
  rw [e]
  simp only [e5]
  clear e e0 e1 e2 e3 e5
  obtain ⟨hd, hd2, rfl, hj⟩ := hrel
  clear hJ0
  obtain ⟨A, rfl⟩ : ∃ A, A = wr := ⟨_, rfl⟩
  have hc := (HH.out _ _ _ hj).1
  have hm := hc.ds.len
  unfold maxLen at hm
  have F8 : Bun A [] A := Bun.nil _
  replace F8 := F8.fix0 hc.hs.1 rfl
  replace F8 := F8.fix0 hc.hs.2.1 rfl
  replace F8 := F8.fix0 hc.hs.2.2 rfl
  replace F8 := F8.sl0 hc.ds (by have := hc.n2; have := hc.hs.1.lt; omega) rfl
  have hpd1 := hc.hs.1.lt
  have hpd2 := hc.hs.2.1.lt
  have hpd3 := hc.hs.2.2.lt
  have hcn2 := hc.n2
  have HC := lhd hc
  clear hc
  have HJA := lhd hj
  clear hj
  by_cases c13 : (d : Int) < (dl.length : Int)
  ·
   have c13H := lhd c13
   obtain ⟨x14, o15, e_⟩ := Sl.addr (F8.s 0 rfl) (by omega)
   subst e_
   obtain ⟨z, hz16_⟩ : ∃ z_, dl[d]? = some z_ := ⟨_, List.getElem?_eq_getElem (by omega)⟩
   have hz16 := lhd hz16_
   clear hz16_
   have HZD := hz16
   have b17 := Bk.bx5 (F8.b 3 rfl)
   go_wp2_with fail
   clear b17
   replace F8 := F8.drew
   refine ru_begin (fun W => W.cell? ⟨pd, 1, none⟩ = some (.func (.func 42) #[] #[]) /\ W.cell? ⟨(pd + 1), 0, none⟩ = some (.int .i64 x.mild) /\ W.cell? ⟨(pd + 1), 1, none⟩ = some (.int .i64 x.hard) /\ W.cell? ⟨(pd + 1), 2, none⟩ = some (.int .i64 x.shift) /\ W.cell? ⟨pd, 4, none⟩ = some (.slice (some ⟨x14, o15, none⟩) dl.length cd) /\ W.cell? ⟨x14, o15 + d * 6, none⟩ = some (.int .i64 z.cold.lo) /\ W.cell? ⟨x14, o15 + d * 6 + 1, none⟩ = some (.int .i64 z.cold.hi) /\ W.cell? ⟨x14, o15 + d * 6 + 2, none⟩ = some (.int .i64 z.fall.lo) /\ W.cell? ⟨x14, o15 + d * 6 + 3, none⟩ = some (.int .i64 z.fall.hi) /\ W.cell? ⟨x14, o15 + d * 6 + 4, none⟩ = some (.int .i64 z.water) /\ W.cell? ⟨x14, o15 + d * 6 + 5, none⟩ = some (.bool z.clear)) 11 (by kernel_rfl) ?_ ?_
   · exact ⟨((F8.b 3 rfl)).cell 1, ((F8.b 2 rfl)).cell 0, ((F8.b 2 rfl)).cell 1, ((F8.b 2 rfl)).cell 2, ((F8.b 3 rfl)).cell 4, (Sl.cells (F8.at 0 rfl) hz16.out 0 _ rfl), (Sl.cells (F8.at 0 rfl) hz16.out 1 _ rfl), (Sl.cells (F8.at 0 rfl) hz16.out 2 _ rfl), (Sl.cells (F8.at 0 rfl) hz16.out 3 _ rfl), (Sl.cells (F8.at 0 rfl) hz16.out 4 _ rfl), (Sl.cells (F8.at 0 rfl) hz16.out 5 _ rfl)⟩
   obtain ⟨wd20, hwd_⟩ : ∃ x : World, A.drew = x := ⟨_, rfl⟩
   rw [hwd_] at F8 ⊢
   have wd20s : A.heap.size <= wd20.heap.size := by rw [← hwd_]; exact Nat.le_refl _
   clear hwd_
   have hS19 := (And.intro (((F8.b 3 rfl)).cell 1) (And.intro (((F8.b 2 rfl)).cell 0) (And.intro (((F8.b 2 rfl)).cell 1) (And.intro (((F8.b 2 rfl)).cell 2) (And.intro (((F8.b 3 rfl)).cell 4) (And.intro ((Sl.cells (F8.at 0 rfl) hz16.out 0 _ rfl)) (And.intro ((Sl.cells (F8.at 0 rfl) hz16.out 1 _ rfl)) (And.intro ((Sl.cells (F8.at 0 rfl) hz16.out 2 _ rfl)) (And.intro ((Sl.cells (F8.at 0 rfl) hz16.out 3 _ rfl)) (And.intro ((Sl.cells (F8.at 0 rfl) hz16.out 4 _ rfl)) ((Sl.cells (F8.at 0 rfl) hz16.out 5 _ rfl))))))))))))
   refine ru_t 0 [10, 2, 1] ?_
   refine ru_t 1 [10, 2] ?_
   refine ru_t 2 [10] ?_
   refine ru_t 3 [10, 9] ?_
   refine ru_t 4 [10, 9, 8, 7, 5] ?_
   refine ru_t 5 [10, 9, 8, 7] ?_
   refine ru_t 6 [10, 9, 8, 7] ?_
   refine ru_t 7 [10, 9, 8] ?_
   refine ru_t 8 [10, 9] ?_
   (try simp only [lpX])
   clear hS19
   refine ru_o 9 fun K hK => ?_
   go_simp
   refine (works_c x z _).mono ?_
   rintro e w23 ⟨rfl, hg21⟩
   have hg21s := hg21.size
   (try simp at hg21s)
   replace F8 := F8.gn hg21
   refine ru_back hK (by exact ⟨((F8.b 3 rfl)).cell 1, ((F8.b 2 rfl)).cell 0, ((F8.b 2 rfl)).cell 1, ((F8.b 2 rfl)).cell 2, ((F8.b 3 rfl)).cell 4, (Sl.cells (F8.at 0 rfl) hz16.out 0 _ rfl), (Sl.cells (F8.at 0 rfl) hz16.out 1 _ rfl), (Sl.cells (F8.at 0 rfl) hz16.out 2 _ rfl), (Sl.cells (F8.at 0 rfl) hz16.out 3 _ rfl), (Sl.cells (F8.at 0 rfl) hz16.out 4 _ rfl), (Sl.cells (F8.at 0 rfl) hz16.out 5 _ rfl)⟩) (fun _ => ?_)
   clear hK K
   (try simp only [lpX])
   refine ru_o 10 fun K hK => ?_
   go_simp
   refine (pickb_w _ _).mono ?_
   rintro e _ ⟨rfl, rfl⟩
   refine ru_back hK (by exact ⟨((F8.b 3 rfl)).cell 1, ((F8.b 2 rfl)).cell 0, ((F8.b 2 rfl)).cell 1, ((F8.b 2 rfl)).cell 2, ((F8.b 3 rfl)).cell 4, (Sl.cells (F8.at 0 rfl) hz16.out 0 _ rfl), (Sl.cells (F8.at 0 rfl) hz16.out 1 _ rfl), (Sl.cells (F8.at 0 rfl) hz16.out 2 _ rfl), (Sl.cells (F8.at 0 rfl) hz16.out 3 _ rfl), (Sl.cells (F8.at 0 rfl) hz16.out 4 _ rfl), (Sl.cells (F8.at 0 rfl) hz16.out 5 _ rfl)⟩) (fun _ => ?_)
   clear hK K
   (try simp only [lpX])
   refine ru_o 11 fun K hK => ?_
   go_simp
   refine ru_back_late hK (by kernel_rfl) ?_
   clear hK K
   (try simp only [lpX])
   refine ru_done (by kernel_rfl) ?_
   have Fn_ := F8
   (try dsimp only [lpF, lpG] at Fn_)
   obtain ⟨w25, hx26, F28, hxs27⟩ := Fn_.name
   (try simp at hxs27)
   rw [hx26]
   clear hx26 F8 Fn_
   cases c29 : wkB false (wkV x z)
   ·
    have c29H := lhd c29
    have HWK := c29H
    go_wp2_with fail
    go_wp2_with fail
    have hJd : J W.heap.size (cntH (whX false x dl) b (max b (24 * (d + 1)))) w25 := by
     have h_ := HJ.out _ _ _ _ _ HJA.out F28.gb (fun g e => by cases e)
     have e_ : cntH (whX false x dl) b (max b (24 * (d + 1))) = cntH (whX false x dl) b (max b (24 * d)) := cntH_idle' (Nat.le_max_left _ _) (by omega) (fun y h1 h2 => idleX HZD.out (d := d) (by omega) (by omega) (.inl HWK.out))
     rwa [e_]
    (first | refine ⟨by kernel_rfl, ?_, ?_⟩ | refine ⟨rfl, ?_, ?_⟩ | refine ⟨?_, ?_⟩)
    · rw [HI7.out]; exact ⟨d + 1, (by kernel_rfl), (by kernel_rfl), (by kernel_rfl), (by kernel_rfl), (by show Value.int .i64 ((d : Int) + 1) = _; simp), (by omega), (by omega), rfl, hJd⟩
    · simp [slot, intOf]; omega
   have c29H := lhd c29
   have HWK := c29H
   have b30 := Bk.bx1 (F28.b 1 rfl)
   go_wp2_with fail
   clear b30
   go_wp2_with fail
   have hJi := HJ.out _ _ _ _ _ HJA.out F28.gb (fun g e => by cases e)
   obtain ⟨HI31_, HI310⟩ : ∃ I : RelT, I = (fun t ds wr => ∃ (h : Nat), t 0 = .func (.yield ly) #[] #[] /\ t 1 = .pointer (some ⟨(pd + 2), 0, none⟩) /\ t 2 = .pointer (some ⟨pd, 0, none⟩) /\ t 3 = .pointer (some ⟨(pd + 1), 0, none⟩) /\ t 5 = .int .i64 (d : Int) /\ t 6 = .int .i64 (h : Int) /\ (max b (24 * d) <= h /\ h <= 24 * (d + 1)) /\ ds = [] /\ J W.heap.size (cntH (whX false x dl) b h) wr) := ⟨_, rfl⟩
   have HI31 := lhd HI310
   clear HI310
   refine wp_loopS 45 rfl HI31_ (fun t wr => (24 * (dl.length + 1)) - (intOf (t 6)).toNat) ?atStart2 ?round2
   case round2 =>
    intro t ds wr hHid
    rw [HI31.out] at hHid
    obtain ⟨h, e0, e1, e2, e3, e5, e6, hrel⟩ := hHid
    have e := rgJ745 t
    (try dsimp only at e)
    rw [e0, e1, e2, e3, e5, e6] at e
    rw [e]
    simp only [e6]
    clear e e0 e1 e2 e3 e5 e6
    obtain ⟨hh, rfl, hj⟩ := hrel
    clear hJi F28
    obtain ⟨A2, rfl⟩ : ∃ A2, A2 = wr := ⟨_, rfl⟩
    clear HJA HC hpd1 hpd2 hpd3
    have hc := (HH.out _ _ _ hj).1
    have hm := hc.ds.len
    unfold maxLen at hm
    have F32 : Bun A2 [] A2 := Bun.nil _
    replace F32 := F32.fix0 hc.hs.1 rfl
    replace F32 := F32.fix0 hc.hs.2.1 rfl
    replace F32 := F32.fix0 hc.hs.2.2 rfl
    replace F32 := F32.sl0 hc.ds (by have := hc.n2; have := hc.hs.1.lt; omega) rfl
    have hpd1 := hc.hs.1.lt
    have hpd2 := hc.hs.2.1.lt
    have hpd3 := hc.hs.2.2.lt
    have hcn2 := hc.n2
    have HC := lhd hc
    clear hc
    have HJ2 := lhd hj
    clear hj
    by_cases c37 : (h : Int) < 24 * (d : Int) + x.shift
    ·
     have c37H := lhd c37
     have HB := lhd (busyX HZD.out (d := d) (h := h) (by omega) (by omega) HWK.out (by omega))
     have b38 := Bk.bx3 (F32.b 2 rfl)
     have hJ1 := HJ.out _ _ _ _ _ HJ2.out F32.gb (fun g e => by cases e)
     have hat := hsL_at (f := (whX false x dl)) (b := b) (h := h) (e := 24 * dl.length) (by omega) (by omega) HB.out
     have hlt_ := (List.getElem?_eq_some_iff.1 hat).1
     have hY1 := HY.out _ _ _ hJ1 hlt_ (Nat.le_refl _)
     (try dsimp only at hY1)
     rw [hsAt_get hat] at hY1
     have HCS := lhd (cntH_succ (f := (whX false x dl)) (b := b) (h := h) (by omega))
     clear hat hJ1
     obtain ⟨fn, tmps, assign, body, hy, hR⟩ := hY1
     refine wpIn_wide (n := 0).1 ?_
     gi_wp2
     refine ⟨rfl, hR.mono ?_⟩
     rintro e D (⟨rfl, hJB, hkp⟩ | ⟨rfl, hJB⟩)
     ·
      clear hkp hy hR
      gi_wp2
      rw [HI31.out]
      refine ⟨rfl, ⟨h + 1, rfl, rfl, rfl, rfl, rfl, (by show Value.int .i64 ((h : Int) + 1) = _; simp), ⟨by omega, by omega⟩, rfl, (by rw [HCS.out, if_pos HB.out]; exact hJB)⟩, ?_⟩
      simp [slot, intOf]
      omega
     clear hy hR
     gi_wp2
     refine bodyPost_ret (results_none rfl _ _ _) rfl ?_
     exact ⟨⟨_, rfl⟩, _, Nat.le_refl _, .inr ⟨_, hlt_, hJB⟩⟩
    have c37H := lhd c37
    have c37a := dec_f c37
    have hJd : J W.heap.size (cntH (whX false x dl) b (max b (24 * (d + 1)))) A2 := by
     have h_ := HJ2.out
     have e_ : cntH (whX false x dl) b (max b (24 * (d + 1))) = cntH (whX false x dl) b h := by rw [show max b (24 * (d + 1)) = 24 * (d + 1) by omega]; exact cntH_idle' (by omega) (by omega) (fun y h1 h2 => idleX HZD.out (d := d) (by omega) (by omega) (.inr (by omega)))
     rwa [e_]
    have b39 := Bk.bx3 (F32.b 2 rfl)
    go_wp2_with fail
    clear b39
    go_wp2_with fail
    (first | refine ⟨by kernel_rfl, ?_, ?_⟩ | refine ⟨rfl, ?_, ?_⟩ | refine ⟨?_, ?_⟩)
    · rw [HI7.out]; exact ⟨d + 1, (by kernel_rfl), (by kernel_rfl), (by kernel_rfl), (by kernel_rfl), (by show Value.int .i64 ((d : Int) + 1) = _; simp), (by omega), (by omega), rfl, hJd⟩
    · simp [slot, intOf]; omega
   case atStart2 =>
    rw [HI31.out]
    exact ⟨max b (24 * d), by (iterate 5 refine ⟨by kernel_rfl, ?_⟩); exact ⟨(by first | rfl | (simp [slot]; omega)), ⟨Nat.le_refl _, by omega⟩, rfl, hJi⟩⟩
  have c13H := lhd c13
  have c13a := dec_f c13
  have b40 := Bk.bx5 (F8.b 3 rfl)
  go_wp2_with fail
  clear b40
  go_end0
  exact ⟨⟨_, rfl⟩, _, Nat.le_refl _, .inl (by have h_ := HJA.out; rw [show max b (24 * d) = 24 * dl.length by omega] at h_; exact h_)⟩
 case atStart1 =>
  rw [HI7.out]
  exact ⟨b / 24, (by kernel_rfl), (by kernel_rfl), (by kernel_rfl), (by kernel_rfl), rfl, (by omega), (Nat.le_refl _), rfl, (by rw [show max b (24 * (b / 24)) = b by omega, cntH_same]; exact hJ0)⟩
set_option maxHeartbeats 8000000 in
theorem shiftsw_seq (pd lo2 hi2 : Nat) (vm vt : Value) (x : Mch) (b : Nat) (ad : Option Addr) (cd : Nat) (dl : List Wea) (hx : MchOk x) (hn : dl.length <= 400) (hb : b <= 24 * dl.length) :
  SeqI Tryz.prog 84 #[.pointer (some ⟨(pd + 2), 0, none⟩), .pointer (some ⟨pd, 0, none⟩), .pointer (some ⟨(pd + 1), 0, none⟩)] (hsL (whX true x dl) b (24 * dl.length - b)).length (fun i => #[.int .i64 (hsAt (hsL (whX true x dl) b (24 * dl.length - b)) i)]) (HoldT pd lo2 hi2 (.func (.func 43) #[] #[]) (.func (.func 44) #[] #[]) vm vt (.slice ad dl.length cd) x (b : Int) dl) := by
 intro ly J Jx W hJ hJx hH hY h0
 have HJ := lhd hJ
 have HJx := lhd hJx
 have HH := lhd hH
 have HY := lhd hY
 have hJ0 := h0 _ W (gb_refl _ _) rfl
 have hxs := hx.shift
 clear hJ hJx hH hY h0 hx
 have HJA := lhd hJ0
 have hc := (HH.out _ _ _ hJ0).1
 have hm := hc.ds.len
 unfold maxLen at hm
 have F1 : Bun W [] W := Bun.nil _
 replace F1 := F1.fix0 hc.hs.1 rfl
 replace F1 := F1.fix0 hc.hs.2.1 rfl
 replace F1 := F1.fix0 hc.hs.2.2 rfl
 replace F1 := F1.sl0 hc.ds (by have := hc.n2; have := hc.hs.1.lt; omega) rfl
 have hpd1 := hc.hs.1.lt
 have hpd2 := hc.hs.2.1.lt
 have hpd3 := hc.hs.2.2.lt
 have hcn2 := hc.n2
 have HC := lhd hc
 clear hc
 clear HJA
 have hq24 : Int.tdiv (b : Int) 24 = ((b / 24 : Nat) : Int) := by rw [Int.tdiv_eq_ediv_of_nonneg (by omega)]; rfl
 go_enter Tryz.func84, Tryz.ntmps84
 have b6 := Bk.bx1 (F1.b 1 rfl)
 go_wp2_with fail
 clear b6
 go_wp2_with fail
 obtain ⟨HI7_, HI70⟩ : ∃ I : RelT, I = (fun t ds wr => ∃ (d : Nat), t 0 = .func (.yield ly) #[] #[] /\ t 1 = .pointer (some ⟨(pd + 2), 0, none⟩) /\ t 2 = .pointer (some ⟨pd, 0, none⟩) /\ t 3 = .pointer (some ⟨(pd + 1), 0, none⟩) /\ t 5 = .int .i64 (d : Int) /\ d <= dl.length /\ b / 24 <= d /\ ds = [] /\ J W.heap.size (cntH (whX true x dl) b (max b (24 * d))) wr) := ⟨_, rfl⟩
 have HI7 := lhd HI70
 clear HI70
 refine wp_loopS 45 rfl HI7_ (fun t wr => (dl.length + 1) - (intOf (t 5)).toNat) ?atStart3 ?round3
 case round3 =>
  intro t ds wr hHid
  rw [HI7.out] at hHid
  obtain ⟨d, e0, e1, e2, e3, e5, hrel⟩ := hHid
  have e := rgJ745 t
  (try dsimp only at e)
  rw [e0, e1, e2, e3, e5] at e
  rw [e]
  simp only [e5]
  clear e e0 e1 e2 e3 e5
  obtain ⟨hd, hd2, rfl, hj⟩ := hrel
  clear hJ0
  obtain ⟨A, rfl⟩ : ∃ A, A = wr := ⟨_, rfl⟩
  have hc := (HH.out _ _ _ hj).1
  have hm := hc.ds.len
  unfold maxLen at hm
  have F8 : Bun A [] A := Bun.nil _
  replace F8 := F8.fix0 hc.hs.1 rfl
  replace F8 := F8.fix0 hc.hs.2.1 rfl
  replace F8 := F8.fix0 hc.hs.2.2 rfl
  replace F8 := F8.sl0 hc.ds (by have := hc.n2; have := hc.hs.1.lt; omega) rfl
  have hpd1 := hc.hs.1.lt
  have hpd2 := hc.hs.2.1.lt
  have hpd3 := hc.hs.2.2.lt
  have hcn2 := hc.n2
  have HC := lhd hc
  clear hc
  have HJA := lhd hj
  clear hj
  by_cases c13 : (d : Int) < (dl.length : Int)
  ·
   have c13H := lhd c13
   obtain ⟨x14, o15, e_⟩ := Sl.addr (F8.s 0 rfl) (by omega)
   subst e_
   obtain ⟨z, hz16_⟩ : ∃ z_, dl[d]? = some z_ := ⟨_, List.getElem?_eq_getElem (by omega)⟩
   have hz16 := lhd hz16_
   clear hz16_
   have HZD := hz16
   have b17 := Bk.bx5 (F8.b 3 rfl)
   go_wp2_with fail
   clear b17
   replace F8 := F8.drew
   refine ru_begin (fun W => W.cell? ⟨pd, 1, none⟩ = some (.func (.func 44) #[] #[]) /\ W.cell? ⟨(pd + 1), 0, none⟩ = some (.int .i64 x.mild) /\ W.cell? ⟨(pd + 1), 1, none⟩ = some (.int .i64 x.hard) /\ W.cell? ⟨(pd + 1), 2, none⟩ = some (.int .i64 x.shift) /\ W.cell? ⟨pd, 4, none⟩ = some (.slice (some ⟨x14, o15, none⟩) dl.length cd) /\ W.cell? ⟨x14, o15 + d * 6, none⟩ = some (.int .i64 z.cold.lo) /\ W.cell? ⟨x14, o15 + d * 6 + 1, none⟩ = some (.int .i64 z.cold.hi) /\ W.cell? ⟨x14, o15 + d * 6 + 2, none⟩ = some (.int .i64 z.fall.lo) /\ W.cell? ⟨x14, o15 + d * 6 + 3, none⟩ = some (.int .i64 z.fall.hi) /\ W.cell? ⟨x14, o15 + d * 6 + 4, none⟩ = some (.int .i64 z.water) /\ W.cell? ⟨x14, o15 + d * 6 + 5, none⟩ = some (.bool z.clear)) 11 (by kernel_rfl) ?_ ?_
   · exact ⟨((F8.b 3 rfl)).cell 1, ((F8.b 2 rfl)).cell 0, ((F8.b 2 rfl)).cell 1, ((F8.b 2 rfl)).cell 2, ((F8.b 3 rfl)).cell 4, (Sl.cells (F8.at 0 rfl) hz16.out 0 _ rfl), (Sl.cells (F8.at 0 rfl) hz16.out 1 _ rfl), (Sl.cells (F8.at 0 rfl) hz16.out 2 _ rfl), (Sl.cells (F8.at 0 rfl) hz16.out 3 _ rfl), (Sl.cells (F8.at 0 rfl) hz16.out 4 _ rfl), (Sl.cells (F8.at 0 rfl) hz16.out 5 _ rfl)⟩
   obtain ⟨wd20, hwd_⟩ : ∃ x : World, A.drew = x := ⟨_, rfl⟩
   rw [hwd_] at F8 ⊢
   have wd20s : A.heap.size <= wd20.heap.size := by rw [← hwd_]; exact Nat.le_refl _
   clear hwd_
   have hS19 := (And.intro (((F8.b 3 rfl)).cell 1) (And.intro (((F8.b 2 rfl)).cell 0) (And.intro (((F8.b 2 rfl)).cell 1) (And.intro (((F8.b 2 rfl)).cell 2) (And.intro (((F8.b 3 rfl)).cell 4) (And.intro ((Sl.cells (F8.at 0 rfl) hz16.out 0 _ rfl)) (And.intro ((Sl.cells (F8.at 0 rfl) hz16.out 1 _ rfl)) (And.intro ((Sl.cells (F8.at 0 rfl) hz16.out 2 _ rfl)) (And.intro ((Sl.cells (F8.at 0 rfl) hz16.out 3 _ rfl)) (And.intro ((Sl.cells (F8.at 0 rfl) hz16.out 4 _ rfl)) ((Sl.cells (F8.at 0 rfl) hz16.out 5 _ rfl))))))))))))
   refine ru_t 0 [10, 2, 1] ?_
   refine ru_t 1 [10, 2] ?_
   refine ru_t 2 [10] ?_
   refine ru_t 3 [10, 9] ?_
   refine ru_t 4 [10, 9, 8, 7, 5] ?_
   refine ru_t 5 [10, 9, 8, 7] ?_
   refine ru_t 6 [10, 9, 8, 7] ?_
   refine ru_t 7 [10, 9, 8] ?_
   refine ru_t 8 [10, 9] ?_
   (try simp only [lpX])
   clear hS19
   refine ru_o 9 fun K hK => ?_
   go_simp
   refine (works_c x z _).mono ?_
   rintro e w23 ⟨rfl, hg21⟩
   have hg21s := hg21.size
   (try simp at hg21s)
   replace F8 := F8.gn hg21
   refine ru_back hK (by exact ⟨((F8.b 3 rfl)).cell 1, ((F8.b 2 rfl)).cell 0, ((F8.b 2 rfl)).cell 1, ((F8.b 2 rfl)).cell 2, ((F8.b 3 rfl)).cell 4, (Sl.cells (F8.at 0 rfl) hz16.out 0 _ rfl), (Sl.cells (F8.at 0 rfl) hz16.out 1 _ rfl), (Sl.cells (F8.at 0 rfl) hz16.out 2 _ rfl), (Sl.cells (F8.at 0 rfl) hz16.out 3 _ rfl), (Sl.cells (F8.at 0 rfl) hz16.out 4 _ rfl), (Sl.cells (F8.at 0 rfl) hz16.out 5 _ rfl)⟩) (fun _ => ?_)
   clear hK K
   (try simp only [lpX])
   refine ru_o 10 fun K hK => ?_
   go_simp
   refine (pickw_w _ _).mono ?_
   rintro e _ ⟨rfl, rfl⟩
   refine ru_back hK (by exact ⟨((F8.b 3 rfl)).cell 1, ((F8.b 2 rfl)).cell 0, ((F8.b 2 rfl)).cell 1, ((F8.b 2 rfl)).cell 2, ((F8.b 3 rfl)).cell 4, (Sl.cells (F8.at 0 rfl) hz16.out 0 _ rfl), (Sl.cells (F8.at 0 rfl) hz16.out 1 _ rfl), (Sl.cells (F8.at 0 rfl) hz16.out 2 _ rfl), (Sl.cells (F8.at 0 rfl) hz16.out 3 _ rfl), (Sl.cells (F8.at 0 rfl) hz16.out 4 _ rfl), (Sl.cells (F8.at 0 rfl) hz16.out 5 _ rfl)⟩) (fun _ => ?_)
   clear hK K
   (try simp only [lpX])
   refine ru_o 11 fun K hK => ?_
   go_simp
   refine ru_back_late hK (by kernel_rfl) ?_
   clear hK K
   (try simp only [lpX])
   refine ru_done (by kernel_rfl) ?_
   have Fn_ := F8
   (try dsimp only [lpF, lpG] at Fn_)
   obtain ⟨w25, hx26, F28, hxs27⟩ := Fn_.name
   (try simp at hxs27)
   rw [hx26]
   clear hx26 F8 Fn_
   cases c29 : wkB true (wkV x z)
   ·
    have c29H := lhd c29
    have HWK := c29H
    go_wp2_with fail
    go_wp2_with fail
    have hJd : J W.heap.size (cntH (whX true x dl) b (max b (24 * (d + 1)))) w25 := by
     have h_ := HJ.out _ _ _ _ _ HJA.out F28.gb (fun g e => by cases e)
     have e_ : cntH (whX true x dl) b (max b (24 * (d + 1))) = cntH (whX true x dl) b (max b (24 * d)) := cntH_idle' (Nat.le_max_left _ _) (by omega) (fun y h1 h2 => idleX HZD.out (d := d) (by omega) (by omega) (.inl HWK.out))
     rwa [e_]
    (first | refine ⟨by kernel_rfl, ?_, ?_⟩ | refine ⟨rfl, ?_, ?_⟩ | refine ⟨?_, ?_⟩)
    · rw [HI7.out]; exact ⟨d + 1, (by kernel_rfl), (by kernel_rfl), (by kernel_rfl), (by kernel_rfl), (by show Value.int .i64 ((d : Int) + 1) = _; simp), (by omega), (by omega), rfl, hJd⟩
    · simp [slot, intOf]; omega
   have c29H := lhd c29
   have HWK := c29H
   have b30 := Bk.bx1 (F28.b 1 rfl)
   go_wp2_with fail
   clear b30
   go_wp2_with fail
   have hJi := HJ.out _ _ _ _ _ HJA.out F28.gb (fun g e => by cases e)
   obtain ⟨HI31_, HI310⟩ : ∃ I : RelT, I = (fun t ds wr => ∃ (h : Nat), t 0 = .func (.yield ly) #[] #[] /\ t 1 = .pointer (some ⟨(pd + 2), 0, none⟩) /\ t 2 = .pointer (some ⟨pd, 0, none⟩) /\ t 3 = .pointer (some ⟨(pd + 1), 0, none⟩) /\ t 5 = .int .i64 (d : Int) /\ t 6 = .int .i64 (h : Int) /\ (max b (24 * d) <= h /\ h <= 24 * (d + 1)) /\ ds = [] /\ J W.heap.size (cntH (whX true x dl) b h) wr) := ⟨_, rfl⟩
   have HI31 := lhd HI310
   clear HI310
   refine wp_loopS 45 rfl HI31_ (fun t wr => (24 * (dl.length + 1)) - (intOf (t 6)).toNat) ?atStart4 ?round4
   case round4 =>
    intro t ds wr hHid
    rw [HI31.out] at hHid
    obtain ⟨h, e0, e1, e2, e3, e5, e6, hrel⟩ := hHid
    have e := rgJ745 t
    (try dsimp only at e)
    rw [e0, e1, e2, e3, e5, e6] at e
    rw [e]
    simp only [e6]
    clear e e0 e1 e2 e3 e5 e6
    obtain ⟨hh, rfl, hj⟩ := hrel
    clear hJi F28
    obtain ⟨A2, rfl⟩ : ∃ A2, A2 = wr := ⟨_, rfl⟩
    clear HJA HC hpd1 hpd2 hpd3
    have hc := (HH.out _ _ _ hj).1
    have hm := hc.ds.len
    unfold maxLen at hm
    have F32 : Bun A2 [] A2 := Bun.nil _
    replace F32 := F32.fix0 hc.hs.1 rfl
    replace F32 := F32.fix0 hc.hs.2.1 rfl
    replace F32 := F32.fix0 hc.hs.2.2 rfl
    replace F32 := F32.sl0 hc.ds (by have := hc.n2; have := hc.hs.1.lt; omega) rfl
    have hpd1 := hc.hs.1.lt
    have hpd2 := hc.hs.2.1.lt
    have hpd3 := hc.hs.2.2.lt
    have hcn2 := hc.n2
    have HC := lhd hc
    clear hc
    have HJ2 := lhd hj
    clear hj
    by_cases c37 : (h : Int) < 24 * (d : Int) + x.shift
    ·
     have c37H := lhd c37
     have HB := lhd (busyX HZD.out (d := d) (h := h) (by omega) (by omega) HWK.out (by omega))
     have b38 := Bk.bx3 (F32.b 2 rfl)
     have hJ1 := HJ.out _ _ _ _ _ HJ2.out F32.gb (fun g e => by cases e)
     have hat := hsL_at (f := (whX true x dl)) (b := b) (h := h) (e := 24 * dl.length) (by omega) (by omega) HB.out
     have hlt_ := (List.getElem?_eq_some_iff.1 hat).1
     have hY1 := HY.out _ _ _ hJ1 hlt_ (Nat.le_refl _)
     (try dsimp only at hY1)
     rw [hsAt_get hat] at hY1
     have HCS := lhd (cntH_succ (f := (whX true x dl)) (b := b) (h := h) (by omega))
     clear hat hJ1
     obtain ⟨fn, tmps, assign, body, hy, hR⟩ := hY1
     refine wpIn_wide (n := 0).1 ?_
     gi_wp2
     refine ⟨rfl, hR.mono ?_⟩
     rintro e D (⟨rfl, hJB, hkp⟩ | ⟨rfl, hJB⟩)
     ·
      clear hkp hy hR
      gi_wp2
      rw [HI31.out]
      refine ⟨rfl, ⟨h + 1, rfl, rfl, rfl, rfl, rfl, (by show Value.int .i64 ((h : Int) + 1) = _; simp), ⟨by omega, by omega⟩, rfl, (by rw [HCS.out, if_pos HB.out]; exact hJB)⟩, ?_⟩
      simp [slot, intOf]
      omega
     clear hy hR
     gi_wp2
     refine bodyPost_ret (results_none rfl _ _ _) rfl ?_
     exact ⟨⟨_, rfl⟩, _, Nat.le_refl _, .inr ⟨_, hlt_, hJB⟩⟩
    have c37H := lhd c37
    have c37a := dec_f c37
    have hJd : J W.heap.size (cntH (whX true x dl) b (max b (24 * (d + 1)))) A2 := by
     have h_ := HJ2.out
     have e_ : cntH (whX true x dl) b (max b (24 * (d + 1))) = cntH (whX true x dl) b h := by rw [show max b (24 * (d + 1)) = 24 * (d + 1) by omega]; exact cntH_idle' (by omega) (by omega) (fun y h1 h2 => idleX HZD.out (d := d) (by omega) (by omega) (.inr (by omega)))
     rwa [e_]
    have b39 := Bk.bx3 (F32.b 2 rfl)
    go_wp2_with fail
    clear b39
    go_wp2_with fail
    (first | refine ⟨by kernel_rfl, ?_, ?_⟩ | refine ⟨rfl, ?_, ?_⟩ | refine ⟨?_, ?_⟩)
    · rw [HI7.out]; exact ⟨d + 1, (by kernel_rfl), (by kernel_rfl), (by kernel_rfl), (by kernel_rfl), (by show Value.int .i64 ((d : Int) + 1) = _; simp), (by omega), (by omega), rfl, hJd⟩
    · simp [slot, intOf]; omega
   case atStart4 =>
    rw [HI31.out]
    exact ⟨max b (24 * d), by (iterate 5 refine ⟨by kernel_rfl, ?_⟩); exact ⟨(by first | rfl | (simp [slot]; omega)), ⟨Nat.le_refl _, by omega⟩, rfl, hJi⟩⟩
  have c13H := lhd c13
  have c13a := dec_f c13
  have b40 := Bk.bx5 (F8.b 3 rfl)
  go_wp2_with fail
  clear b40
  go_end0
  exact ⟨⟨_, rfl⟩, _, Nat.le_refl _, .inl (by have h_ := HJA.out; rw [show max b (24 * d) = 24 * dl.length by omega] at h_; exact h_)⟩
 case atStart3 =>
  rw [HI7.out]
  exact ⟨b / 24, (by kernel_rfl), (by kernel_rfl), (by kernel_rfl), (by kernel_rfl), rfl, (by omega), (Nat.le_refl _), rfl, (by rw [show max b (24 * (b / 24)) = b by omega, cntH_same]; exact hJ0)⟩
end Go.Proofs.YtcoldeolmleeiaaGreat
