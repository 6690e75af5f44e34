/- build: build.Link, walked. -/
import Derived.Test.YtcoldeolmleeiaaGreatKGG11
import Derived.Test.YtcoldeolmleeiaaGreatKN3
import Derived.Test.YtcoldeolmleeiaaGreatKJ9
import Derived.Test.YtcoldeolmleeiaaGreatKKC
import Derived.Test.YtcoldeolmleeiaaGreatKK1
set_option linter.unusedVariables false
set_option linter.unusedSimpArgs false
set_option linter.unnecessarySimpa false
namespace Go.Proofs.YtcoldeolmleeiaaGreat
open Go.RowKit
set_option maxRecDepth 100000
attribute [local go_sem] Oper.semAt_some
attribute [local go_sem] run_store_fn
theorem rgLk4112 (t : Nat -> Value) : ((List.range 112).map t).toArray = #[t 0, t 1, t 2, t 3, t 4, t 5, t 6, t 7, t 8, t 9, t 10, t 11, t 12, t 13, t 14, t 15, t 16, t 17, t 18, t 19, t 20, t 21, t 22, t 23, t 24, t 25, t 26, t 27, t 28, t 29, t 30, t 31, t 32, t 33, t 34, t 35, t 36, t 37, t 38, t 39, t 40, t 41, t 42, t 43, t 44, t 45, t 46, t 47, t 48, t 49, t 50, t 51, t 52, t 53, t 54, t 55, t 56, t 57, t 58, t 59, t 60, t 61, t 62, t 63, t 64, t 65, t 66, t 67, t 68, t 69, t 70, t 71, t 72, t 73, t 74, t 75, t 76, t 77, t 78, t 79, t 80, t 81, t 82, t 83, t 84, t 85, t 86, t 87, t 88, t 89, t 90, t 91, t 92, t 93, t 94, t 95, t 96, t 97, t 98, t 99, t 100, t 101, t 102, t 103, t 104, t 105, t 106, t 107, t 108, t 109, t 110, t 111] := rfl
theorem Bun.grpRangeE {w0 A : World} {L : List Res} {b k : Nat} {m : List Int} (h : Bun w0 (rgrp b k m :: L) A) : ∃ cnt r B, (Instr.range 122 (.map (some b))).run Tryz.prog A = .ok (.pointer (some ⟨r, 0, none⟩)) B /\ Bun w0 (rgng b r k m (fun x => decide (0 <= x /\ x < m.length)) cnt :: L) B /\ A.heap.size <= B.heap.size := by
 obtain ⟨cnt, B, h1, h2, h3⟩ := h.grpRange
 exact ⟨cnt, _, B, h1, h2, h3⟩
set_option maxHeartbeats 32000000 in
theorem link_c (lo hi : Nat) (v : Value) (ls : List Lg) (n : Nat) (w : World) (hl : Sl lgEnc 5 lo hi w v ls) (h2 : hi <= w.heap.size) (hn : n <= 1000) (hlt : (ordN ls ls.length).length < 20) :
  Calls Tryz.prog 27 #[.agg #[.int .i64 (n : Int), v]] w (LinkR (n : Int) ls w) := by
 have hmm := @run_makeMap Tryz.prog
 have F1 : Bun w [] w := Bun.nil _
 have hm_ls := hl.len
 unfold maxLen at hm_ls
 obtain ⟨aL, cL, rfl⟩ := hl.any
 replace F1 := F1.sl0 hl h2 rfl
 clear hl
 have HLT := lhd hlt
 clear hlt
 go_enter Tryz.func27, Tryz.ntmps27
 go_wp2_with fail
 replace F1 := F1.new 54 #[.int .i64 (n : Int), .slice aL ls.length cL] (n := w.heap.size) (by simp)
 refine (checkNet_c lo hi _ (n : Int) ls _ (F1.s 1 rfl) (Nat.le_trans h2 F1.gb.size) (by omega)).mono ?_
 rintro e w6 ⟨rfl, hg4⟩
 have hg4s := hg4.size
 (try simp at hg4s)
 replace F1 := F1.gn hg4
 clear hg4
 by_cases c8 : netErr (n : Int) ls = 0
 ·
  obtain ⟨c8a, c8b⟩ := bqt c8
  have c8H := lhd c8
  clear c8
  have hok0 := netOk c8H.out
  have hlen := hok0.2.1
  have hnn : n <= 40 := by omega
  have hn1 : 1 <= n := by omega
  have HLS : Hid (∀ l ∈ ls, LgOk (n : Int) l) := lhd hok0.2.2
  clear hok0
  replace F1 := F1.grpNew (g := w6.heap.size) (by simp)
  have b10 := F1.bx2 1 rfl
  go_wp2_with fail
  clear b10
  obtain ⟨HI11_, HI110⟩ : ∃ I : RelT, I = (fun t ds wr => ∃ (i : Nat), t 1 = .pointer (some ⟨w.heap.size, 0, none⟩) /\ t 2 = .slice none 0 0 /\ t 3 = .int .i64 0 /\ t 6 = .map (some w6.heap.size) /\ t 24 = .int .i64 (n : Int) /\ t 25 = .int .i64 (i : Int) /\ i <= n /\ ds = [] /\ w6.heap.size <= wr.heap.size /\ Bun w [rgrp w6.heap.size i (natL i), rbox w.heap.size 54 #[.int .i64 (n : Int), .slice aL ls.length cL], rsl lgEnc 5 lo hi (.slice aL ls.length cL) ls] wr) := ⟨_, rfl⟩
  have HI11 := lhd HI110
  clear HI110
  refine wp_loopS 112 rfl HI11_ (fun t wr => n - (intOf (t 25)).toNat) ?atStart1 ?round1
  case round1 =>
   intro t ds wr hHid
   rw [HI11.out] at hHid
   obtain ⟨i, e1, e2, e3, e6, e24, e25, hrel⟩ := hHid
   have e := rgLk4112 t
   (try dsimp only at e)
   rw [e1, e2, e3, e6, e24, e25] at e
   rw [e]
   simp only [e25]
   clear e e1 e2 e3 e6 e24 e25
   obtain ⟨hi_, rfl, hs13, hF12⟩ := hrel
   clear F1
   obtain ⟨w14, rfl⟩ : ∃ x_ : World, x_ = wr := ⟨_, rfl⟩
   by_cases c15 : (i : Int) < (n : Int)
   ·
    have c15H := lhd c15
    obtain ⟨w16, hr17, F18, hs19⟩ := hF12.grpPut (by omega) (by rw [natL_len]; omega) (natL_len i) (i : Int)
    (try simp at hr17 hs19)
    clear hF12
    go_wp2_with fail
    clear hr17
    go_wp2_with fail
    (first | refine ⟨by kernel_rfl, ?_, ?_⟩ | refine ⟨rfl, ?_, ?_⟩ | refine ⟨?_, ?_⟩)
    · rw [HI11.out]; exact ⟨i + 1, by (iterate 5 refine ⟨by kernel_rfl, ?_⟩); exact ⟨(by show Value.int .i64 ((i : Int) + 1) = _; simp), (by omega), (by first | rfl | simp), (by first | omega | (simp; done) | (simp; omega)), (by rw [← natL_snoc]; exact F18)⟩⟩
    · simp [slot, intOf]; omega
   have c15H := lhd c15
   have c15a := dec_f c15
   have hin_ : i = n := by omega
   rw [hin_] at hF12
   clear hin_
   have F20 := hF12.nilrow intEnc 3 1
   clear hF12
   have b21 := F20.bx2 2 rfl
   go_wp2_with fail
   clear b21
   obtain ⟨HI22_, HI220⟩ : ∃ I : RelT, I = (fun t ds wr => ∃ (k : Nat) (vo : Value), t 1 = .pointer (some ⟨w.heap.size, 0, none⟩) /\ t 2 = .slice none 0 0 /\ t 3 = .int .i64 0 /\ t 6 = .map (some w6.heap.size) /\ t 8 = vo /\ t 33 = .slice aL ls.length cL /\ t 34 = .int .i64 (ls.length : Int) /\ t 35 = .int .i64 (k : Int) /\ k <= ls.length /\ ds = [] /\ w14.heap.size <= wr.heap.size /\ Bun w [rown intEnc 3 1 w.heap.size vo (ordN ls k), rgrp w6.heap.size n (natL n), rbox w.heap.size 54 #[.int .i64 (n : Int), .slice aL ls.length cL], rsl lgEnc 5 lo hi (.slice aL ls.length cL) ls] wr) := ⟨_, rfl⟩
   have HI22 := lhd HI220
   clear HI220
   refine wp_loopS 112 rfl HI22_ (fun t wr => ls.length - (intOf (t 35)).toNat) ?atStart2 ?round2
   case round2 =>
    intro t ds wr hHid
    rw [HI22.out] at hHid
    obtain ⟨k, vo, e1, e2, e3, e6, e8, e33, e34, e35, hrel⟩ := hHid
    have e := rgLk4112 t
    (try dsimp only at e)
    rw [e1, e2, e3, e6, e8, e33, e34, e35] at e
    rw [e]
    simp only [e35]
    clear e e1 e2 e3 e6 e8 e33 e34 e35
    obtain ⟨hk_, rfl, hs24, hF23⟩ := hrel
    clear F20
    obtain ⟨w25, rfl⟩ : ∃ x_ : World, x_ = wr := ⟨_, rfl⟩
    by_cases c26 : (k : Int) < (ls.length : Int)
    ·
     have c26H := lhd c26
     obtain ⟨x27, o28, e_⟩ := Sl.addr (hF23.s 3 rfl) (by omega)
     subst e_
     obtain ⟨z, hz29_⟩ : ∃ z_, ls[k]? = some z_ := ⟨_, List.getElem?_eq_getElem (by omega)⟩
     have hz29 := lhd hz29_
     clear hz29_
     by_cases c30 : z.op = 2
     ·
      obtain ⟨c30a, c30b⟩ := bqt c30
      have c30H := lhd c30
      clear c30
      have ge31 : World.cell? _ ⟨x27, o28 + k * 5, none⟩ = some (.int .i64 z.a) := (Sl.cells (hF23.at 3 rfl) hz29.out 0 _ rfl)
      have gl32 := cell_lt ge31
      have ge33 : World.cell? _ ⟨x27, o28 + k * 5 + 1, none⟩ = some (.int .i64 z.b) := (Sl.cells (hF23.at 3 rfl) hz29.out 1 _ rfl)
      have ge34 : World.cell? _ ⟨x27, o28 + k * 5 + 2, none⟩ = some (.int .i64 z.long) := (Sl.cells (hF23.at 3 rfl) hz29.out 2 _ rfl)
      have ge35 : World.cell? _ ⟨x27, o28 + k * 5 + 3, none⟩ = some (.int .i64 z.op) := (Sl.cells (hF23.at 3 rfl) hz29.out 3 _ rfl)
      have ge36 : World.cell? _ ⟨x27, o28 + k * 5 + 4, none⟩ = some (.int .i64 z.cost) := (Sl.cells (hF23.at 3 rfl) hz29.out 4 _ rfl)
      go_wp2_with fail
      clear ge31 gl32 ge33 ge34 ge35 ge36
      have F37 := hF23.new 94 #[.int .i64 z.a, .int .i64 z.b, .int .i64 z.long, .int .i64 z.op, .int .i64 z.cost] (n := w25.heap.size) (by simp)
      clear hF23
      have F38 : Bun w [rown intEnc 3 1 w.heap.size vo (ordN ls k), rgrp w6.heap.size n (natL n), rbox w.heap.size 54 #[.int .i64 (n : Int), .slice (some ⟨x27, o28, none⟩) ls.length cL], rsl lgEnc 5 lo hi (.slice (some ⟨x27, o28, none⟩) ls.length cL) ls] _ := F37.pick [1, 2, 3, 4] (by decide) rfl
      clear F37
      (first | refine ⟨by kernel_rfl, ?_, ?_⟩ | refine ⟨rfl, ?_, ?_⟩ | refine ⟨?_, ?_⟩)
      · rw [HI22.out]; exact ⟨k + 1, _, by (iterate 7 refine ⟨by kernel_rfl, ?_⟩); exact ⟨(by show Value.int .i64 ((k : Int) + 1) = _; simp), (by omega), (by first | rfl | simp), (by first | omega | (simp; done) | (simp; omega)), (by rw [ordN_no hz29.out c30H.out]; exact F38)⟩⟩
      · simp [slot, intOf]; omega
     obtain ⟨c30a, c30b⟩ := bqf c30
     have c30H := lhd c30
     clear c30
     have hol_ := ordN_len ls k
     have ge39 : World.cell? _ ⟨x27, o28 + k * 5, none⟩ = some (.int .i64 z.a) := (Sl.cells (hF23.at 3 rfl) hz29.out 0 _ rfl)
     have gl40 := cell_lt ge39
     have ge41 : World.cell? _ ⟨x27, o28 + k * 5 + 1, none⟩ = some (.int .i64 z.b) := (Sl.cells (hF23.at 3 rfl) hz29.out 1 _ rfl)
     have ge42 : World.cell? _ ⟨x27, o28 + k * 5 + 2, none⟩ = some (.int .i64 z.long) := (Sl.cells (hF23.at 3 rfl) hz29.out 2 _ rfl)
     have ge43 : World.cell? _ ⟨x27, o28 + k * 5 + 3, none⟩ = some (.int .i64 z.op) := (Sl.cells (hF23.at 3 rfl) hz29.out 3 _ rfl)
     have ge44 : World.cell? _ ⟨x27, o28 + k * 5 + 4, none⟩ = some (.int .i64 z.cost) := (Sl.cells (hF23.at 3 rfl) hz29.out 4 _ rfl)
     have F45 := hF23.new 94 #[.int .i64 z.a, .int .i64 z.b, .int .i64 z.long, .int .i64 z.op, .int .i64 z.cost] (n := w25.heap.size) (by simp)
     clear hF23
     go_wp2_with (at_builtin; refine wpList_app _ okInt rfl _ _ rfl w.heap.size vo (ordN ls k) [(k : Int)] rfl (by exact ((F45.o 1 rfl)).alloc _) ⟨_, 0, none⟩ 1 1 rfl rfl (by decide) (news_of (Bk.newAt _ _ _ (by simp))) ((ordN ls k).length + 1) (by simp) (by omega) (by first | omega | (simp; omega)) _ rfl ?_; intro g46 cap47 w48 hp49; refine Hid.out ?_)
     refine lhd ?_
     have hp49s := hp49.gb.size
     (try simp at hp49s)
     clear ge39 gl40 ge41 ge42 ge43 ge44
     have F50 := ((F45.alloc (.cells #[.int .i64 (k : Int)] 3)).front 1 rfl rfl).app hp49 (by simp)
     clear F45
     go_wp2_with fail
     have F51 : Bun w [rown intEnc 3 1 w.heap.size (.slice (some ⟨g46, 0, none⟩) ((ordN ls k).length + 1) cap47) ((ordN ls k) ++ [(k : Int)]), rgrp w6.heap.size n (natL n), rbox w.heap.size 54 #[.int .i64 (n : Int), .slice (some ⟨x27, o28, none⟩) ls.length cL], rsl lgEnc 5 lo hi (.slice (some ⟨x27, o28, none⟩) ls.length cL) ls] _ := F50.pick [0, 2, 3, 4] (by decide) rfl
     clear F50
     (first | refine ⟨by kernel_rfl, ?_, ?_⟩ | refine ⟨rfl, ?_, ?_⟩ | refine ⟨?_, ?_⟩)
     · rw [HI22.out]; exact ⟨k + 1, _, by (iterate 7 refine ⟨by kernel_rfl, ?_⟩); exact ⟨(by show Value.int .i64 ((k : Int) + 1) = _; simp), (by omega), (by first | rfl | simp), (by first | omega | (simp; done) | (simp; omega)), (by rw [ordN_yes hz29.out c30H.out]; exact F51)⟩⟩
     · simp [slot, intOf]; omega
    have c26H := lhd c26
    have c26a := dec_f c26
    have hkn_ : k = ls.length := by omega
    rw [hkn_] at hF23
    clear hkn_
    go_wp2_with fail
    have Fn_ := hF23
    (try dsimp only [lpF, lpG] at Fn_)
    obtain ⟨w52, hx53, F55, hxs54⟩ := Fn_.name
    (try simp at hxs54)
    rw [hx53]
    clear hx53 hF23 Fn_
    obtain ⟨od, hod_⟩ : ∃ o_, ordN ls ls.length = o_ := ⟨_, rfl⟩
    have HOD := lhd hod_
    rw [hod_] at F55
    clear hod_
    obtain ⟨oa, oc, e_⟩ := (Own.sl (F55.o 0 rfl) (fun _ => rfl)).any
    subst e_
    obtain ⟨nn, hnn_⟩ : ∃ n_, od.length = n_ := ⟨_, rfl⟩
    rw [hnn_] at F55 ⊢
    have HNN := lhd hnn_
    clear hnn_
    have hnl : nn < 20 := by rw [← HNN.out, ← HOD.out]; exact HLT.out
    have F56 : Bun w [rown intEnc 3 1 w.heap.size (.slice oa nn oc) od, rbox w.heap.size 54 #[.int .i64 (n : Int), .slice aL ls.length cL], rsl lgEnc 5 lo hi (.slice aL ls.length cL) ls, rgrp w6.heap.size n (natL n)] _ := F55.pick [0, 2, 3, 1] (by decide) rfl
    clear F55
    refine (sortst_c w w.heap.size lo hi w.heap.size oc cL nn oa aL (n : Int) ls [rgrp w6.heap.size n (natL n)] od _ (Bun.hide (K := [rown intEnc 3 1 w.heap.size (.slice oa nn oc) od, rbox w.heap.size 54 #[.int .i64 (n : Int), .slice aL ls.length cL], rsl lgEnc 5 lo hi (.slice aL ls.length cL) ls]) (l := [rgrp w6.heap.size n (natL n)]) F56) HNN.out hnl (by rw [← HOD.out]; exact ordN_ok ls _ (Nat.le_refl _))).mono ?_
    rintro e w58 ⟨rfl, Fr_⟩
    have F57 : Bun w [rown intEnc 3 1 w.heap.size (.slice oa nn oc) (insN (lkC ls) od (nn - 1)), rbox w.heap.size 54 #[.int .i64 (n : Int), .slice aL ls.length cL], rsl lgEnc 5 lo hi (.slice aL ls.length cL) ls, rgrp w6.heap.size n (natL n)] w58 := Bun.show (K := [rsl lgEnc 5 lo hi (.slice aL ls.length cL) ls]) (l := [rgrp w6.heap.size n (natL n)]) (N := [rown intEnc 3 1 w.heap.size (.slice oa nn oc) (insN (lkC ls) od (nn - 1)), rbox w.heap.size 54 #[.int .i64 (n : Int), .slice aL ls.length cL]]) ((F56.drop 0 rfl : Bun w [rbox w.heap.size 54 #[.int .i64 (n : Int), .slice aL ls.length cL], rsl lgEnc 5 lo hi (.slice aL ls.length cL) ls, rgrp w6.heap.size n (natL n)] _).drop 0 rfl : Bun w [rsl lgEnc 5 lo hi (.slice aL ls.length cL) ls, rgrp w6.heap.size n (natL n)] _) Fr_ rfl
    clear Fr_
    (try clear F56)
    have hwsF57 := F57.gb.size
    go_wp2_with fail
    obtain ⟨so, hso_⟩ : ∃ o_, insN (lkC ls) od (nn - 1) = o_ := ⟨_, rfl⟩
    rw [hso_] at F57
    have HOE : Hid (lnkO ls = so) := lhd (by rw [← hso_, lnkO, HOD.out, HNN.out])
    have HSN : Hid (so.length = nn) := lhd (by rw [← hso_, insN_len]; exact HNN.out)
    have HSO : Hid (ordOk ls.length so) := lhd (by rw [← hso_]; exact (show ordOk ls.length od by rw [← HOD.out]; exact ordN_ok ls _ (Nat.le_refl _)).ins (by have h_ := HNN.out; omega))
    clear hso_
    replace F57 := F57.nilrow intEnc 3 1
    go_wp2_with fail
    obtain ⟨HI60_, HI600⟩ : ∃ I : RelT, I = (fun t ds wr => ∃ (q : Nat) (m lg : List Int) (c : Int) (vl : Value), t 1 = .pointer (some ⟨w.heap.size, 0, none⟩) /\ t 2 = vl /\ t 3 = .int .i64 c /\ t 6 = .map (some w6.heap.size) /\ t 51 = .slice oa nn oc /\ t 52 = .int .i64 (nn : Int) /\ t 53 = .int .i64 (q : Int) /\ q <= nn /\ Hid ((so.take q).foldl (stpK ls) (natL n, [], 0) = (m, lg, c)) /\ Hid (m.length = n) /\ lg.length <= q /\ (0 <= c /\ c <= 100000 * (q : Int)) /\ ds = [] /\ w58.heap.size <= wr.heap.size /\ Bun w [rown intEnc 3 1 w.heap.size vl lg, rown intEnc 3 1 w.heap.size (.slice oa nn oc) so, rbox w.heap.size 54 #[.int .i64 (n : Int), .slice aL ls.length cL], rsl lgEnc 5 lo hi (.slice aL ls.length cL) ls, rgrp w6.heap.size n m] wr) := ⟨_, rfl⟩
    have HI60 := lhd HI600
    clear HI600
    refine wp_loopS 112 rfl HI60_ (fun t wr => nn - (intOf (t 53)).toNat) ?atStart3 ?round3
    case round3 =>
     intro t ds wr hHid
     rw [HI60.out] at hHid
     obtain ⟨q, m, lg, c, vl, e1, e2, e3, e6, e51, e52, e53, hrel⟩ := hHid
     have e := rgLk4112 t
     (try dsimp only at e)
     rw [e1, e2, e3, e6, e51, e52, e53] at e
     rw [e]
     simp only [e53]
     clear e e1 e2 e3 e6 e51 e52 e53
     obtain ⟨hq_, hst, HML, hlg, hcb, rfl, hs62, hF61⟩ := hrel
     clear F57
     obtain ⟨w63, rfl⟩ : ∃ x_ : World, x_ = wr := ⟨_, rfl⟩
     by_cases c64 : (q : Int) < (nn : Int)
     ·
      have c64H := lhd c64
      have hqs : q < so.length := by have h_ := HSN.out; omega
      obtain ⟨i, hi_⟩ : ∃ i_ : Nat, so.getD q 0 = (i_ : Int) := ⟨(so.getD q 0).toNat, by have h_ := HSO.out.at hqs; omega⟩
      have hil : i < ls.length := by have h_ := HSO.out.at hqs; omega
      obtain ⟨z, hz_⟩ : ∃ z_, ls[i]? = some z_ := ⟨_, List.getElem?_eq_getElem hil⟩
      have HZI := lhd hz_
      have HSI : Hid (so[q]? = some (i : Int)) := lhd (by rw [← hi_]; exact getD_at hqs)
      clear hz_ hi_
      obtain ⟨gO65, cO66, e_⟩ := Own.opn (hF61.o 1 rfl) (by omega)
      injection e_ with e1_ e3_ e2_
      subst e1_ e2_
      clear e3_
      have hz67 : Hid (so[q]? = some (i : Int)) := lhd (HSI.out)
      obtain ⟨x68, o69, e_⟩ := Sl.addr (hF61.s 3 rfl) (by omega)
      subst e_
      have hz70 : Hid (ls[i]? = some z) := lhd (HZI.out)
      have HZ := lhd (HLS.out z (List.mem_of_getElem? HZI.out))
      have hza := HZ.out.a
      have hzb := HZ.out.b
      have hzc := HZ.out.cost
      have HFS := lhd (foldl_snoc' (stpK ls) (natL n, [], 0) HSI.out)
      obtain ⟨ga, h_⟩ : ∃ g_, gAt m z.a = g_ := ⟨_, rfl⟩
      have HGA := lhd h_
      clear h_
      obtain ⟨gb, h_⟩ : ∃ g_, gAt m z.b = g_ := ⟨_, rfl⟩
      have HGB := lhd h_
      clear h_
      have ge71 : World.cell? _ ⟨gO65, q, none⟩ = some (.int .i64 (i : Int)) := (by simpa using (Own.sl (hF61.o 1 rfl) (fun _ => rfl)).cells hz67.out 0 _ rfl)
      have gl72 := cell_lt ge71
      go_wp2_with fail
      clear ge71 gl72
      refine wp_cutK 112 (fun t wr => ∃ (u_ : Unit), t 1 = .pointer (some ⟨w.heap.size, 0, none⟩) /\ t 2 = vl /\ t 3 = .int .i64 c /\ t 6 = .map (some w6.heap.size) /\ t 12 = .int .i64 (i : Int) /\ t 13 = .int .i64 ga /\ t 14 = .int .i64 gb /\ t 51 = .slice (some ⟨gO65, 0, none⟩) nn oc /\ t 52 = .int .i64 (nn : Int) /\ t 53 = .int .i64 (q : Int) /\ w63.heap.size <= wr.heap.size /\ Bun w [rown intEnc 3 1 w.heap.size vl lg, rown intEnc 3 1 w.heap.size (.slice (some ⟨gO65, 0, none⟩) nn oc) so, rbox w.heap.size 54 #[.int .i64 (n : Int), .slice (some ⟨x68, o69, none⟩) ls.length cL], rsl lgEnc 5 lo hi (.slice (some ⟨x68, o69, none⟩) ls.length cL) ls, rgrp w6.heap.size n m] wr) ?first4 ?rest4
      case rest4 =>
       rintro t wr ⟨u_, e1, e2, e3, e6, e12, e13, e14, e51, e52, e53, hrel⟩
       have e := rgLk4112 t
       (try dsimp only at e)
       rw [e1, e2, e3, e6, e12, e13, e14, e51, e52, e53] at e
       rw [e]
       clear e e1 e2 e3 e6 e12 e13 e14 e51 e52 e53
       obtain ⟨hs74, hF73⟩ := hrel
       clear hF61
       obtain ⟨w75, rfl⟩ : ∃ x_ : World, x_ = wr := ⟨_, rfl⟩
       by_cases c76 : ga = gb
       ·
        obtain ⟨c76a, c76b⟩ := bqt c76
        have c76H := lhd c76
        clear c76
        go_wp2_with fail
        (first | refine ⟨by kernel_rfl, ?_, ?_⟩ | refine ⟨rfl, ?_, ?_⟩ | refine ⟨?_, ?_⟩)
        · rw [HI60.out]; exact ⟨q + 1, _, _, _, _, by (iterate 6 refine ⟨by kernel_rfl, ?_⟩); exact ⟨(by show Value.int .i64 ((q : Int) + 1) = _; simp), (by omega), (lhd (by rw [HFS.out, hst.out, stpK_no HZI.out HGA.out (HGB.out.trans c76H.out.symm)])), HML, (by omega), (by omega), (by first | rfl | simp), (by first | omega | (simp; done) | (simp; omega)), hF73⟩⟩
        · simp [slot, intOf]; omega
       obtain ⟨c76a, c76b⟩ := bqf c76
       have c76H := lhd c76
       clear c76
       obtain ⟨cnt81, rr, w77, hr78, F79, hs80⟩ := (hF73.front 4 rfl rfl).grpRangeE
       (try simp at hr78 hs80)
       clear hF73
       go_wp2_with fail
       clear hr78
       go_wp2_with fail
       go_wp2_with fail
       obtain ⟨HI82_, HI820⟩ : ∃ I : Nat -> RelT, I = (fun K t ds wr => ∃ (mm : List Int) (S : Int -> Bool), t 1 = .pointer (some ⟨w.heap.size, 0, none⟩) /\ t 2 = vl /\ t 3 = .int .i64 c /\ t 6 = .map (some w6.heap.size) /\ t 12 = .int .i64 (i : Int) /\ t 13 = .int .i64 ga /\ t 14 = .int .i64 gb /\ t 51 = .slice (some ⟨gO65, 0, none⟩) nn oc /\ t 52 = .int .i64 (nn : Int) /\ t 53 = .int .i64 (q : Int) /\ t 77 = .pointer (some ⟨rr, 0, none⟩) /\ Hid (RngOk m ga gb mm S) /\ ds = [] /\ w77.heap.size <= wr.heap.size /\ Bun w [rgng w6.heap.size rr n mm S K, rown intEnc 3 1 w.heap.size vl lg, rown intEnc 3 1 w.heap.size (.slice (some ⟨gO65, 0, none⟩) nn oc) so, rbox w.heap.size 54 #[.int .i64 (n : Int), .slice (some ⟨x68, o69, none⟩) ls.length cL], rsl lgEnc 5 lo hi (.slice (some ⟨x68, o69, none⟩) ls.length cL) ls] wr) := ⟨_, rfl⟩
       have HI82 := lhd HI820
       clear HI820
       refine wp_loopG 112 rfl HI82_ cnt81 ?atG83 ?roG83
       case roG83 =>
        intro K t ds wr hHid
        rw [HI82.out] at hHid
        obtain ⟨mm, S, e1, e2, e3, e6, e12, e13, e14, e51, e52, e53, e77, HRO, rfl, hs85, hF84⟩ := hHid
        clear F79
        have e := rgLk4112 t
        (try dsimp only at e)
        rw [e1, e2, e3, e6, e12, e13, e14, e51, e52, e53, e77] at e
        rw [e]
        clear e e1 e2 e3 e6 e12 e13 e14 e51 e52 e53 e77
        obtain ⟨w86, rfl⟩ : ∃ x_ : World, x_ = wr := ⟨_, rfl⟩
        have hml_ : mm.length <= 1000 := by have h_ := HRO.out.1; have h2_ := HML.out; omega
        rcases hF84.gngNext hml_ with ⟨hd87, hr88⟩ | ⟨x, c2, w2_, K2, hS_, hm_, hr88, F89, hK2, hs2_, hen_⟩
        ·
         have HMM : Hid (mm = mrgL m ga gb) := lhd (HRO.out.done hd87)
         clear hd87
         have F90 := hF84.gngOff
         rw [HMM.out] at F90
         clear hF84
         go_wp2_with fail
         clear hr88
         have hw91 : IntKind.i64.wrap (c + z.cost) = c + z.cost := IntWalk.i64_in _ (by omega)
         replace F90 := F90.drew
         refine ru_begin (fun W => W.cell? ⟨w.heap.size, 1, none⟩ = some (.slice (some ⟨x68, o69, none⟩) ls.length cL) /\ W.cell? ⟨x68, o69 + i * 5 + 4, none⟩ = some (.int .i64 z.cost)) 13 (by kernel_rfl) ?_ ?_
         · exact ⟨F90.q 3 1, (Sl.cells (F90.at 4 rfl) hz70.out 4 _ rfl)⟩
         obtain ⟨wd94, hwd_⟩ : ∃ x : World, w86.drew = x := ⟨_, rfl⟩
         rw [hwd_] at F90 ⊢
         have wd94s : w86.heap.size <= wd94.heap.size := by rw [← hwd_]; exact Nat.le_refl _
         clear hwd_
         have hS93 := (And.intro (F90.q 3 1) ((Sl.cells (F90.at 4 rfl) hz70.out 4 _ rfl)))
         refine ru_t 0 [] ?_
         refine ru_t 1 [] ?_
         refine ru_t 4 [] ?_
         refine ru_t 5 [] ?_
         refine ru_t 6 [] ?_
         refine ru_t 7 [] ?_
         refine ru_t 8 [] ?_
         refine ru_t 9 [] ?_
         refine ru_t 10 [] ?_
         refine ru_t 11 [] ?_
         (try simp only [lpX])
         clear hS93
         refine ru_o 2 fun K hK => ?_
         go_simp
         replace F90 := F90.new 3 #[.int .i64 (i : Int)] (n := wd94.heap.size) (by simp)
         refine ru_back hK (by exact ⟨F90.q 4 1, (Sl.cells (F90.at 5 rfl) hz70.out 4 _ rfl)⟩) (fun _ => ?_)
         clear hK K
         (try simp only [lpX])
         refine ru_o 3 fun K hK => ?_
         refine step_app _ okInt rfl _ _ rfl w.heap.size vl lg [(i : Int)] rfl (by exact (F90.o 2 rfl)) ⟨_, 0, none⟩ 1 1 rfl rfl (by decide) (news_of (F90.b 0 rfl)) (lg.length + 1) (by simp) (by omega) (by first | omega | (simp; omega)) _ rfl ?_
         intro g96 cap97 w98 hp99
         have hp99s := hp99.gb.size
         (try simp at hp99s)
         have F100 := (F90.front 2 rfl rfl).app hp99 (Nat.le_refl _)
         clear F90
         refine ru_back hK (by exact ⟨F100.q 4 1, (Sl.cells (F100.at 5 rfl) hz70.out 4 _ rfl)⟩) (fun _ => ?_)
         clear hK K
         (try simp only [lpX])
         refine ru_p 12 ?_
         (try simp only [lpX])
         refine ru_o 13 fun K hK => ?_
         go_simp
         refine ru_back_late hK (by kernel_rfl) ?_
         clear hK K
         (try simp only [lpX])
         refine ru_done (by kernel_rfl) ?_
         (try clear hw91)
         have Fn_ := (F100.drop 1 rfl)
         (try dsimp only [lpF, lpG] at Fn_)
         obtain ⟨w101, hx102, F104, hxs103⟩ := Fn_.name
         (try simp at hxs103)
         rw [hx102]
         clear hx102 F100 Fn_
         go_wp2_with fail
         have F105 : Bun w [rown intEnc 3 1 w.heap.size (.slice (some ⟨g96, 0, none⟩) (lg.length + 1) cap97) (lg ++ [(i : Int)]), rown intEnc 3 1 w.heap.size (.slice (some ⟨gO65, 0, none⟩) nn oc) so, rbox w.heap.size 54 #[.int .i64 (n : Int), .slice (some ⟨x68, o69, none⟩) ls.length cL], rsl lgEnc 5 lo hi (.slice (some ⟨x68, o69, none⟩) ls.length cL) ls, rgrp w6.heap.size n (mrgL m ga gb)] _ := F104.pick [0, 2, 3, 4, 1] (by decide) rfl
         clear F104
         (first | refine ⟨by kernel_rfl, ?_, ?_⟩ | refine ⟨rfl, ?_, ?_⟩ | refine ⟨?_, ?_⟩)
         · rw [HI60.out]; exact ⟨q + 1, _, _, _, _, by (iterate 6 refine ⟨by kernel_rfl, ?_⟩); exact ⟨(by show Value.int .i64 ((q : Int) + 1) = _; simp), (by omega), (lhd (by rw [HFS.out, hst.out, stpK_yes HZI.out HGA.out HGB.out c76H.out])), (lhd (by rw [mrgL_len]; exact HML.out)), (by simp; omega), (by push_cast; omega), (by first | rfl | simp), (by first | omega | (simp; done) | (simp; omega)), F105⟩⟩
         · simp [slot, intOf]; omega
        have HXS := lhd hS_
        have HXM := lhd hm_
        have hxl : x < mm.length := (List.getElem?_eq_some_iff.1 hm_).1
        clear hS_ hm_ hF84
        have HEN := lhd hen_
        clear hen_
        have he106 := HEN.out
        by_cases c107 : c2 = gb
        ·
         obtain ⟨c107a, c107b⟩ := bqt c107
         have c107H := lhd c107
         clear c107
         have HRO2 := lhd (HRO.out.put HXS.out (by rw [HXM.out, c107H.out]))
         obtain ⟨w108, hr109, F110, hs111⟩ := F89.gngPut (by omega) (by have h_ := HRO.out.1; have h2_ := HML.out; omega) hxl ga
         (try simp at hr109 hs111)
         clear F89
         go_wp2_with fail
         clear hr109
         clear hr88 he106
         go_wp2_with fail
         go_wp2_with fail
         have F112 : Bun w [rgng w6.heap.size rr n (mm.set x ga) (fun z => S z && !decide (z = (x : Int))) K2, rown intEnc 3 1 w.heap.size vl lg, rown intEnc 3 1 w.heap.size (.slice (some ⟨gO65, 0, none⟩) nn oc) so, rbox w.heap.size 54 #[.int .i64 (n : Int), .slice (some ⟨x68, o69, none⟩) ls.length cL], rsl lgEnc 5 lo hi (.slice (some ⟨x68, o69, none⟩) ls.length cL) ls] _ := F110.pick [0, 1, 2, 3, 4] (by decide) rfl
         clear F110
         (first | refine ⟨by kernel_rfl, K2, ?_, ?_⟩ | refine ⟨rfl, K2, ?_, ?_⟩ | refine ⟨K2, ?_, ?_⟩)
         · rw [HI82.out]; exact ⟨_, _, by (iterate 11 refine ⟨by kernel_rfl, ?_⟩); exact ⟨HRO2, rfl, (by first | omega | (simp; omega)), F112⟩⟩
         · omega
        obtain ⟨c107a, c107b⟩ := bqf c107
        have c107H := lhd c107
        clear c107
        have HRO2 := lhd (HRO.out.pass HXS.out HXM.out c107H.out)
        go_wp2_with fail
        clear hr88 he106
        go_wp2_with fail
        have F113 : Bun w [rgng w6.heap.size rr n mm (fun z => S z && !decide (z = (x : Int))) K2, rown intEnc 3 1 w.heap.size vl lg, rown intEnc 3 1 w.heap.size (.slice (some ⟨gO65, 0, none⟩) nn oc) so, rbox w.heap.size 54 #[.int .i64 (n : Int), .slice (some ⟨x68, o69, none⟩) ls.length cL], rsl lgEnc 5 lo hi (.slice (some ⟨x68, o69, none⟩) ls.length cL) ls] _ := F89.pick [0, 1, 2, 3, 4] (by decide) rfl
        clear F89
        (first | refine ⟨by kernel_rfl, K2, ?_, ?_⟩ | refine ⟨rfl, K2, ?_, ?_⟩ | refine ⟨K2, ?_, ?_⟩)
        · rw [HI82.out]; exact ⟨_, _, by (iterate 11 refine ⟨by kernel_rfl, ?_⟩); exact ⟨HRO2, rfl, (by first | omega | (simp; omega)), F113⟩⟩
        · omega
       case atG83 =>
        rw [HI82.out]
        exact ⟨m, _, by (iterate 11 refine ⟨by kernel_rfl, ?_⟩); exact ⟨(lhd (RngOk.start m ga gb)), rfl, Nat.le_refl _, F79⟩⟩
      case first4 =>
       have F114 := hF61.drew
       clear hF61
       refine ru_begin (fun W => W.cell? ⟨w.heap.size, 1, none⟩ = some (.slice (some ⟨x68, o69, none⟩) ls.length cL) /\ W.cell? ⟨x68, o69 + i * 5, none⟩ = some (.int .i64 z.a) /\ W.cell? ⟨x68, o69 + i * 5 + 1, none⟩ = some (.int .i64 z.b)) 17 (by kernel_rfl) ?_ ?_
       · exact ⟨F114.q 2 1, (Sl.cells (F114.at 3 rfl) hz70.out 0 _ rfl), (Sl.cells (F114.at 3 rfl) hz70.out 1 _ rfl)⟩
       obtain ⟨wd116, hwd_⟩ : ∃ x : World, w63.drew = x := ⟨_, rfl⟩
       rw [hwd_] at F114 ⊢
       have wd116s : w63.heap.size <= wd116.heap.size := by rw [← hwd_]; exact Nat.le_refl _
       clear hwd_
       have hS115 := (And.intro (F114.q 2 1) (And.intro ((Sl.cells (F114.at 3 rfl) hz70.out 0 _ rfl)) ((Sl.cells (F114.at 3 rfl) hz70.out 1 _ rfl))))
       refine ru_t 0 [] ?_
       refine ru_t 1 [] ?_
       refine ru_t 2 [] ?_
       refine ru_t 3 [] ?_
       refine ru_t 4 [] ?_
       refine ru_t 5 [] ?_
       refine ru_t 6 [] ?_
       refine ru_t 8 [] ?_
       refine ru_t 9 [] ?_
       refine ru_t 10 [] ?_
       refine ru_t 11 [] ?_
       refine ru_t 12 [] ?_
       refine ru_t 13 [] ?_
       refine ru_t 14 [] ?_
       (try simp only [lpX])
       clear hS115
       refine ru_two 7 15 rfl rfl (by kernel_rfl) ?_ ?_
       ·
        intro K hK
        have hlk_ := GrpMap.lookZ (F114.at 4 rfl : GrpMap _ w6.heap.size n m) (by have h_ := HML.out; omega) (by have h_ := HML.out; omega) HGA.out
        go_simp
        clear hlk_
        refine ru_back hK (by exact ⟨F114.q 2 1, (Sl.cells (F114.at 3 rfl) hz70.out 0 _ rfl), (Sl.cells (F114.at 3 rfl) hz70.out 1 _ rfl)⟩) (fun _ => ?_)
        clear hK K
        (try simp only [lpX])
        refine ru_p 16 ?_
        (try simp only [lpX])
        refine ru_o 15 fun K hK => ?_
        have hlk_ := GrpMap.lookZ (F114.at 4 rfl : GrpMap _ w6.heap.size n m) (by have h_ := HML.out; omega) (by have h_ := HML.out; omega) HGB.out
        go_simp
        clear hlk_
        refine ru_back hK (by exact ⟨F114.q 2 1, (Sl.cells (F114.at 3 rfl) hz70.out 0 _ rfl), (Sl.cells (F114.at 3 rfl) hz70.out 1 _ rfl)⟩) (fun _ => ?_)
        clear hK K
        (try simp only [lpX])
        refine ru_o 17 fun K hK => ?_
        go_simp
        refine ru_back_late hK (by kernel_rfl) ?_
        clear hK K
        (try simp only [lpX])
        refine ru_done (by kernel_rfl) ?_
        exact ⟨(by kernel_rfl), rfl, (), by (iterate 10 refine ⟨by kernel_rfl, ?_⟩); exact ⟨(by first | omega | (simp; done) | (simp; omega)), (F114.pick [0, 1, 2, 3, 4] (by decide) rfl)⟩⟩
       intro K hK
       have hlk_ := GrpMap.lookZ (F114.at 4 rfl : GrpMap _ w6.heap.size n m) (by have h_ := HML.out; omega) (by have h_ := HML.out; omega) HGB.out
       go_simp
       clear hlk_
       refine ru_back hK (by exact ⟨F114.q 2 1, (Sl.cells (F114.at 3 rfl) hz70.out 0 _ rfl), (Sl.cells (F114.at 3 rfl) hz70.out 1 _ rfl)⟩) (fun _ => ?_)
       clear hK K
       (try simp only [lpX])
       refine ru_o 7 fun K hK => ?_
       have hlk_ := GrpMap.lookZ (F114.at 4 rfl : GrpMap _ w6.heap.size n m) (by have h_ := HML.out; omega) (by have h_ := HML.out; omega) HGA.out
       go_simp
       clear hlk_
       refine ru_back hK (by exact ⟨F114.q 2 1, (Sl.cells (F114.at 3 rfl) hz70.out 0 _ rfl), (Sl.cells (F114.at 3 rfl) hz70.out 1 _ rfl)⟩) (fun _ => ?_)
       clear hK K
       (try simp only [lpX])
       refine ru_p 16 ?_
       (try simp only [lpX])
       refine ru_o 17 fun K hK => ?_
       go_simp
       refine ru_back_late hK (by kernel_rfl) ?_
       clear hK K
       (try simp only [lpX])
       refine ru_done (by kernel_rfl) ?_
       exact ⟨(by kernel_rfl), rfl, (), by (iterate 10 refine ⟨by kernel_rfl, ?_⟩); exact ⟨(by first | omega | (simp; done) | (simp; omega)), (F114.pick [0, 1, 2, 3, 4] (by decide) rfl)⟩⟩
     have c64H := lhd c64
     have c64a := dec_f c64
     have HF : Hid (lnkF n ls = (m, lg, c)) := lhd (by have h_ := hst.out; rw [List.take_of_length_le (by have h2_ := HSN.out; omega)] at h_; rw [lnkF, HOE.out]; exact h_)
     obtain ⟨oaL, ocL, e_⟩ := (Own.sl (hF61.o 0 rfl) (fun _ => rfl)).any
     subst e_
     by_cases c117 : (lg.length : Int) = (n : Int) - 1
     ·
      obtain ⟨c117a, c117b⟩ := bqt c117
      have c117H := lhd c117
      clear c117
      have b118 := hF61.bx2 2 rfl
      go_wp2_with fail
      clear b118
      have Fn_ := hF61
      (try dsimp only [lpF, lpG] at Fn_)
      obtain ⟨w119, hx120, F122, hxs121⟩ := Fn_.name
      (try simp at hxs121)
      rw [hx120]
      clear hx120 hF61 Fn_
      have F123 : Bun w [rown intEnc 3 1 w.heap.size (.slice oaL lg.length ocL) lg, rown intEnc 3 1 w.heap.size (.slice oa nn oc) so, rbox w.heap.size 54 #[.int .i64 (n : Int), .slice aL ls.length cL], rsl lgEnc 5 lo hi (.slice aL ls.length cL) ls, rgrp w6.heap.size n m] _ := F122.pick [0, 1, 2, 3, 4] (by decide) rfl
      clear F122
      refine (sort_c w w.heap.size ocL lg.length oaL lg [rown intEnc 3 1 w.heap.size (.slice oa nn oc) so, rbox w.heap.size 54 #[.int .i64 (n : Int), .slice aL ls.length cL], rsl lgEnc 5 lo hi (.slice aL ls.length cL) ls, rgrp w6.heap.size n m] _ (Bun.hide (K := [rown intEnc 3 1 w.heap.size (.slice oaL lg.length ocL) lg]) (l := [rown intEnc 3 1 w.heap.size (.slice oa nn oc) so, rbox w.heap.size 54 #[.int .i64 (n : Int), .slice aL ls.length cL], rsl lgEnc 5 lo hi (.slice aL ls.length cL) ls, rgrp w6.heap.size n m]) F123) rfl (by omega)).mono ?_
      rintro e w125 ⟨rfl, Fr_⟩
      have F124 : Bun w [rown intEnc 3 1 w.heap.size (.slice oaL lg.length ocL) (sortI lg), rown intEnc 3 1 w.heap.size (.slice oa nn oc) so, rbox w.heap.size 54 #[.int .i64 (n : Int), .slice aL ls.length cL], rsl lgEnc 5 lo hi (.slice aL ls.length cL) ls, rgrp w6.heap.size n m] w125 := Bun.show (K := []) (l := [rown intEnc 3 1 w.heap.size (.slice oa nn oc) so, rbox w.heap.size 54 #[.int .i64 (n : Int), .slice aL ls.length cL], rsl lgEnc 5 lo hi (.slice aL ls.length cL) ls, rgrp w6.heap.size n m]) (N := [rown intEnc 3 1 w.heap.size (.slice oaL lg.length ocL) (sortI lg)]) (F123.drop 0 rfl : Bun w [rown intEnc 3 1 w.heap.size (.slice oa nn oc) so, rbox w.heap.size 54 #[.int .i64 (n : Int), .slice aL ls.length cL], rsl lgEnc 5 lo hi (.slice aL ls.length cL) ls, rgrp w6.heap.size n m] _) Fr_ rfl
      clear Fr_
      (try clear F123)
      have hwsF124 := F124.gb.size
      go_wp2_with fail
      exact bodyPost_ret (v := .tuple #[.slice oaL lg.length ocL, .int .i64 c, .int .i64 0]) (by simp [results, Tryz.results27, go_sem]) rfl ((LinkR.yes c8H.out HF.out (by have h_ := c117H.out; omega) (F124.o 0 rfl) F124.gb))
     obtain ⟨c117a, c117b⟩ := bqf c117
     have c117H := lhd c117
     clear c117
     have b126 := hF61.bx2 2 rfl
     go_wp2_with fail
     clear b126
     exact bodyPost_ret (v := .tuple #[.slice none 0 0, .int .i64 0, .int .i64 7]) (by simp [results, Tryz.results27, go_sem]) rfl ((LinkR.no (lnkE_few c8H.out HF.out (by have h_ := c117H.out; omega)) (by decide) hF61.gb))
    case atStart3 =>
     rw [HI60.out]
     exact ⟨0, _, [], 0, _, (by kernel_rfl), rfl, rfl, (by kernel_rfl), (by kernel_rfl), (by kernel_rfl), rfl, Nat.zero_le _, (lhd rfl), (lhd (natL_len n)), Nat.le_refl _, (by omega), rfl, (by first | exact Nat.le_refl _ | omega | (simp; done) | (simp; omega)), F57⟩
   case atStart2 =>
    rw [HI22.out]
    exact ⟨0, _, (by kernel_rfl), (by kernel_rfl), (by kernel_rfl), (by kernel_rfl), rfl, (by kernel_rfl), (by kernel_rfl), rfl, Nat.zero_le _, rfl, (by first | exact Nat.le_refl _ | omega | (simp; done) | (simp; omega)), F20⟩
  case atStart1 =>
   rw [HI11.out]
   exact ⟨0, by (iterate 5 refine ⟨by kernel_rfl, ?_⟩); exact ⟨rfl, Nat.zero_le _, rfl, (by first | exact Nat.le_refl _ | omega | (simp; done) | (simp; omega)), F1⟩⟩
 obtain ⟨c8a, c8b⟩ := bqf c8
 have c8H := lhd c8
 clear c8
 go_wp2_with fail
 exact bodyPost_ret (v := .tuple #[.slice none 0 0, .int .i64 0, .int .i64 (netErr (n : Int) ls)]) (by simp [results, Tryz.results27, go_sem]) rfl ((LinkR.no (lnkE_net c8H.out) c8H.out F1.gb))
end Go.Proofs.YtcoldeolmleeiaaGreat
