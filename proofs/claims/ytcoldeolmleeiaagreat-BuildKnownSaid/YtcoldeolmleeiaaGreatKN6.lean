/- build and its reference: detours. -/
import Derived.Test.YtcoldeolmleeiaaGreatKN5
import Derived.Test.YtcoldeolmleeiaaGreatKJ9
set_option linter.unusedVariables false
set_option linter.unusedSimpArgs false
set_option linter.unnecessarySimpa false
namespace Go.Proofs.YtcoldeolmleeiaaGreat
open Go.RowKit
set_option maxRecDepth 100000
attribute [local go_sem] Oper.semAt_some
attribute [local go_sem] run_store_fn
theorem rgN690 (t : Nat -> Value) : ((List.range 90).map t).toArray = #[t 0, t 1, t 2, t 3, t 4, t 5, t 6, t 7, t 8, t 9, t 10, t 11, t 12, t 13, t 14, t 15, t 16, t 17, t 18, t 19, t 20, t 21, t 22, t 23, t 24, t 25, t 26, t 27, t 28, t 29, t 30, t 31, t 32, t 33, t 34, t 35, t 36, t 37, t 38, t 39, t 40, t 41, t 42, t 43, t 44, t 45, t 46, t 47, t 48, t 49, t 50, t 51, t 52, t 53, t 54, t 55, t 56, t 57, t 58, t 59, t 60, t 61, t 62, t 63, t 64, t 65, t 66, t 67, t 68, t 69, t 70, t 71, t 72, t 73, t 74, t 75, t 76, t 77, t 78, t 79, t 80, t 81, t 82, t 83, t 84, t 85, t 86, t 87, t 88, t 89] := rfl
set_option maxHeartbeats 16000000 in
theorem detour_c (lo hi : Nat) (v : Value) (ls : List Lg) (n : Nat) (from_ to : Int) (K0 K1 : Nat) (mp ms : FM) (path : List Int) (w : World) (hl : Sl lgEnc 5 lo hi w v ls) (h2 : hi <= w.heap.size) (hnet : netErr n ls = 0) (hfrom : 0 <= from_ /\ from_ < n) (hto : 0 <= to /\ to < n) (hK0 : K0 <= 1000) (hK1 : K1 <= 2000) (hdp : dstS ls useP mp K0 true (far0 n to)) (hds : dstS ls useS ms K0 true (far0 n to)) (hpt : (∃ v, fget ms from_ = some v) -> pth ls ms to K1 from_ = some path) (hpn : fget ms from_ = none -> path = []) :
  Calls Tryz.prog 14 #[.agg #[.int .i64 (n : Int), v], .int .i64 from_, .int .i64 to] w (DetR path (perF ms from_) (perF mp from_) 0 w) := by
 have F1 : Bun w [] w := Bun.nil _
 have hm_ls := hl.len
 unfold maxLen at hm_ls
 obtain ⟨aL, cL, rfl⟩ := hl.any
 replace F1 := F1.sl0 hl h2 rfl
 clear hl
 have HNO := lhd hnet
 have hok0 := netOk hnet
 have hlen := hok0.2.1
 have hnn := hok0.1.2
 have HLS : Hid (∀ l ∈ ls, LgOk (n : Int) l) := lhd hok0.2.2
 have HDP := lhd hdp
 have HDS := lhd hds
 have HPT := lhd hpt
 clear hok0 hnet hdp hds hpt
 go_enter Tryz.func14, Tryz.ntmps14
 go_wp2_with fail
 replace F1 := F1.new 54 #[.int .i64 (n : Int), .slice aL ls.length cL] (n := w.heap.size) (by simp)
 refine (checkNet_ok lo hi _ (n : Int) ls _ (F1.s 1 rfl) (Nat.le_trans h2 F1.gb.size) (by omega) HNO.out).mono ?_
 rintro e w6 ⟨rfl, hg4⟩
 have hg4s := hg4.size
 (try simp at hg4s)
 replace F1 := F1.gn hg4
 clear hg4
 have b8 := F1.bx2 0 rfl
 go_wp2_with fail
 clear b8
 refine (within_yes (x := from_) (lo := 0) (hi := (n : Int) - 1) (by omega) _).mono ?_
 rintro e _ ⟨rfl, rfl⟩
 have b9 := F1.bx2 0 rfl
 go_wp2_with fail
 clear b9
 refine (within_yes (x := to) (lo := 0) (hi := (n : Int) - 1) (by omega) _).mono ?_
 rintro e _ ⟨rfl, rfl⟩
 have b10 := F1.bx2 0 rfl
 go_wp2_with fail
 clear b10
 refine (distP_c lo hi _ ls n to K0 mp _ (F1.s 1 rfl) (Nat.le_trans h2 F1.gb.size) HLS.out (by omega) hlen hto hK0 HDP.out).mono ?_
 rintro e w13 ⟨b1, k1, rfl, hbb1, hfm1, ⟨hkk1, hfb1⟩, hg11⟩
 have HFB1 := lhd hfb1
 clear hfb1
 have hg11s := hg11.size
 (try simp at hg11s)
 replace F1 := F1.add (rfar b1 k1 mp) hg11 (hfm1) (fun g e => by cases e; exact ⟨hbb1, hfm1.lt⟩)
 clear hg11
 rcases hm15 : fget mp from_ with _ | ⟨fp1, fq1⟩
 ·
  have HM1 := lhd hm15
  clear hm15
  have b16 := F1.bx2 1 rfl
  have ge17 : _ := FarMap.lookNo (F1.at 0 rfl : FarMap _ b1 k1 mp) (by omega) HM1.out
  go_wp2_with fail
  clear b16 ge17
  replace F1 := F1.new 89 #[.int .i64 0, .int .i64 0] (n := w13.heap.size) (by simp)
  replace F1 := F1.new 95 #[.func (.func 32) #[] #[]] (n := (w13.heap.size + 1)) (by simp)
  refine (distS_c lo hi _ ls n to K0 ms _ (F1.s 4 rfl) (Nat.le_trans h2 F1.gb.size) HLS.out (by omega) hlen hto hK0 HDS.out).mono ?_
  rintro e w22 ⟨b2, k2, rfl, hbb2, hfm2, ⟨hkk2, hfb2⟩, hg20⟩
  have HFB2 := lhd hfb2
  clear hfb2
  have hg20s := hg20.size
  (try simp at hg20s)
  replace F1 := F1.add (rfar b2 k2 ms) hg20 (hfm2) (fun g e => by cases e; exact ⟨hbb2, hfm2.lt⟩)
  clear hg20
  replace F1 := F1.new 91 #[.map (some b2)] (n := w22.heap.size) (by simp)
  rcases hm25 : fget ms from_ with _ | ⟨fp2, fq2⟩
  ·
   have HM2 := lhd hm25
   clear hm25
   have b26 := F1.bx1 0 rfl
   have ge27 : _ := FarMap.lookNo (F1.at 1 rfl : FarMap _ b2 k2 ms) (by omega) HM2.out
   go_wp2_with fail
   clear b26 ge27
   replace F1 := F1.new 89 #[.int .i64 0, .int .i64 0] (n := (w22.heap.size + 1)) (by simp)
   exact bodyPost_ret (v := .tuple #[.slice none 0 0, .int .i64 (-1), .int .i64 (-1), .int .i64 0]) (by simp [results, Tryz.results14, go_sem]) rfl ((by rw [show path = [] from hpn HM2.out]; exact DetR.nil rfl (perF_no HM2.out) (perF_no HM1.out) rfl F1.gb))
  have HM2 := lhd hm25
  clear hm25
  have hmb2 := HFB2.out.2 _ _ _ HM2.out
  have b29 := F1.bx1 0 rfl
  have ge30 : _ := FarMap.look (F1.at 1 rfl : FarMap _ b2 k2 ms) (by omega) HM2.out
  go_wp2_with fail
  clear b29 ge30
  replace F1 := F1.new 89 #[.int .i64 fp2, .int .i64 fq2] (n := (w22.heap.size + 1)) (by simp)
  replace F1 := F1.new 3 #[.int .i64 from_] (n := (w22.heap.size + 2)) (by simp)
  go_wp2_with fail
  replace F1 := F1.nilrow intEnc 3 1
  obtain ⟨HI34_, HI340⟩ : ∃ I : Nat -> RelT, I = (fun K t ds wr => ∃ (x p q : Int) (lp : List Int) (vo : Value) (ga : Nat), t 2 = .int .i64 to /\ t 3 = .pointer (some ⟨w.heap.size, 0, none⟩) /\ t 6 = vo /\ t 7 = .int .i64 fp2 /\ t 8 = .int .i64 (-1) /\ t 13 = .pointer (some ⟨w13.heap.size + 1, 0, none⟩) /\ t 14 = .pointer (some ⟨w22.heap.size, 0, none⟩) /\ t 15 = .pointer (some ⟨w22.heap.size + 1, 0, none⟩) /\ t 17 = .pointer (some ⟨ga, 0, none⟩) /\ Hid (∃ r, pth ls ms to K x = some r /\ path = lp ++ r) /\ Hid (fget ms x = some (p, q)) /\ (K + lp.length <= 2000) /\ ds = [] /\ w22.heap.size <= wr.heap.size /\ Bun w [rown intEnc 3 1 w.heap.size vo lp, rbox ga 3 #[.int .i64 x], rbox (w22.heap.size + 1) 89 #[.int .i64 p, .int .i64 q], rbox w22.heap.size 91 #[.map (some b2)], rfar b2 k2 ms, rbox (w13.heap.size + 1) 95 #[.func (.func 32) #[] #[]], rfar b1 k1 mp, rbox w.heap.size 54 #[.int .i64 (n : Int), .slice aL ls.length cL], rsl lgEnc 5 lo hi (.slice aL ls.length cL) ls] wr) := ⟨_, rfl⟩
  have HI34 := lhd HI340
  clear HI340
  refine wp_loopG 90 rfl HI34_ K1 ?atG35 ?roG35
  case roG35 =>
   intro K t ds wr hHid
   rw [HI34.out] at hHid
   obtain ⟨x, p, q, lp, vo, ga, e2, e3, e6, e7, e8, e13, e14, e15, e17, HPR, HMX, hKl, rfl, hs37, hF36⟩ := hHid
   clear F1
   have e := rgN690 t
   (try dsimp only at e)
   rw [e2, e3, e6, e7, e8, e13, e14, e15, e17] at e
   rw [e]
   clear e e2 e3 e6 e7 e8 e13 e14 e15 e17
   obtain ⟨w38, rfl⟩ : ∃ x_ : World, x_ = wr := ⟨_, rfl⟩
   have hxb := fget_bd HMX.out HFB2.out.1
   have hpqb := HFB2.out.2 _ _ _ HMX.out
   have hgal := (hF36.bx1 1 rfl).2.2
   have hnA2 : ¬ ga = (w22.heap.size + 1) := hF36.neAt 1 2 rfl rfl (by decide) (.inl rfl) _ rfl
   have hnB2 : ¬ (w22.heap.size + 1) = ga := fun e => hnA2 e.symm
   have hnA3 : ¬ ga = w22.heap.size := hF36.neAt 1 3 rfl rfl (by decide) (.inl rfl) _ rfl
   have hnB3 : ¬ w22.heap.size = ga := fun e => hnA3 e.symm
   have hnA5 : ¬ ga = (w13.heap.size + 1) := hF36.neAt 1 5 rfl rfl (by decide) (.inl rfl) _ rfl
   have hnB5 : ¬ (w13.heap.size + 1) = ga := fun e => hnA5 e.symm
   have hnA7 : ¬ ga = w.heap.size := hF36.neAt 1 7 rfl rfl (by decide) (.inl rfl) _ rfl
   have hnB7 : ¬ w.heap.size = ga := fun e => hnA7 e.symm
   by_cases c39 : x = to
   ·
    obtain ⟨c39a, c39b⟩ := bqt c39
    have c39H := lhd c39
    clear c39
    have HPE : Hid (path = lp) := lhd (by obtain ⟨r0, hr0, hpe0⟩ := HPR.out; rw [c39H.out] at hr0; rw [hpe0, pth_end hr0, List.append_nil])
    have b40 := hF36.bx1 1 rfl
    go_wp2_with fail
    clear b40
    exact bodyPost_ret (v := .tuple #[vo, .int .i64 fp2, .int .i64 (-1), .int .i64 0]) (by simp [results, Tryz.results14, go_sem]) rfl ((DetR.own rfl (hF36.o 0 rfl) HPE.out (perF_yes HM2.out) (perF_no HM1.out) rfl hF36.gb))
   obtain ⟨c39a, c39b⟩ := bqf c39
   have c39H := lhd c39
   clear c39
   obtain ⟨r0, hr0, hpe0⟩ := HPR.out
   obtain ⟨K2, i, z, r2, hK2, hfi, hzi, hp2, hr2⟩ := pth_next hr0 c39H.out HMX.out
   obtain ⟨hK2a, hK2b⟩ : K2 + 1 <= K /\ K <= K2 + 1 := ⟨by omega, by omega⟩
   have HFI := lhd hfi
   have HP2 := lhd hp2
   have HPE : Hid (path = (lp ++ [(i : Int)]) ++ r2) := lhd (by rw [hpe0, hr2, List.append_assoc]; rfl)
   have HZI := lhd hzi
   have hil := (List.getElem?_eq_some_iff.1 hzi).1
   obtain ⟨z2, hz2, hh2⟩ := fstL_is (hitF ms x p q) ls 0 i (Int.le_refl _) (by rw [hfi]; omega)
   obtain rfl : z2 = z := by rw [hzi] at hz2; injection hz2 with h_; exact h_.symm
   obtain ⟨p2, q2, hm2⟩ := hit_get hh2
   have HMN := lhd hm2
   have hob := fget_bd hm2 HFB2.out.1
   clear hr0 hpe0 hr2 hK2 hfi hzi hp2 hz2 hh2 hm2
   obtain ⟨x41, o42, e_⟩ := Sl.addr (hF36.s 8 rfl) (by omega)
   subst e_
   have hz43 : Hid (ls[i]? = some z2) := lhd (HZI.out)
   have b44 := hF36.bx1 1 rfl
   have b45 := hF36.bx2 7 rfl
   go_wp2_with fail
   clear b44 b45
   refine (idxf_i lo hi _ ls b2 k2 n ms x p q w22.heap.size ga (w13.heap.size + 1) (w22.heap.size + 1) (i : Int) _ (hF36.s 8 rfl) (Nat.le_trans h2 hF36.gb.size) HLS.out (hF36.at 4 rfl : FarMap _ b2 k2 ms) HFB2.out (by omega) (by omega) (by omega) (by omega) (hF36.b 3 rfl) (hF36.b 1 rfl) (hF36.b 5 rfl) (hF36.b 2 rfl) HFI.out).mono ?_
   rintro e w48 ⟨rfl, hg46⟩
   have hg46s := hg46.size
   (try simp at hg46s)
   have F49 := hF36.gn hg46
   clear hF36
   clear hg46
   go_wp2_with fail
   replace F49 := F49.drew
   refine ru_begin (fun W => W.cell? ⟨w.heap.size, 1, none⟩ = some (.slice (some ⟨x41, o42, none⟩) ls.length cL) /\ W.cell? ⟨x41, o42 + i * 5, none⟩ = some (.int .i64 z2.a) /\ W.cell? ⟨x41, o42 + i * 5 + 1, none⟩ = some (.int .i64 z2.b) /\ W.cell? ⟨x41, o42 + i * 5 + 2, none⟩ = some (.int .i64 z2.long) /\ W.cell? ⟨x41, o42 + i * 5 + 3, none⟩ = some (.int .i64 z2.op) /\ W.cell? ⟨x41, o42 + i * 5 + 4, none⟩ = some (.int .i64 z2.cost) /\ W.cell? ⟨ga, 0, none⟩ = some (.int .i64 x)) 12 (by kernel_rfl) ?_ ?_
   · exact ⟨F49.q 7 1, (Sl.cells (F49.at 8 rfl) hz43.out 0 _ rfl), (Sl.cells (F49.at 8 rfl) hz43.out 1 _ rfl), (Sl.cells (F49.at 8 rfl) hz43.out 2 _ rfl), (Sl.cells (F49.at 8 rfl) hz43.out 3 _ rfl), (Sl.cells (F49.at 8 rfl) hz43.out 4 _ rfl), F49.q 1 0⟩
   obtain ⟨wd52, hwd_⟩ : ∃ x : World, w48.drew = x := ⟨_, rfl⟩
   rw [hwd_] at F49 ⊢
   have wd52s : w48.heap.size <= wd52.heap.size := by rw [← hwd_]; exact Nat.le_refl _
   clear hwd_
   have hS51 := (And.intro (F49.q 7 1) (And.intro ((Sl.cells (F49.at 8 rfl) hz43.out 0 _ rfl)) (And.intro ((Sl.cells (F49.at 8 rfl) hz43.out 1 _ rfl)) (And.intro ((Sl.cells (F49.at 8 rfl) hz43.out 2 _ rfl)) (And.intro ((Sl.cells (F49.at 8 rfl) hz43.out 3 _ rfl)) (And.intro ((Sl.cells (F49.at 8 rfl) hz43.out 4 _ rfl)) (F49.q 1 0)))))))
   refine ru_t 0 [] ?_
   refine ru_t 1 [] ?_
   refine ru_t 4 [] ?_
   refine ru_t 5 [] ?_
   refine ru_t 6 [] ?_
   refine ru_t 7 [] ?_
   refine ru_t 8 [] ?_
   refine ru_t 9 [] ?_
   (try simp only [lpX])
   clear hS51
   refine ru_o 2 fun K hK => ?_
   go_simp
   replace F49 := F49.new 3 #[.int .i64 (i : Int)] (n := wd52.heap.size) (by simp)
   refine ru_back hK (by exact ⟨F49.q 8 1, (Sl.cells (F49.at 9 rfl) hz43.out 0 _ rfl), (Sl.cells (F49.at 9 rfl) hz43.out 1 _ rfl), (Sl.cells (F49.at 9 rfl) hz43.out 2 _ rfl), (Sl.cells (F49.at 9 rfl) hz43.out 3 _ rfl), (Sl.cells (F49.at 9 rfl) hz43.out 4 _ rfl), F49.q 2 0⟩) (fun _ => ?_)
   clear hK K
   (try simp only [lpX])
   refine ru_o 3 fun K hK => ?_
   refine step_app _ okInt rfl _ _ rfl w.heap.size vo lp [(i : Int)] rfl (by exact (F49.o 1 rfl)) ⟨_, 0, none⟩ 1 1 rfl rfl (by decide) (news_of (F49.b 0 rfl)) (lp.length + 1) (by simp) (by omega) (by first | omega | (simp; omega)) _ rfl ?_
   intro g54 cap55 w56 hp57
   have hp57s := hp57.gb.size
   (try simp at hp57s)
   have F58 := (F49.front 1 rfl rfl).app hp57 (Nat.le_refl _)
   clear F49
   refine ru_back hK (by exact ⟨F58.q 8 1, (Sl.cells (F58.at 9 rfl) hz43.out 0 _ rfl), (Sl.cells (F58.at 9 rfl) hz43.out 1 _ rfl), (Sl.cells (F58.at 9 rfl) hz43.out 2 _ rfl), (Sl.cells (F58.at 9 rfl) hz43.out 3 _ rfl), (Sl.cells (F58.at 9 rfl) hz43.out 4 _ rfl), F58.q 2 0⟩) (fun _ => ?_)
   clear hK K
   (try simp only [lpX])
   refine ru_o 10 fun K hK => ?_
   go_simp
   refine (other_c z2 x _).mono ?_
   rintro e w61 ⟨rfl, hg59⟩
   have hg59s := hg59.size
   (try simp at hg59s)
   replace F58 := F58.gn hg59
   refine ru_back hK (by exact ⟨F58.q 8 1, (Sl.cells (F58.at 9 rfl) hz43.out 0 _ rfl), (Sl.cells (F58.at 9 rfl) hz43.out 1 _ rfl), (Sl.cells (F58.at 9 rfl) hz43.out 2 _ rfl), (Sl.cells (F58.at 9 rfl) hz43.out 3 _ rfl), (Sl.cells (F58.at 9 rfl) hz43.out 4 _ rfl), F58.q 2 0⟩) (fun _ => ?_)
   clear hK K
   (try simp only [lpX])
   refine ru_p 11 ?_
   (try simp only [lpX])
   refine ru_o 12 fun K hK => ?_
   have kb_ := F58.bx1 2 rfl
   go_simp
   clear kb_
   have F63 := ((F58.front 2 rfl rfl).set 0 (.int .i64 (oth z2 x))).nf #[.int .i64 (oth z2 x)] rfl
   clear F58
   refine ru_back_late hK (by kernel_rfl) ?_
   clear hK K
   (try simp only [lpX])
   refine ru_done (by kernel_rfl) ?_
   have Fn_ := (F63.drop 2 rfl)
   (try dsimp only [lpF, lpG] at Fn_)
   obtain ⟨w64, hx65, F67, hxs66⟩ := Fn_.name
   (try simp at hxs66)
   rw [hx65]
   clear hx65 F63 Fn_
   have b68 := F67.bx1 0 rfl
   have b69 := F67.bx2 2 rfl
   have b70 := F67.bx1 3 rfl
   have ge71 : _ := FarMap.look1 (F67.at 4 rfl : FarMap _ b2 k2 ms) (by omega) HMN.out
   go_wp2_with fail
   clear b68 b69 b70 ge71
   have F72 := (F67.front 2 rfl rfl).pt2 (.int .i64 p2) (.int .i64 q2)
   clear F67
   replace F72 := F72.new 3 #[.int .i64 (oth z2 x)] (n := w64.heap.size) (by simp)
   go_wp2_with fail
   have Fn_ := (F72.drop 2 rfl)
   (try dsimp only [lpF, lpG] at Fn_)
   obtain ⟨w74, hx75, F77, hxs76⟩ := Fn_.name
   (try simp at hxs76)
   rw [hx75]
   clear hx75 F72 Fn_
   have F78 : Bun w [rown intEnc 3 1 w.heap.size (.slice (some ⟨g54, 0, none⟩) (lp.length + 1) cap55) (lp ++ [(i : Int)]), rbox w64.heap.size 3 #[.int .i64 (oth z2 x)], rbox (w22.heap.size + 1) 89 #[.int .i64 p2, .int .i64 q2], rbox w22.heap.size 91 #[.map (some b2)], rfar b2 k2 ms, rbox (w13.heap.size + 1) 95 #[.func (.func 32) #[] #[]], rfar b1 k1 mp, rbox w.heap.size 54 #[.int .i64 (n : Int), .slice (some ⟨x41, o42, none⟩) ls.length cL], rsl lgEnc 5 lo hi (.slice (some ⟨x41, o42, none⟩) ls.length cL) ls] _ := F77.pick [2, 0, 1, 3, 4, 5, 6, 7, 8] (by decide) rfl
   clear F77
   (first | refine ⟨by kernel_rfl, K2, ?_, ?_⟩ | refine ⟨rfl, K2, ?_, ?_⟩ | refine ⟨K2, ?_, ?_⟩)
   · rw [HI34.out]; exact ⟨_, _, _, _, _, _, by (iterate 9 refine ⟨by kernel_rfl, ?_⟩); exact ⟨(lhd ⟨_, HP2.out, HPE.out⟩), HMN, (by first | omega | (simp; omega)), rfl, (by first | omega | (simp; omega)), F78⟩⟩
   · omega
  case atG35 =>
   rw [HI34.out]
   exact ⟨_, _, _, [], _, _, by (iterate 9 refine ⟨by kernel_rfl, ?_⟩); exact ⟨(lhd ⟨_, HPT.out ⟨_, HM2.out⟩, rfl⟩), HM2, (by simpa using hK1), rfl, (by first | exact Nat.le_refl _ | omega | (simp; done) | (simp; omega)), (F1.drop 6 rfl)⟩⟩
 have HM1 := lhd hm15
 clear hm15
 have hmb1 := HFB1.out.2 _ _ _ HM1.out
 have b79 := F1.bx2 1 rfl
 have ge80 : _ := FarMap.look (F1.at 0 rfl : FarMap _ b1 k1 mp) (by omega) HM1.out
 go_wp2_with fail
 clear b79 ge80
 replace F1 := F1.new 89 #[.int .i64 fp1, .int .i64 fq1] (n := w13.heap.size) (by simp)
 replace F1 := F1.new 95 #[.func (.func 32) #[] #[]] (n := (w13.heap.size + 1)) (by simp)
 refine (distS_c lo hi _ ls n to K0 ms _ (F1.s 4 rfl) (Nat.le_trans h2 F1.gb.size) HLS.out (by omega) hlen hto hK0 HDS.out).mono ?_
 rintro e w85 ⟨b2, k2, rfl, hbb2, hfm2, ⟨hkk2, hfb2⟩, hg83⟩
 have HFB2 := lhd hfb2
 clear hfb2
 have hg83s := hg83.size
 (try simp at hg83s)
 replace F1 := F1.add (rfar b2 k2 ms) hg83 (hfm2) (fun g e => by cases e; exact ⟨hbb2, hfm2.lt⟩)
 clear hg83
 replace F1 := F1.new 91 #[.map (some b2)] (n := w85.heap.size) (by simp)
 rcases hm88 : fget ms from_ with _ | ⟨fp2, fq2⟩
 ·
  have HM2 := lhd hm88
  clear hm88
  have b89 := F1.bx1 0 rfl
  have ge90 : _ := FarMap.lookNo (F1.at 1 rfl : FarMap _ b2 k2 ms) (by omega) HM2.out
  go_wp2_with fail
  clear b89 ge90
  replace F1 := F1.new 89 #[.int .i64 0, .int .i64 0] (n := (w85.heap.size + 1)) (by simp)
  exact bodyPost_ret (v := .tuple #[.slice none 0 0, .int .i64 (-1), .int .i64 fp1, .int .i64 0]) (by simp [results, Tryz.results14, go_sem]) rfl ((by rw [show path = [] from hpn HM2.out]; exact DetR.nil rfl (perF_no HM2.out) (perF_yes HM1.out) rfl F1.gb))
 have HM2 := lhd hm88
 clear hm88
 have hmb2 := HFB2.out.2 _ _ _ HM2.out
 have b92 := F1.bx1 0 rfl
 have ge93 : _ := FarMap.look (F1.at 1 rfl : FarMap _ b2 k2 ms) (by omega) HM2.out
 go_wp2_with fail
 clear b92 ge93
 replace F1 := F1.new 89 #[.int .i64 fp2, .int .i64 fq2] (n := (w85.heap.size + 1)) (by simp)
 replace F1 := F1.new 3 #[.int .i64 from_] (n := (w85.heap.size + 2)) (by simp)
 go_wp2_with fail
 replace F1 := F1.nilrow intEnc 3 1
 obtain ⟨HI97_, HI970⟩ : ∃ I : Nat -> RelT, I = (fun K t ds wr => ∃ (x p q : Int) (lp : List Int) (vo : Value) (ga : Nat), t 2 = .int .i64 to /\ t 3 = .pointer (some ⟨w.heap.size, 0, none⟩) /\ t 6 = vo /\ t 7 = .int .i64 fp2 /\ t 8 = .int .i64 fp1 /\ t 13 = .pointer (some ⟨w13.heap.size + 1, 0, none⟩) /\ t 14 = .pointer (some ⟨w85.heap.size, 0, none⟩) /\ t 15 = .pointer (some ⟨w85.heap.size + 1, 0, none⟩) /\ t 17 = .pointer (some ⟨ga, 0, none⟩) /\ Hid (∃ r, pth ls ms to K x = some r /\ path = lp ++ r) /\ Hid (fget ms x = some (p, q)) /\ (K + lp.length <= 2000) /\ ds = [] /\ w85.heap.size <= wr.heap.size /\ Bun w [rown intEnc 3 1 w.heap.size vo lp, rbox ga 3 #[.int .i64 x], rbox (w85.heap.size + 1) 89 #[.int .i64 p, .int .i64 q], rbox w85.heap.size 91 #[.map (some b2)], rfar b2 k2 ms, rbox (w13.heap.size + 1) 95 #[.func (.func 32) #[] #[]], rfar b1 k1 mp, rbox w.heap.size 54 #[.int .i64 (n : Int), .slice aL ls.length cL], rsl lgEnc 5 lo hi (.slice aL ls.length cL) ls] wr) := ⟨_, rfl⟩
 have HI97 := lhd HI970
 clear HI970
 refine wp_loopG 90 rfl HI97_ K1 ?atG98 ?roG98
 case roG98 =>
  intro K t ds wr hHid
  rw [HI97.out] at hHid
  obtain ⟨x, p, q, lp, vo, ga, e2, e3, e6, e7, e8, e13, e14, e15, e17, HPR, HMX, hKl, rfl, hs100, hF99⟩ := hHid
  clear F1
  have e := rgN690 t
  (try dsimp only at e)
  rw [e2, e3, e6, e7, e8, e13, e14, e15, e17] at e
  rw [e]
  clear e e2 e3 e6 e7 e8 e13 e14 e15 e17
  obtain ⟨w101, rfl⟩ : ∃ x_ : World, x_ = wr := ⟨_, rfl⟩
  have hxb := fget_bd HMX.out HFB2.out.1
  have hpqb := HFB2.out.2 _ _ _ HMX.out
  have hgal := (hF99.bx1 1 rfl).2.2
  have hnA2 : ¬ ga = (w85.heap.size + 1) := hF99.neAt 1 2 rfl rfl (by decide) (.inl rfl) _ rfl
  have hnB2 : ¬ (w85.heap.size + 1) = ga := fun e => hnA2 e.symm
  have hnA3 : ¬ ga = w85.heap.size := hF99.neAt 1 3 rfl rfl (by decide) (.inl rfl) _ rfl
  have hnB3 : ¬ w85.heap.size = ga := fun e => hnA3 e.symm
  have hnA5 : ¬ ga = (w13.heap.size + 1) := hF99.neAt 1 5 rfl rfl (by decide) (.inl rfl) _ rfl
  have hnB5 : ¬ (w13.heap.size + 1) = ga := fun e => hnA5 e.symm
  have hnA7 : ¬ ga = w.heap.size := hF99.neAt 1 7 rfl rfl (by decide) (.inl rfl) _ rfl
  have hnB7 : ¬ w.heap.size = ga := fun e => hnA7 e.symm
  by_cases c102 : x = to
  ·
   obtain ⟨c102a, c102b⟩ := bqt c102
   have c102H := lhd c102
   clear c102
   have HPE : Hid (path = lp) := lhd (by obtain ⟨r0, hr0, hpe0⟩ := HPR.out; rw [c102H.out] at hr0; rw [hpe0, pth_end hr0, List.append_nil])
   have b103 := hF99.bx1 1 rfl
   go_wp2_with fail
   clear b103
   exact bodyPost_ret (v := .tuple #[vo, .int .i64 fp2, .int .i64 fp1, .int .i64 0]) (by simp [results, Tryz.results14, go_sem]) rfl ((DetR.own rfl (hF99.o 0 rfl) HPE.out (perF_yes HM2.out) (perF_yes HM1.out) rfl hF99.gb))
  obtain ⟨c102a, c102b⟩ := bqf c102
  have c102H := lhd c102
  clear c102
  obtain ⟨r0, hr0, hpe0⟩ := HPR.out
  obtain ⟨K2, i, z, r2, hK2, hfi, hzi, hp2, hr2⟩ := pth_next hr0 c102H.out HMX.out
  obtain ⟨hK2a, hK2b⟩ : K2 + 1 <= K /\ K <= K2 + 1 := ⟨by omega, by omega⟩
  have HFI := lhd hfi
  have HP2 := lhd hp2
  have HPE : Hid (path = (lp ++ [(i : Int)]) ++ r2) := lhd (by rw [hpe0, hr2, List.append_assoc]; rfl)
  have HZI := lhd hzi
  have hil := (List.getElem?_eq_some_iff.1 hzi).1
  obtain ⟨z2, hz2, hh2⟩ := fstL_is (hitF ms x p q) ls 0 i (Int.le_refl _) (by rw [hfi]; omega)
  obtain rfl : z2 = z := by rw [hzi] at hz2; injection hz2 with h_; exact h_.symm
  obtain ⟨p2, q2, hm2⟩ := hit_get hh2
  have HMN := lhd hm2
  have hob := fget_bd hm2 HFB2.out.1
  clear hr0 hpe0 hr2 hK2 hfi hzi hp2 hz2 hh2 hm2
  obtain ⟨x104, o105, e_⟩ := Sl.addr (hF99.s 8 rfl) (by omega)
  subst e_
  have hz106 : Hid (ls[i]? = some z2) := lhd (HZI.out)
  have b107 := hF99.bx1 1 rfl
  have b108 := hF99.bx2 7 rfl
  go_wp2_with fail
  clear b107 b108
  refine (idxf_i lo hi _ ls b2 k2 n ms x p q w85.heap.size ga (w13.heap.size + 1) (w85.heap.size + 1) (i : Int) _ (hF99.s 8 rfl) (Nat.le_trans h2 hF99.gb.size) HLS.out (hF99.at 4 rfl : FarMap _ b2 k2 ms) HFB2.out (by omega) (by omega) (by omega) (by omega) (hF99.b 3 rfl) (hF99.b 1 rfl) (hF99.b 5 rfl) (hF99.b 2 rfl) HFI.out).mono ?_
  rintro e w111 ⟨rfl, hg109⟩
  have hg109s := hg109.size
  (try simp at hg109s)
  have F112 := hF99.gn hg109
  clear hF99
  clear hg109
  go_wp2_with fail
  replace F112 := F112.drew
  refine ru_begin (fun W => W.cell? ⟨w.heap.size, 1, none⟩ = some (.slice (some ⟨x104, o105, none⟩) ls.length cL) /\ W.cell? ⟨x104, o105 + i * 5, none⟩ = some (.int .i64 z2.a) /\ W.cell? ⟨x104, o105 + i * 5 + 1, none⟩ = some (.int .i64 z2.b) /\ W.cell? ⟨x104, o105 + i * 5 + 2, none⟩ = some (.int .i64 z2.long) /\ W.cell? ⟨x104, o105 + i * 5 + 3, none⟩ = some (.int .i64 z2.op) /\ W.cell? ⟨x104, o105 + i * 5 + 4, none⟩ = some (.int .i64 z2.cost) /\ W.cell? ⟨ga, 0, none⟩ = some (.int .i64 x)) 12 (by kernel_rfl) ?_ ?_
  · exact ⟨F112.q 7 1, (Sl.cells (F112.at 8 rfl) hz106.out 0 _ rfl), (Sl.cells (F112.at 8 rfl) hz106.out 1 _ rfl), (Sl.cells (F112.at 8 rfl) hz106.out 2 _ rfl), (Sl.cells (F112.at 8 rfl) hz106.out 3 _ rfl), (Sl.cells (F112.at 8 rfl) hz106.out 4 _ rfl), F112.q 1 0⟩
  obtain ⟨wd115, hwd_⟩ : ∃ x : World, w111.drew = x := ⟨_, rfl⟩
  rw [hwd_] at F112 ⊢
  have wd115s : w111.heap.size <= wd115.heap.size := by rw [← hwd_]; exact Nat.le_refl _
  clear hwd_
  have hS114 := (And.intro (F112.q 7 1) (And.intro ((Sl.cells (F112.at 8 rfl) hz106.out 0 _ rfl)) (And.intro ((Sl.cells (F112.at 8 rfl) hz106.out 1 _ rfl)) (And.intro ((Sl.cells (F112.at 8 rfl) hz106.out 2 _ rfl)) (And.intro ((Sl.cells (F112.at 8 rfl) hz106.out 3 _ rfl)) (And.intro ((Sl.cells (F112.at 8 rfl) hz106.out 4 _ rfl)) (F112.q 1 0)))))))
  refine ru_t 0 [] ?_
  refine ru_t 1 [] ?_
  refine ru_t 4 [] ?_
  refine ru_t 5 [] ?_
  refine ru_t 6 [] ?_
  refine ru_t 7 [] ?_
  refine ru_t 8 [] ?_
  refine ru_t 9 [] ?_
  (try simp only [lpX])
  clear hS114
  refine ru_o 2 fun K hK => ?_
  go_simp
  replace F112 := F112.new 3 #[.int .i64 (i : Int)] (n := wd115.heap.size) (by simp)
  refine ru_back hK (by exact ⟨F112.q 8 1, (Sl.cells (F112.at 9 rfl) hz106.out 0 _ rfl), (Sl.cells (F112.at 9 rfl) hz106.out 1 _ rfl), (Sl.cells (F112.at 9 rfl) hz106.out 2 _ rfl), (Sl.cells (F112.at 9 rfl) hz106.out 3 _ rfl), (Sl.cells (F112.at 9 rfl) hz106.out 4 _ rfl), F112.q 2 0⟩) (fun _ => ?_)
  clear hK K
  (try simp only [lpX])
  refine ru_o 3 fun K hK => ?_
  refine step_app _ okInt rfl _ _ rfl w.heap.size vo lp [(i : Int)] rfl (by exact (F112.o 1 rfl)) ⟨_, 0, none⟩ 1 1 rfl rfl (by decide) (news_of (F112.b 0 rfl)) (lp.length + 1) (by simp) (by omega) (by first | omega | (simp; omega)) _ rfl ?_
  intro g117 cap118 w119 hp120
  have hp120s := hp120.gb.size
  (try simp at hp120s)
  have F121 := (F112.front 1 rfl rfl).app hp120 (Nat.le_refl _)
  clear F112
  refine ru_back hK (by exact ⟨F121.q 8 1, (Sl.cells (F121.at 9 rfl) hz106.out 0 _ rfl), (Sl.cells (F121.at 9 rfl) hz106.out 1 _ rfl), (Sl.cells (F121.at 9 rfl) hz106.out 2 _ rfl), (Sl.cells (F121.at 9 rfl) hz106.out 3 _ rfl), (Sl.cells (F121.at 9 rfl) hz106.out 4 _ rfl), F121.q 2 0⟩) (fun _ => ?_)
  clear hK K
  (try simp only [lpX])
  refine ru_o 10 fun K hK => ?_
  go_simp
  refine (other_c z2 x _).mono ?_
  rintro e w124 ⟨rfl, hg122⟩
  have hg122s := hg122.size
  (try simp at hg122s)
  replace F121 := F121.gn hg122
  refine ru_back hK (by exact ⟨F121.q 8 1, (Sl.cells (F121.at 9 rfl) hz106.out 0 _ rfl), (Sl.cells (F121.at 9 rfl) hz106.out 1 _ rfl), (Sl.cells (F121.at 9 rfl) hz106.out 2 _ rfl), (Sl.cells (F121.at 9 rfl) hz106.out 3 _ rfl), (Sl.cells (F121.at 9 rfl) hz106.out 4 _ rfl), F121.q 2 0⟩) (fun _ => ?_)
  clear hK K
  (try simp only [lpX])
  refine ru_p 11 ?_
  (try simp only [lpX])
  refine ru_o 12 fun K hK => ?_
  have kb_ := F121.bx1 2 rfl
  go_simp
  clear kb_
  have F126 := ((F121.front 2 rfl rfl).set 0 (.int .i64 (oth z2 x))).nf #[.int .i64 (oth z2 x)] rfl
  clear F121
  refine ru_back_late hK (by kernel_rfl) ?_
  clear hK K
  (try simp only [lpX])
  refine ru_done (by kernel_rfl) ?_
  have Fn_ := (F126.drop 2 rfl)
  (try dsimp only [lpF, lpG] at Fn_)
  obtain ⟨w127, hx128, F130, hxs129⟩ := Fn_.name
  (try simp at hxs129)
  rw [hx128]
  clear hx128 F126 Fn_
  have b131 := F130.bx1 0 rfl
  have b132 := F130.bx2 2 rfl
  have b133 := F130.bx1 3 rfl
  have ge134 : _ := FarMap.look1 (F130.at 4 rfl : FarMap _ b2 k2 ms) (by omega) HMN.out
  go_wp2_with fail
  clear b131 b132 b133 ge134
  have F135 := (F130.front 2 rfl rfl).pt2 (.int .i64 p2) (.int .i64 q2)
  clear F130
  replace F135 := F135.new 3 #[.int .i64 (oth z2 x)] (n := w127.heap.size) (by simp)
  go_wp2_with fail
  have Fn_ := (F135.drop 2 rfl)
  (try dsimp only [lpF, lpG] at Fn_)
  obtain ⟨w137, hx138, F140, hxs139⟩ := Fn_.name
  (try simp at hxs139)
  rw [hx138]
  clear hx138 F135 Fn_
  have F141 : Bun w [rown intEnc 3 1 w.heap.size (.slice (some ⟨g117, 0, none⟩) (lp.length + 1) cap118) (lp ++ [(i : Int)]), rbox w127.heap.size 3 #[.int .i64 (oth z2 x)], rbox (w85.heap.size + 1) 89 #[.int .i64 p2, .int .i64 q2], rbox w85.heap.size 91 #[.map (some b2)], rfar b2 k2 ms, rbox (w13.heap.size + 1) 95 #[.func (.func 32) #[] #[]], rfar b1 k1 mp, rbox w.heap.size 54 #[.int .i64 (n : Int), .slice (some ⟨x104, o105, none⟩) ls.length cL], rsl lgEnc 5 lo hi (.slice (some ⟨x104, o105, none⟩) ls.length cL) ls] _ := F140.pick [2, 0, 1, 3, 4, 5, 6, 7, 8] (by decide) rfl
  clear F140
  (first | refine ⟨by kernel_rfl, K2, ?_, ?_⟩ | refine ⟨rfl, K2, ?_, ?_⟩ | refine ⟨K2, ?_, ?_⟩)
  · rw [HI97.out]; exact ⟨_, _, _, _, _, _, by (iterate 9 refine ⟨by kernel_rfl, ?_⟩); exact ⟨(lhd ⟨_, HP2.out, HPE.out⟩), HMN, (by first | omega | (simp; omega)), rfl, (by first | omega | (simp; omega)), F141⟩⟩
  · omega
 case atG98 =>
  rw [HI97.out]
  exact ⟨_, _, _, [], _, _, by (iterate 9 refine ⟨by kernel_rfl, ?_⟩); exact ⟨(lhd ⟨_, HPT.out ⟨_, HM2.out⟩, rfl⟩), HM2, (by simpa using hK1), rfl, (by first | exact Nat.le_refl _ | omega | (simp; done) | (simp; omega)), (F1.drop 6 rfl)⟩⟩
end Go.Proofs.YtcoldeolmleeiaaGreat
