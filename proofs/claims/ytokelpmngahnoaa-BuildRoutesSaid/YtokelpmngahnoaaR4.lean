/- build: BuildRoutes walked. -/
import Derived.Test.YtokelpmngahnoaaL0
import Derived.Test.YtokelpmngahnoaaR1
import Derived.Test.YtokelpmngahnoaaR3
import Derived.Test.YtokelpmngahnoaaPR3
import Derived.Test.YtokelpmngahnoaaN6
import Derived.Test.YtokelpmngahnoaaW2
set_option linter.unusedVariables false
set_option linter.unusedSimpArgs false
set_option linter.unnecessarySimpa false
namespace Go.Proofs.Ytokelpmngahnoaa
open Go.RowKit
set_option maxRecDepth 100000
attribute [local go_sem] Oper.semAt_some
theorem detour_r (lo hi : Nat) (v : Value) (ls : List Lg) (n : Nat) (x d : Int) (mp ms : FM) (path : List Int) (f g : Nat → Int) (su pe : Int) (w : World) (hl : Sl lgEnc 5 lo hi w v ls) (h2 : hi ≤ w.heap.size) (hnet : netErr n ls = 0) (hx : 0 ≤ x ∧ x < n) (hd : 0 ≤ d ∧ d < n) (hr : RtOk ls n x d mp ms path f g) (hsu : perF ms x = su) (hpe : perF mp x = pe) :
    Calls Try.prog 34 #[.agg #[.int .i64 (n : Int), v], .int .i64 x, .int .i64 d] w (DetR path su pe 0 w) := by
  subst hsu hpe
  have hb := (netOk hnet).1
  exact detour_c lo hi v ls n x d (n + 1) (n + 1) mp ms path w hl h2 hnet hx hd (by omega) (by omega) hr.dp hr.ds hr.pt hr.pn

set_option maxHeartbeats 64000000 in
theorem routes_walk (vn : Value) (zs : List Int) (w : World) (hn : Sl intEnc 1 0 w.heap.size w vn zs) :
    Calls Try.prog 7 #[vn] w (Ret (.bool true) w) := by
  have F1 : Bun w [] w := Bun.nil _
  obtain ⟨na, nc, rfl⟩ := hn.any
  have hm_nums := hn.len
  unfold maxLen at hm_nums
  have F2 := F1.sl0 hn (Nat.le_refl _) rfl
  clear F1
  go_enter Try.func7, Try.ntmps7
  go_wp2_with fail
  refine (newSeed_c 0 w.heap.size _ zs _ (F2.at 0 rfl : Sl intEnc 1 0 w.heap.size _ (.slice na zs.length nc) zs)).mono ?_
  rintro e w5 ⟨sb, rfl, hsb, hsbs, hg3⟩
  have hsbl := hsbs.lt
  have hg3s := hg3.size
  (try simp at hg3s)
  have F6 := F2.add (rseed sb) hg3 (hsbs) (fun g e => by cases e; exact ⟨hsb, hsbs.lt⟩)
  clear F2
  clear hg3
  go_wp2_with fail
  refine (netOf_c sb 9 _ (F6.at 0 rfl : SeedAt _ sb) (by omega)).mono ?_
  rintro e w9 ⟨n, ls, aN, cN, loN, hiN, rfl, ⟨hxN, hyN⟩, hzN, ⟨hneN, hn1N, hn2N⟩, hs8, hg7⟩
  have HNE := Lib.hid hneN
  have HLG : Hid (∀ l ∈ ls, LgOk (n : Int) l) := Lib.hid (netOk hneN).2.2
  have hlsl := (netOk hneN).2.1
  clear hneN
  have hg7s := hg7.size
  (try simp at hg7s)
  have F10 := F6.seedAdd (rsl lgEnc 5 loN hiN (.slice aN ls.length cN) ls) hg7 hs8 (hzN) (fun g e => ⟨Nat.le_trans hxN e.1, Nat.lt_of_lt_of_le e.2 hyN⟩)
  clear F6
  clear hg7
  go_wp2_with fail
  have F17 := F10.new 67 #[.int .i64 (n : Int), .slice aN ls.length cN] (n := w9.heap.size) (by simp)
  clear F10
  obtain ⟨w18, hx19, F21, hxs20⟩ := (show Bun w [rbox w9.heap.size 67 #[.int .i64 (n : Int), .slice aN ls.length cN], rsl lgEnc 5 loN hiN (.slice aN ls.length cN) ls, rseed sb, rsl intEnc 1 0 w.heap.size (.slice na zs.length nc) zs] _ from F17).name
  (try simp at hxs20)
  rw [hx19]
  clear hx19 F17
  have F22 := F21.drew
  clear F21
  refine ru_begin (fun W => W.cell? ⟨w9.heap.size, 0, none⟩ = some (.int .i64 (n : Int))) 9 (by kernel_rfl) ?_ ?_
  · exact F22.cl 0 0 rfl rfl
  obtain ⟨wd24, hwd_⟩ : ∃ x : World, w18.drew = x := ⟨_, rfl⟩
  rw [hwd_] at F22 ⊢
  have wd24s : w18.heap.size ≤ wd24.heap.size := by rw [← hwd_]; exact Nat.le_refl _
  clear hwd_
  have hS23 := (F22.cl 0 0 rfl rfl)
  refine ru_t 0 [] ?_
  refine ru_t 1 [] ?_
  refine ru_t 2 [] ?_
  refine ru_t 4 [] ?_
  refine ru_t 5 [] ?_
  refine ru_t 6 [] ?_
  (try simp only [Act.put, List.setIfInBounds_toArray, List.set_cons_zero, List.set_cons_succ])
  clear hS23
  refine ru_one 3 rfl (by kernel_rfl) (fun K hK => ?_)
  go_simp
  refine (below_c sb (n : Int) _ (F22.at 2 rfl : SeedAt _ sb) (by omega) (by omega)).mono ?_
  rintro e w29 ⟨r25, rfl, hr26, hs28, hg27⟩
  unfold belowR at hr26
  have hg27s := hg27.size
  (try simp at hg27s)
  have F30 := F22.seedAt 2 rfl hg27 hs28
  clear F22
  refine ru_back hK (by exact F30.cl 0 0 rfl rfl) (fun hHeld => ?_)
  clear hK K
  (try simp only [Act.put, List.setIfInBounds_toArray, List.set_cons_zero, List.set_cons_succ])
  refine ru_one 7 rfl (by kernel_rfl) (fun K hK => ?_)
  go_simp
  refine (below_c sb (n : Int) _ (F30.at 2 rfl : SeedAt _ sb) (by omega) (by omega)).mono ?_
  rintro e w35 ⟨r31, rfl, hr32, hs34, hg33⟩
  unfold belowR at hr32
  have hg33s := hg33.size
  (try simp at hg33s)
  have F36 := F30.seedAt 2 rfl hg33 hs34
  clear F30
  refine ru_back hK (by exact F36.cl 0 0 rfl rfl) (fun hHeld => ?_)
  clear hK K
  (try simp only [Act.put, List.setIfInBounds_toArray, List.set_cons_zero, List.set_cons_succ])
  refine ru_p 8 ?_
  (try simp only [Act.put, List.setIfInBounds_toArray, List.set_cons_zero, List.set_cons_succ])
  refine ru_one 9 rfl (by kernel_rfl) (fun K hK => ?_)
  go_simp
  refine ru_back_late hK (by kernel_rfl) ?_
  clear hK K
  (try simp only [Act.put, List.setIfInBounds_toArray, List.set_cons_zero, List.set_cons_succ])
  refine ru_done (by kernel_rfl) ?_
  obtain ⟨w37, hx38, F40, hxs39⟩ := (show Bun w [rbox w9.heap.size 67 #[.int .i64 (n : Int), .slice aN ls.length cN], rsl lgEnc 5 loN hiN (.slice aN ls.length cN) ls, rseed sb, rsl intEnc 1 0 w.heap.size (.slice na zs.length nc) zs] _ from F36).name
  (try simp at hxs39)
  rw [hx38]
  clear hx38 F36
  have b41 := F40.bx2 0 rfl
  go_wp2_with fail
  clear b41
  obtain ⟨w42, hx43, F45, hxs44⟩ := F40.name
  (try simp at hxs44)
  rw [hx43]
  clear hx43 F40
  have hfb : 0 ≤ r25 ∧ r25 < (n : Int) := by omega
  have htb : 0 ≤ r31 ∧ r31 < (n : Int) := by omega
  obtain ⟨mp, ms, path, f, g, hrt_⟩ := rtOk_of HLG.out (by omega) htb hfb
  have HRT := Lib.hid hrt_
  clear hrt_
  obtain ⟨su, h_⟩ : ∃ x_, perF ms r25 = x_ := ⟨_, rfl⟩
  have HSU := Lib.hid h_
  clear h_
  obtain ⟨pe, h_⟩ : ∃ x_, perF mp r25 = x_ := ⟨_, rfl⟩
  have HPE := Lib.hid h_
  clear h_
  refine (detour_r _ _ _ ls n r25 r31 mp ms path f g su pe _ (F45.at 1 rfl : Sl lgEnc 5 loN hiN _ (.slice aN ls.length cN) ls) (by first | omega | (simp; omega)) HNE.out hfb htb HRT.out HSU.out HPE.out).mono ?_
  rintro e w48 ⟨aD, cD, loD, hiD, rfl, ⟨hxD, hyD⟩, hzD, hg46⟩
  have hg46s := hg46.size
  (try simp at hg46s)
  have F49 := F45.add (rsl intEnc 1 loD hiD (.slice aD path.length cD) path) hg46 (hzD) (fun g e => ⟨Nat.le_trans hxD e.1, Nat.lt_of_lt_of_le e.2 hyD⟩)
  clear F45
  clear hg46
  have b50 := F49.bx2 1 rfl
  go_wp2_with fail
  clear b50
  obtain ⟨w51, hx52, F54, hxs53⟩ := (show Bun w [rsl intEnc 1 loD hiD (.slice aD path.length cD) path, rbox w9.heap.size 67 #[.int .i64 (n : Int), .slice aN ls.length cN], rsl lgEnc 5 loN hiN (.slice aN ls.length cN) ls, rseed sb, rsl intEnc 1 0 w.heap.size (.slice na zs.length nc) zs] _ from F49).name
  (try simp at hxs53)
  rw [hx52]
  clear hx52 F49
  refine (lengthst_c _ _ _ ls n _ (F54.at 2 rfl : Sl lgEnc 5 loN hiN _ (.slice aN ls.length cN) ls) (by first | omega | (simp; omega)) HLG.out (by omega)).mono ?_
  rintro e w55 ⟨bS, gsS, rfl, hB56⟩
  have hB56s := hB56.gb.size
  (try simp at hB56s)
  have F57 := F54.joinV (L2 := [rmat w51.heap.size bS n gsS (lenM ls useS n)]) hB56 (List.forall_mem_cons.2 ⟨fun g hx => ((hB56.ltAt 0 rfl g hx).2 rfl), fun _ h => by cases h⟩)
  clear F54
  clear hB56
  (try dsimp only [List.cons_append, List.nil_append] at F57)
  have hgl_ : gsS.length = n := by have h_ := ((F57.at 0 rfl : MatP w51.heap.size bS n gsS (lenM ls useS n) _)).lenM; rw [(lenM_ok (u := useS) HLG.out).1.1] at h_; exact h_.symm
  obtain ⟨gS, h_⟩ : ∃ g_, gsS[r25.toNat]? = some g_ := ⟨_, List.getElem?_eq_getElem (by omega)⟩
  have HGS := Lib.hid h_
  clear h_ hgl_
  have HSHS := Lib.hid (lenM_ok (u := useS) HLG.out).1
  (skip)
  have b58 := F57.bx2 2 rfl
  have ge59 : World.cell? _ ⟨bS, r25.toNat, none⟩ = some (.slice (some ⟨gS, 0, none⟩) n n) := (MatP.o (F57.at 0 rfl : MatP w51.heap.size bS n gsS (lenM ls useS n) _) HGS.out)
  have gl60 := cell_lt ge59
  have ge61 : World.cell? _ ⟨gS, r31.toNat, none⟩ = some (.int .i64 su) := (MatP.c (F57.at 0 rfl : MatP w51.heap.size bS n gsS (lenM ls useS n) _) HGS.out (Shp.at (i := r25.toNat) HSHS.out (by omega)) ((Shp.cell (i := r25.toNat) (j := r31.toNat) HSHS.out (by omega) (by omega)).trans (by rw [← HRT.out.es, HSU.out])))
  have gl62 := cell_lt ge61
  go_wp2_with fail
  clear b58 ge59 gl60 ge61 gl62
  obtain ⟨w63, hx64, F66, hxs65⟩ := (show Bun w [rmat w51.heap.size bS n gsS (lenM ls useS n), rsl intEnc 1 loD hiD (.slice aD path.length cD) path, rbox w9.heap.size 67 #[.int .i64 (n : Int), .slice aN ls.length cN], rsl lgEnc 5 loN hiN (.slice aN ls.length cN) ls, rseed sb, rsl intEnc 1 0 w.heap.size (.slice na zs.length nc) zs] _ from F57).name
  (try simp at hxs65)
  rw [hx64]
  clear hx64 F57
  refine (lengthsf_c _ _ _ ls n _ (F66.at 3 rfl : Sl lgEnc 5 loN hiN _ (.slice aN ls.length cN) ls) (by first | omega | (simp; omega)) HLG.out (by omega)).mono ?_
  rintro e w67 ⟨bP, gsP, rfl, hB68⟩
  have hB68s := hB68.gb.size
  (try simp at hB68s)
  have F69 := F66.joinV (L2 := [rmat w63.heap.size bP n gsP (lenM ls useP n)]) hB68 (List.forall_mem_cons.2 ⟨fun g hx => ((hB68.ltAt 0 rfl g hx).2 rfl), fun _ h => by cases h⟩)
  clear F66
  clear hB68
  (try dsimp only [List.cons_append, List.nil_append] at F69)
  have hgl_ : gsP.length = n := by have h_ := ((F69.at 0 rfl : MatP w63.heap.size bP n gsP (lenM ls useP n) _)).lenM; rw [(lenM_ok (u := useP) HLG.out).1.1] at h_; exact h_.symm
  obtain ⟨gP, h_⟩ : ∃ g_, gsP[r25.toNat]? = some g_ := ⟨_, List.getElem?_eq_getElem (by omega)⟩
  have HGP := Lib.hid h_
  clear h_ hgl_
  have HSHP := Lib.hid (lenM_ok (u := useP) HLG.out).1
  (skip)
  by_cases c70 : 0 ≤ su
  · skip
    have c70H := Lib.hid c70
    have hpe_ : 0 ≤ pe ∧ pe ≤ su := by have h_ := HRT.out.le (by rw [HSU.out]; exact c70); rw [HSU.out, HPE.out] at h_; exact h_
    have HPK := Lib.hid (HRT.out.ok (by rw [HSU.out]; exact c70))
    rw [HSU.out] at HPK
    have kn71 : ¬ (pe < 0) := (by omega)
    have kn71H := Lib.hid kn71
    have kn71a : decide (pe < 0) = false := dec_f kn71
    have kn72 : ¬ (su < pe) := (by omega)
    have kn72H := Lib.hid kn72
    have kn72a : decide (su < pe) = false := dec_f kn72
    have kn73 : ¬ (su < 0) := (by omega)
    have kn73H := Lib.hid kn73
    have kn73a : decide (su < 0) = false := dec_f kn73
    have ge74 : World.cell? _ ⟨bP, r25.toNat, none⟩ = some (.slice (some ⟨gP, 0, none⟩) n n) := (MatP.o (F69.at 0 rfl : MatP w63.heap.size bP n gsP (lenM ls useP n) _) HGP.out)
    have gl75 := cell_lt ge74
    have ge76 : World.cell? _ ⟨gP, r31.toNat, none⟩ = some (.int .i64 pe) := (MatP.c (F69.at 0 rfl : MatP w63.heap.size bP n gsP (lenM ls useP n) _) HGP.out (Shp.at (i := r25.toNat) HSHP.out (by omega)) ((Shp.cell (i := r25.toNat) (j := r31.toNat) HSHP.out (by omega) (by omega)).trans (by rw [← HRT.out.ep, HPE.out])))
    have gl77 := cell_lt ge76
    go_wp2_with fail
    clear ge74 gl75 ge76 gl77
    obtain ⟨HI78_, HI780⟩ : ∃ I : (Nat → Value) → List Deferred → World → Prop, I = (fun t ds wr => ∃ (k : Nat), t 4 = .pointer (some ⟨w9.heap.size, 0, none⟩) ∧ t 6 = .int .i64 r31 ∧ t 7 = .slice aD path.length cD ∧ t 8 = .int .i64 su ∧ t 11 = .int .i64 (f k) ∧ t 12 = .int .i64 (g k) ∧ t 13 = .int .i64 (k : Int) ∧ k ≤ path.length ∧ ds = [] ∧ w67.heap.size ≤ wr.heap.size ∧ Bun w [rmat w63.heap.size bP n gsP (lenM ls useP n), rmat w51.heap.size bS n gsS (lenM ls useS n), rsl intEnc 1 loD hiD (.slice aD path.length cD) path, rbox w9.heap.size 67 #[.int .i64 (n : Int), .slice aN ls.length cN], rsl lgEnc 5 loN hiN (.slice aN ls.length cN) ls, rseed sb, rsl intEnc 1 0 w.heap.size (.slice na zs.length nc) zs] wr) := ⟨_, rfl⟩
    have HI78 := Lib.hid HI780
    clear HI780
    refine wp_loopS 151 rfl HI78_ (fun t wr => path.length - (intOf (t 13)).toNat) ?atStart1 ?round1
    case round1 =>
      intro t ds wr hHid
      rw [HI78.out] at hHid
      obtain ⟨k, e4, e6, e7, e8, e11, e12, e13, hrel⟩ := hHid
      have e : ((List.range 151).map t).toArray = #[t 0, t 1, t 2, t 3, t 4, t 5, t 6, t 7, t 8, t 9, t 10, t 11, t 12, t 13, t 14, t 15, t 16, t 17, t 18, t 19, t 20, t 21, t 22, t 23, t 24, t 25, t 26, t 27, t 28, t 29, t 30, t 31, t 32, t 33, t 34, t 35, t 36, t 37, t 38, t 39, t 40, t 41, t 42, t 43, t 44, t 45, t 46, t 47, t 48, t 49, t 50, t 51, t 52, t 53, t 54, t 55, t 56, t 57, t 58, t 59, t 60, t 61, t 62, t 63, t 64, t 65, t 66, t 67, t 68, t 69, t 70, t 71, t 72, t 73, t 74, t 75, t 76, t 77, t 78, t 79, t 80, t 81, t 82, t 83, t 84, t 85, t 86, t 87, t 88, t 89, t 90, t 91, t 92, t 93, t 94, t 95, t 96, t 97, t 98, t 99, t 100, t 101, t 102, t 103, t 104, t 105, t 106, t 107, t 108, t 109, t 110, t 111, t 112, t 113, t 114, t 115, t 116, t 117, t 118, t 119, t 120, t 121, t 122, t 123, t 124, t 125, t 126, t 127, t 128, t 129, t 130, t 131, t 132, t 133, t 134, t 135, t 136, t 137, t 138, t 139, t 140, t 141, t 142, t 143, t 144, t 145, t 146, t 147, t 148, t 149, t 150] := rfl
      (try dsimp only at e)
      rw [e4, e6, e7, e8, e11, e12, e13] at e
      rw [e]
      simp only [e13]
      clear e e4 e6 e7 e8 e11 e12 e13
      obtain ⟨hk, rfl, hs80, hF79⟩ := hrel
      clear F69
      obtain ⟨w81, rfl⟩ : ∃ x_ : World, x_ = wr := ⟨_, rfl⟩
      by_cases c82 : (k : Int) < (path.length : Int)
      · skip
        have c82H := Lib.hid c82
        have hm_pt := (hF79.at 2 rfl : Sl intEnc 1 loD hiD _ (.slice aD path.length cD) path).len
        unfold maxLen at hm_pt
        obtain ⟨x83, o84, e_⟩ := Sl.addr (hF79.at 2 rfl : Sl intEnc 1 loD hiD _ (.slice aD path.length cD) path) (by omega)
        subst e_
        obtain ⟨x85, o86, e_⟩ := Sl.addr (hF79.at 4 rfl : Sl lgEnc 5 loN hiN _ (.slice aN ls.length cN) ls) (by have h_ := HPK.out.leg k _ (List.getElem?_eq_getElem (by omega)); obtain ⟨l_, h1_, h2_, _⟩ := h_; have h3_ := (List.getElem?_eq_some_iff.1 h2_).1; omega)
        subst e_
        obtain ⟨pi, hz87_⟩ : ∃ z_, path[k]? = some z_ := ⟨_, List.getElem?_eq_getElem (by omega)⟩
        have hz87 := Lib.hid hz87_
        clear hz87_
        obtain ⟨l, hl1_, hl2_, hl3_, hl4_, hl5_, hl6_⟩ := HPK.out.leg k pi hz87.out
        have HL2 := Lib.hid hl2_
        have HL5 := Lib.hid hl5_
        have HL6 := Lib.hid hl6_
        have hpil := (List.getElem?_eq_some_iff.1 hl2_).1
        have hpi2 : pi < (ls.length : Int) := by omega
        have HLZ := Lib.hid (HLG.out l (List.mem_of_getElem? hl2_))
        have hla := HLZ.out.a
        have hlb := HLZ.out.b
        have hll := HLZ.out.long
        have hfk := HPK.out.fb k
        have hgk := HPK.out.gb k
        have hgk2 := HPK.out.gb (k + 1)
        rw [hl6_] at hgk2
        have HL4 := Lib.hid hl4_
        have kn88 : ¬ (pi < 0) := (by omega)
        have kn88H := Lib.hid kn88
        have kn88a : decide (pi < 0) = false := dec_f kn88
        have kn89 : ¬ ((ls.length : Int) ≤ pi) := (by omega)
        have kn89H := Lib.hid kn89
        have kn89a : decide ((ls.length : Int) ≤ pi) = false := dec_f kn89
        have kn90 : l.op = 1 := hl3_
        have kn90H := Lib.hid kn90
        have kn90a : (l.op == 1) = true := beq_t kn90
        have kn90b : (l.op != 1) = false := bne_f kn90
        clear kn90
        clear hl2_ hl3_ hl4_ hl5_ hl6_
        have hz91 : Hid (ls[pi.toNat]? = some l) := Lib.hid (HL2.out)
        go_wp2_with fail
        have b92 := hF79.bx2 3 rfl
        have ge93 : World.cell? _ ⟨x83, o84 + k, none⟩ = some (.int .i64 pi) := (by have h_ := ((hF79.at 2 rfl : Sl intEnc 1 loD hiD _ (.slice (some ⟨x83, o84, none⟩) path.length cD) path)).cells hz87.out 0 _ rfl; simpa using h_)
        go_quiet (fail)
        clear b92 ge93
        have F94 := hF79.drewN nq
        clear hF79
        obtain ⟨w95, hx96, F98, hxs97⟩ := (show Bun w [rmat w63.heap.size bP n gsP (lenM ls useP n), rmat w51.heap.size bS n gsS (lenM ls useS n), rsl intEnc 1 loD hiD (.slice (some ⟨x83, o84, none⟩) path.length cD) path, rbox w9.heap.size 67 #[.int .i64 (n : Int), .slice (some ⟨x85, o86, none⟩) ls.length cN], rsl lgEnc 5 loN hiN (.slice (some ⟨x85, o86, none⟩) ls.length cN) ls, rseed sb, rsl intEnc 1 0 w.heap.size (.slice na zs.length nc) zs] _ from F94).name
        (try simp at hxs97)
        rw [hx96]
        clear hx96 F94
        go_wp2_with fail
        have F99 := F98.drew
        clear F98
        refine ru_begin (fun W => W.cell? ⟨w9.heap.size, 1, none⟩ = some (.slice (some ⟨x85, o86, none⟩) ls.length cN) ∧ W.cell? ⟨x83, o84 + k, none⟩ = some (.int .i64 pi) ∧ W.cell? ⟨x85, o86 + (pi.toNat) * 5, none⟩ = some (.int .i64 l.a) ∧ W.cell? ⟨x85, o86 + (pi.toNat) * 5 + 1, none⟩ = some (.int .i64 l.b) ∧ W.cell? ⟨x85, o86 + (pi.toNat) * 5 + 2, none⟩ = some (.int .i64 l.long) ∧ W.cell? ⟨x85, o86 + (pi.toNat) * 5 + 3, none⟩ = some (.int .i64 l.op) ∧ W.cell? ⟨x85, o86 + (pi.toNat) * 5 + 4, none⟩ = some (.int .i64 l.cost)) 9 (by kernel_rfl) ?_ ?_
        · exact ⟨F99.cl 3 1 rfl rfl, (by have h_ := ((F99.at 2 rfl : Sl intEnc 1 loD hiD _ (.slice (some ⟨x83, o84, none⟩) path.length cD) path)).cells hz87.out 0 _ rfl; simpa using h_), (((F99.at 4 rfl : Sl lgEnc 5 loN hiN _ (.slice (some ⟨x85, o86, none⟩) ls.length cN) ls)).cells hz91.out 0 _ rfl), (((F99.at 4 rfl : Sl lgEnc 5 loN hiN _ (.slice (some ⟨x85, o86, none⟩) ls.length cN) ls)).cells hz91.out 1 _ rfl), (((F99.at 4 rfl : Sl lgEnc 5 loN hiN _ (.slice (some ⟨x85, o86, none⟩) ls.length cN) ls)).cells hz91.out 2 _ rfl), (((F99.at 4 rfl : Sl lgEnc 5 loN hiN _ (.slice (some ⟨x85, o86, none⟩) ls.length cN) ls)).cells hz91.out 3 _ rfl), (((F99.at 4 rfl : Sl lgEnc 5 loN hiN _ (.slice (some ⟨x85, o86, none⟩) ls.length cN) ls)).cells hz91.out 4 _ rfl)⟩
        obtain ⟨wd101, hwd_⟩ : ∃ x : World, w95.drew = x := ⟨_, rfl⟩
        rw [hwd_] at F99 ⊢
        have wd101s : w95.heap.size ≤ wd101.heap.size := by rw [← hwd_]; exact Nat.le_refl _
        clear hwd_
        have hS100 := (And.intro (F99.cl 3 1 rfl rfl) (And.intro ((by have h_ := ((F99.at 2 rfl : Sl intEnc 1 loD hiD _ (.slice (some ⟨x83, o84, none⟩) path.length cD) path)).cells hz87.out 0 _ rfl; simpa using h_)) (And.intro ((((F99.at 4 rfl : Sl lgEnc 5 loN hiN _ (.slice (some ⟨x85, o86, none⟩) ls.length cN) ls)).cells hz91.out 0 _ rfl)) (And.intro ((((F99.at 4 rfl : Sl lgEnc 5 loN hiN _ (.slice (some ⟨x85, o86, none⟩) ls.length cN) ls)).cells hz91.out 1 _ rfl)) (And.intro ((((F99.at 4 rfl : Sl lgEnc 5 loN hiN _ (.slice (some ⟨x85, o86, none⟩) ls.length cN) ls)).cells hz91.out 2 _ rfl)) (And.intro ((((F99.at 4 rfl : Sl lgEnc 5 loN hiN _ (.slice (some ⟨x85, o86, none⟩) ls.length cN) ls)).cells hz91.out 3 _ rfl)) ((((F99.at 4 rfl : Sl lgEnc 5 loN hiN _ (.slice (some ⟨x85, o86, none⟩) ls.length cN) ls)).cells hz91.out 4 _ rfl))))))))
        refine ru_t 0 [] ?_
        refine ru_t 1 [] ?_
        refine ru_t 2 [] ?_
        refine ru_t 3 [] ?_
        refine ru_t 4 [] ?_
        refine ru_t 5 [] ?_
        refine ru_t 6 [] ?_
        refine ru_t 7 [] ?_
        (try simp only [Act.put, List.setIfInBounds_toArray, List.set_cons_zero, List.set_cons_succ])
        clear hS100
        refine ru_one 8 rfl (by kernel_rfl) (fun K hK => ?_)
        go_simp
        have F102 := F99.new 75 #[.int .i64 0, .int .i64 0, .int .i64 0, .int .i64 0, .int .i64 0] (n := wd101.heap.size) (by simp)
        clear F99
        refine ru_back hK (by exact ⟨F102.cl 4 1 rfl rfl, (by have h_ := ((F102.at 3 rfl : Sl intEnc 1 loD hiD _ (.slice (some ⟨x83, o84, none⟩) path.length cD) path)).cells hz87.out 0 _ rfl; simpa using h_), (((F102.at 5 rfl : Sl lgEnc 5 loN hiN _ (.slice (some ⟨x85, o86, none⟩) ls.length cN) ls)).cells hz91.out 0 _ rfl), (((F102.at 5 rfl : Sl lgEnc 5 loN hiN _ (.slice (some ⟨x85, o86, none⟩) ls.length cN) ls)).cells hz91.out 1 _ rfl), (((F102.at 5 rfl : Sl lgEnc 5 loN hiN _ (.slice (some ⟨x85, o86, none⟩) ls.length cN) ls)).cells hz91.out 2 _ rfl), (((F102.at 5 rfl : Sl lgEnc 5 loN hiN _ (.slice (some ⟨x85, o86, none⟩) ls.length cN) ls)).cells hz91.out 3 _ rfl), (((F102.at 5 rfl : Sl lgEnc 5 loN hiN _ (.slice (some ⟨x85, o86, none⟩) ls.length cN) ls)).cells hz91.out 4 _ rfl)⟩) (fun hHeld => ?_)
        clear hK K
        (try simp only [Act.put, List.setIfInBounds_toArray, List.set_cons_zero, List.set_cons_succ])
        refine ru_one 9 rfl (by kernel_rfl) (fun K hK => ?_)
        obtain ⟨w103, hx104, F106, hxs105⟩ := (show Bun w [rbox wd101.heap.size 75 #[.int .i64 0, .int .i64 0, .int .i64 0, .int .i64 0, .int .i64 0], rmat w63.heap.size bP n gsP (lenM ls useP n), rmat w51.heap.size bS n gsS (lenM ls useS n), rsl intEnc 1 loD hiD (.slice (some ⟨x83, o84, none⟩) path.length cD) path, rbox w9.heap.size 67 #[.int .i64 (n : Int), .slice (some ⟨x85, o86, none⟩) ls.length cN], rsl lgEnc 5 loN hiN (.slice (some ⟨x85, o86, none⟩) ls.length cN) ls, rseed sb, rsl intEnc 1 0 w.heap.size (.slice na zs.length nc) zs] _ from F102).name
        (try simp at hxs105)
        rw [hx104]
        clear hx104 F102
        have kb_ := F106.bx5 0 rfl
        go_simp
        clear kb_
        have F107 := F106.pt5 (.int .i64 l.a) (.int .i64 l.b) (.int .i64 l.long) (.int .i64 l.op) (.int .i64 l.cost)
        clear F106
        refine ru_back_late hK (by kernel_rfl) ?_
        clear hK K
        (try simp only [Act.put, List.setIfInBounds_toArray, List.set_cons_zero, List.set_cons_succ])
        refine ru_done (by kernel_rfl) ?_
        obtain ⟨w108, hx109, F111, hxs110⟩ := (show Bun w [rbox wd101.heap.size 75 #[.int .i64 l.a, .int .i64 l.b, .int .i64 l.long, .int .i64 l.op, .int .i64 l.cost], rmat w63.heap.size bP n gsP (lenM ls useP n), rmat w51.heap.size bS n gsS (lenM ls useS n), rsl intEnc 1 loD hiD (.slice (some ⟨x83, o84, none⟩) path.length cD) path, rbox w9.heap.size 67 #[.int .i64 (n : Int), .slice (some ⟨x85, o86, none⟩) ls.length cN], rsl lgEnc 5 loN hiN (.slice (some ⟨x85, o86, none⟩) ls.length cN) ls, rseed sb, rsl intEnc 1 0 w.heap.size (.slice na zs.length nc) zs] _ from F107).name
        (try simp at hxs110)
        rw [hx109]
        clear hx109 F107
        by_cases c112 : f k = l.a
        · skip
          have c112a : ((f k) == l.a) = true := beq_t c112
          have c112b : ((f k) != l.a) = false := bne_f c112
          have c112H := Lib.hid c112
          clear c112
          have b116 := F111.bx5 0 rfl
          go_wp2_with fail
          clear b116
          have b120 := F111.bx5 0 rfl
          have hw117 : IntKind.i64.wrap (l.a + l.b) = l.a + l.b := IntWalk.i64_in _ (by omega)
          have hw118 : IntKind.i64.wrap (l.a + l.b - (f k)) = l.a + l.b - (f k) := IntWalk.i64_in _ (by omega)
          have hw119 : IntKind.i64.wrap (g k + l.long) = g k + l.long := IntWalk.i64_in _ (by omega)
          go_quiet (fail)
          clear b120 hw117 hw118 hw119
          have F121 := F111.drewN nq
          clear F111
          obtain ⟨w122, hx123, F125, hxs124⟩ := (show Bun w [rmat w63.heap.size bP n gsP (lenM ls useP n), rmat w51.heap.size bS n gsS (lenM ls useS n), rsl intEnc 1 loD hiD (.slice (some ⟨x83, o84, none⟩) path.length cD) path, rbox w9.heap.size 67 #[.int .i64 (n : Int), .slice (some ⟨x85, o86, none⟩) ls.length cN], rsl lgEnc 5 loN hiN (.slice (some ⟨x85, o86, none⟩) ls.length cN) ls, rseed sb, rsl intEnc 1 0 w.heap.size (.slice na zs.length nc) zs] _ from (F121.drop 0 rfl)).name
          (try simp at hxs124)
          rw [hx123]
          clear hx123 F121
          go_wp2_with fail
          (first | refine ⟨by kernel_rfl, ?_, ?_⟩ | refine ⟨rfl, ?_, ?_⟩ | refine ⟨?_, ?_⟩)
          · rw [HI78.out]; exact ⟨k + 1, (by first | kernel_rfl | rfl), (by first | kernel_rfl | rfl), (by first | kernel_rfl | rfl), (by first | kernel_rfl | rfl), (by rw [HL5.out]; first | kernel_rfl | rfl), (by rw [HL6.out]; first | kernel_rfl | rfl), (by show Value.int .i64 ((k : Int) + 1) = _; simp), (by omega), (by first | rfl | simp), (by first | omega | (simp; done) | (simp; omega)), F125⟩
          · simp [slot, intOf]; omega
        · skip
          have c112a : ((f k) == l.a) = false := beq_f c112
          have c112b : ((f k) != l.a) = true := bne_t c112
          have c112H := Lib.hid c112
          clear c112
          have kn126 : f k = l.b := (HL4.out.resolve_left c112H.out)
          have kn126H := Lib.hid kn126
          have kn126a : ((f k) == l.b) = true := beq_t kn126
          have kn126b : ((f k) != l.b) = false := bne_f kn126
          clear kn126
          have b130 := F111.bx5 0 rfl
          go_wp2_with fail
          clear b130
          have b134 := F111.bx5 0 rfl
          have hw131 : IntKind.i64.wrap (l.a + l.b) = l.a + l.b := IntWalk.i64_in _ (by omega)
          have hw132 : IntKind.i64.wrap (l.a + l.b - (f k)) = l.a + l.b - (f k) := IntWalk.i64_in _ (by omega)
          have hw133 : IntKind.i64.wrap (g k + l.long) = g k + l.long := IntWalk.i64_in _ (by omega)
          go_quiet (fail)
          clear b134 hw131 hw132 hw133
          have F135 := F111.drewN nq
          clear F111
          obtain ⟨w136, hx137, F139, hxs138⟩ := (show Bun w [rmat w63.heap.size bP n gsP (lenM ls useP n), rmat w51.heap.size bS n gsS (lenM ls useS n), rsl intEnc 1 loD hiD (.slice (some ⟨x83, o84, none⟩) path.length cD) path, rbox w9.heap.size 67 #[.int .i64 (n : Int), .slice (some ⟨x85, o86, none⟩) ls.length cN], rsl lgEnc 5 loN hiN (.slice (some ⟨x85, o86, none⟩) ls.length cN) ls, rseed sb, rsl intEnc 1 0 w.heap.size (.slice na zs.length nc) zs] _ from (F135.drop 0 rfl)).name
          (try simp at hxs138)
          rw [hx137]
          clear hx137 F135
          go_wp2_with fail
          (first | refine ⟨by kernel_rfl, ?_, ?_⟩ | refine ⟨rfl, ?_, ?_⟩ | refine ⟨?_, ?_⟩)
          · rw [HI78.out]; exact ⟨k + 1, (by first | kernel_rfl | rfl), (by first | kernel_rfl | rfl), (by first | kernel_rfl | rfl), (by first | kernel_rfl | rfl), (by rw [HL5.out]; first | kernel_rfl | rfl), (by rw [HL6.out]; first | kernel_rfl | rfl), (by show Value.int .i64 ((k : Int) + 1) = _; simp), (by omega), (by first | rfl | simp), (by first | omega | (simp; done) | (simp; omega)), F139⟩
          · simp [slot, intOf]; omega
      · skip
        have c82H := Lib.hid c82
        have c82a : decide ((k : Int) < (path.length : Int)) = false := dec_f c82
        have hke_ : k = path.length := by omega
        have kn140 : f k = r31 := (by rw [hke_]; exact HPK.out.fe)
        have kn140H := Lib.hid kn140
        have kn140a : ((f k) == r31) = true := beq_t kn140
        have kn140b : ((f k) != r31) = false := bne_f kn140
        clear kn140
        have kn141 : g k = su := (by rw [hke_]; exact HPK.out.ge)
        have kn141H := Lib.hid kn141
        have kn141a : ((g k) == su) = true := beq_t kn141
        have kn141b : ((g k) != su) = false := bne_f kn141
        clear kn141
        clear hke_
        by_cases c142 : su < 0
        · skip
          have c142H := Lib.hid c142
          by_cases c143 : (path.length : Int) = 0
          · skip
            have c143a : ((path.length : Int) == 0) = true := beq_t c143
            have c143b : ((path.length : Int) != 0) = false := bne_f c143
            have c143H := Lib.hid c143
            clear c143
            go_wp2_with fail
            refine (awake_c _).mono ?_
            rintro e w146 ⟨rfl, hg144⟩
            have hg144s := hg144.size
            (try simp at hg144s)
            have F147 := hF79.gn hg144
            clear hF79
            clear hg144
            go_wp2_with fail
            go_ret
            exact ⟨rfl, F147.gb⟩
          · skip
            have c143a : ((path.length : Int) == 0) = false := beq_f c143
            have c143b : ((path.length : Int) != 0) = true := bne_t c143
            have c143H := Lib.hid c143
            clear c143
            go_wp2_with fail
            refine (awake_c _).mono ?_
            rintro e w150 ⟨rfl, hg148⟩
            have hg148s := hg148.size
            (try simp at hg148s)
            have F151 := hF79.gn hg148
            clear hF79
            clear hg148
            go_wp2_with fail
            go_ret
            exact ⟨rfl, F151.gb⟩
        · skip
          have c142H := Lib.hid c142
          have c142a : decide (su < 0) = false := dec_f c142
          go_wp2_with fail
          refine (awake_c _).mono ?_
          rintro e w154 ⟨rfl, hg152⟩
          have hg152s := hg152.size
          (try simp at hg152s)
          have F155 := hF79.gn hg152
          clear hF79
          clear hg152
          go_wp2_with fail
          go_ret
          exact ⟨rfl, F155.gb⟩
    case atStart1 =>
      rw [HI78.out]
      exact ⟨0, (by first | kernel_rfl | rfl), (by first | kernel_rfl | rfl), (by first | kernel_rfl | rfl), (by first | kernel_rfl | rfl), (by rw [HPK.out.f0]; first | kernel_rfl | rfl), (by rw [HPK.out.g0]; first | kernel_rfl | rfl), rfl, Nat.zero_le _, rfl, (by first | exact Nat.le_refl _ | omega | (simp; done) | (simp; omega)), F69⟩
  · skip
    have c70H := Lib.hid c70
    have c70a : decide (0 ≤ su) = false := dec_f c70
    have hpn_ : path = [] := HRT.out.no (by rw [HSU.out]; omega)
    have kn156 : su < 0 := (by omega)
    have kn156H := Lib.hid kn156
    have kn156a : decide (su < 0) = true := decide_eq_true kn156
    have kn157 : ¬ (0 < (path.length : Int)) := (by rw [hpn_]; decide)
    have kn157H := Lib.hid kn157
    have kn157a : decide (0 < (path.length : Int)) = false := dec_f kn157
    have kn158 : (path.length : Int) = 0 := (by rw [hpn_]; rfl)
    have kn158H := Lib.hid kn158
    have kn158a : ((path.length : Int) == 0) = true := beq_t kn158
    have kn158b : ((path.length : Int) != 0) = false := bne_f kn158
    clear kn158
    have HPN := Lib.hid hpn_
    clear hpn_
    have ge159 : World.cell? _ ⟨bP, r25.toNat, none⟩ = some (.slice (some ⟨gP, 0, none⟩) n n) := (MatP.o (F69.at 0 rfl : MatP w63.heap.size bP n gsP (lenM ls useP n) _) HGP.out)
    have gl160 := cell_lt ge159
    have ge161 : World.cell? _ ⟨gP, r31.toNat, none⟩ = some (.int .i64 pe) := (MatP.c (F69.at 0 rfl : MatP w63.heap.size bP n gsP (lenM ls useP n) _) HGP.out (Shp.at (i := r25.toNat) HSHP.out (by omega)) ((Shp.cell (i := r25.toNat) (j := r31.toNat) HSHP.out (by omega) (by omega)).trans (by rw [← HRT.out.ep, HPE.out])))
    have gl162 := cell_lt ge161
    go_wp2_with fail
    clear ge159 gl160 ge161 gl162
    refine wp_loop_rounds 2 ?_
    rw [rounds_succ]
    go_wp2_with fail
    refine (awake_c _).mono ?_
    rintro e w165 ⟨rfl, hg163⟩
    have hg163s := hg163.size
    (try simp at hg163s)
    have F166 := F69.gn hg163
    clear F69
    clear hg163
    go_wp2_with fail
    go_ret
    exact ⟨rfl, F166.gb⟩

end Go.Proofs.Ytokelpmngahnoaa
