/- build: orders are tried where tasks are left. -/
import Derived.Test.YtcoldeolmleeiaaGreatKO3
set_option linter.unusedVariables false
set_option linter.unusedSimpArgs false
set_option linter.unnecessarySimpa false
namespace Go.Proofs.YtcoldeolmleeiaaGreat
open Go.RowKit
set_option maxRecDepth 100000
attribute [local go_sem] Oper.semAt_some
attribute [local go_sem] run_store_fn
theorem rgO470 (t : Nat -> Value) : ((List.range 70).map t).toArray = #[t 0, t 1, t 2, t 3, t 4, t 5, t 6, t 7, t 8, t 9, t 10, t 11, t 12, t 13, t 14, t 15, t 16, t 17, t 18, t 19, t 20, t 21, t 22, t 23, t 24, t 25, t 26, t 27, t 28, t 29, t 30, t 31, t 32, t 33, t 34, t 35, t 36, t 37, t 38, t 39, t 40, t 41, t 42, t 43, t 44, t 45, t 46, t 47, t 48, t 49, t 50, t 51, t 52, t 53, t 54, t 55, t 56, t 57, t 58, t 59, t 60, t 61, t 62, t 63, t 64, t 65, t 66, t 67, t 68, t 69] := rfl
set_option maxHeartbeats 32000000 in
theorem best1_in (w0 : World) (b0 lo hi lo2 hi2 gf go gq gj gd gt : Nat) (aM aT ad : Option Addr) (cM cT cd : Nat) (ms : List Mch) (ts : List Tsk) (dl : List Wea) (LR : List Res) (s : BS) (now : List Nat) (lon hin : Nat) (vn ov : Value) (f : Nat) (w : World) (hB : Bun w0 [rbox gf 4 #[.bool s.found], rbox go 3 #[.int .i64 s.open_], rbox gq 28 #[ov], rown intEnc 3 1 b0 ov (ints s.order), rbox gj 25 #[.slice aM ms.length cM, .slice aT ts.length cT], rbox gd 40 #[.slice ad dl.length cd], rbox gt 112 #[.func (.func 54) #[] #[.pointer (some ⟨gj, 0, none⟩), .pointer (some ⟨gd, 0, none⟩), .pointer (some ⟨gf, 0, none⟩), .pointer (some ⟨go, 0, none⟩), .pointer (some ⟨gq, 0, none⟩), .pointer (some ⟨gt, 0, none⟩)]], rsl intEnc 1 lon hin vn (ints now), rsl weaEnc 6 lo2 hi2 (.slice ad dl.length cd) dl, rafs lo hi ts, rsl tskEnc 8 lo hi (.slice aT ts.length cT) ts, rsl mchEnc 3 lo hi (.slice aM ms.length cM) ms, rall LR] w) (hb0 : b0 <= w0.heap.size) (hop : OrdP ts now) (hok : JobOk ms ts) (hn : dl.length <= 400) (ih : TryP b0 lo hi lo2 hi2 gf go gq gj gd gt aM aT ad cM cT cd ms ts dl f) (hln : now.length + (f + 1) = ts.length) :
  Calls Tryz.prog 54 #[vn, .pointer (some ⟨gj, 0, none⟩), .pointer (some ⟨gd, 0, none⟩), .pointer (some ⟨gf, 0, none⟩), .pointer (some ⟨go, 0, none⟩), .pointer (some ⟨gq, 0, none⟩), .pointer (some ⟨gt, 0, none⟩)] w (fun e w' => ∃ ov' : Value, e = .returned (.tuple #[]) /\ Bun w0 [rbox gf 4 #[.bool (tryS ms ts dl (ords ts (f + 1) now) s).found], rbox go 3 #[.int .i64 ((tryS ms ts dl (ords ts (f + 1) now) s).open_)], rbox gq 28 #[ov'], rown intEnc 3 1 b0 ov' (ints (tryS ms ts dl (ords ts (f + 1) now) s).order), rbox gj 25 #[.slice aM ms.length cM, .slice aT ts.length cT], rbox gd 40 #[.slice ad dl.length cd], rbox gt 112 #[.func (.func 54) #[] #[.pointer (some ⟨gj, 0, none⟩), .pointer (some ⟨gd, 0, none⟩), .pointer (some ⟨gf, 0, none⟩), .pointer (some ⟨go, 0, none⟩), .pointer (some ⟨gq, 0, none⟩), .pointer (some ⟨gt, 0, none⟩)]], rsl intEnc 1 lon hin vn (ints now), rsl weaEnc 6 lo2 hi2 (.slice ad dl.length cd) dl, rafs lo hi ts, rsl tskEnc 8 lo hi (.slice aT ts.length cT) ts, rsl mchEnc 3 lo hi (.slice aM ms.length cM) ms, rall LR] w' /\ w.heap.size <= w'.heap.size) := by
 obtain ⟨aN, cN, rfl⟩ := ((hB.s 7 rfl)).any
 rw [ints_len] at *
 obtain ⟨fb, hfb⟩ : ∃ b_, s.found = b_ := ⟨_, rfl⟩
 rw [hfb] at hB
 have hm_ts := (hB.s 10 rfl).len
 unfold maxLen at hm_ts
 have hnegfgo : ¬ gf = go := hB.neAt 0 1 rfl rfl (by decide) (.inl rfl) gf rfl
 have hnegogf : ¬ go = gf := fun e_ => hnegfgo e_.symm
 have hnegfgq : ¬ gf = gq := hB.neAt 0 2 rfl rfl (by decide) (.inl rfl) gf rfl
 have hnegqgf : ¬ gq = gf := fun e_ => hnegfgq e_.symm
 have hnegogq : ¬ go = gq := hB.neAt 1 2 rfl rfl (by decide) (.inl rfl) go rfl
 have hnegqgo : ¬ gq = go := fun e_ => hnegogq e_.symm
 have hb1_ : b0 <= w.heap.size := Nat.le_trans hb0 hB.gb.size
 have HOK := lhd (And.intro hok hn)
 have HOP := lhd hop
 have hnl : now.length <= ts.length := by omega
 have HLN := lhd hln
 have HFB := lhd hfb
 have hnt := hok.nt
 have hhin := (hB.s 7 rfl).len
 rw [ints_len] at hhin
 clear hok hop hln hfb
 (skip)
 have IH := lhd ih
 clear ih
 have kn1 : ¬ ((now.length : Int) = (ts.length : Int)) := (by have h_ := HLN.out; omega)
 have kn1H := lhd kn1
 obtain ⟨kn1a, kn1b⟩ := bqf kn1
 clear kn1
 have hqD_ : ∀ (h : Decidable (now.length = ts.length)), @decide (now.length = ts.length) h = false := fun _ => decide_eq_false (by have h_ := HLN.out; omega)
 have hnl1_ : now.length + 1 <= ts.length := by have h_ := HLN.out; omega
 have hqT_ : ¬ now.length = ts.length := by have h_ := HLN.out; omega
 have hqB_ : (now.length == ts.length) = false := by rw [beq_eq_false_iff_ne]; have h_ := HLN.out; omega
 go_enter Tryz.func54, Tryz.ntmps54
 have b2 := hB.bx2 4 rfl
 go_wp2_with fail
 clear b2
 go_wp2_with fail
 have F0_ := hB
 rw [← HFB.out] at F0_
 clear hB
 obtain ⟨HI3_, HI30⟩ : ∃ I : RelT, I = (fun t ds wr => ∃ (k : Nat) (sk : BS) (ov1 : Value), t 0 = .slice aN now.length cN /\ t 6 = .pointer (some ⟨gt, 0, none⟩) /\ t 36 = .slice aT ts.length cT /\ t 37 = .int .i64 (ts.length : Int) /\ t 38 = .int .i64 (k : Int) /\ k <= ts.length /\ Hid (tryS ms ts dl (ordK ts f now k) s = sk) /\ ds = [] /\ w.heap.size <= wr.heap.size /\ Bun w0 [rbox gf 4 #[.bool sk.found], rbox go 3 #[.int .i64 sk.open_], rbox gq 28 #[ov1], rown intEnc 3 1 b0 ov1 (ints sk.order), rbox gj 25 #[.slice aM ms.length cM, .slice aT ts.length cT], rbox gd 40 #[.slice ad dl.length cd], rbox gt 112 #[.func (.func 54) #[] #[.pointer (some ⟨gj, 0, none⟩), .pointer (some ⟨gd, 0, none⟩), .pointer (some ⟨gf, 0, none⟩), .pointer (some ⟨go, 0, none⟩), .pointer (some ⟨gq, 0, none⟩), .pointer (some ⟨gt, 0, none⟩)]], rsl intEnc 1 lon hin (.slice aN now.length cN) (ints now), rsl weaEnc 6 lo2 hi2 (.slice ad dl.length cd) dl, rafs lo hi ts, rsl tskEnc 8 lo hi (.slice aT ts.length cT) ts, rsl mchEnc 3 lo hi (.slice aM ms.length cM) ms, rall LR] wr) := ⟨_, rfl⟩
 have HI3 := lhd HI30
 clear HI30
 refine wp_loopS 70 rfl HI3_ (fun t wr => ts.length - (intOf (t 38)).toNat) ?atStart1 ?round1
 case round1 =>
  intro t ds wr hHid
  rw [HI3.out] at hHid
  obtain ⟨k, sk, ov1, e0, e6, e36, e37, e38, hrel⟩ := hHid
  have e := rgO470 t
  (try dsimp only at e)
  rw [e0, e6, e36, e37, e38] at e
  rw [e]
  simp only [e38]
  clear e e0 e6 e36 e37 e38
  obtain ⟨hk_, HSK, rfl, hs5, hF4⟩ := hrel
  clear F0_
  obtain ⟨w6, rfl⟩ : ∃ x_ : World, x_ = wr := ⟨_, rfl⟩
  by_cases c7 : (k : Int) < (ts.length : Int)
  ·
   have c7H := lhd c7
   obtain ⟨x8, o9, e_⟩ := Sl.addr (hF4.s 10 rfl) (by omega)
   subst e_
   obtain ⟨z, hz10_⟩ : ∃ z_, ts[k]? = some z_ := ⟨_, List.getElem?_eq_getElem (by omega)⟩
   have hz10 := lhd hz10_
   clear hz10_
   obtain ⟨a_z, c_z, hav_z, hcap_z, hsl_z⟩ := Afs.open (hF4.at 9 rfl : Afs lo hi _ ts) hz10.out
   have HAV_z := lhd hav_z
   clear hav_z
   have F11 := hF4.more 9 (rsl intEnc 1 lo hi (.slice a_z z.af.length c_z) z.af) rfl rfl rfl (fun _ h_ => h_) hsl_z
   clear hF4
   have hm_z := (F11.s 0 rfl).len
   unfold maxLen at hm_z
   have HZA : Hid (∀ a ∈ z.af, 0 <= a) := lhd (fun a h_ => ((HOK.out.1.to_ k z hz10.out).af a h_).1)
   have HZT : Hid (tk ts k = z) := lhd (tk_get hz10.out)
   have hki : (k : Int) < (ts.length : Int) := by omega
   have ge12 : World.cell? _ ⟨x8, o9 + k * 8, none⟩ = some (.int .i64 z.m) := (Sl.cells (F11.at 11 rfl) hz10.out 0 _ rfl)
   have gl13 := cell_lt ge12
   have ge14 : World.cell? _ ⟨x8, o9 + k * 8 + 1, none⟩ = some (.int .i64 z.ho.lo) := (Sl.cells (F11.at 11 rfl) hz10.out 1 _ rfl)
   have ge15 : World.cell? _ ⟨x8, o9 + k * 8 + 2, none⟩ = some (.int .i64 z.ho.hi) := (Sl.cells (F11.at 11 rfl) hz10.out 2 _ rfl)
   have ge16 : World.cell? _ ⟨x8, o9 + k * 8 + 3, none⟩ = some (.int .i64 z.wa.lo) := (Sl.cells (F11.at 11 rfl) hz10.out 3 _ rfl)
   have ge17 : World.cell? _ ⟨x8, o9 + k * 8 + 4, none⟩ = some (.int .i64 z.wa.hi) := (Sl.cells (F11.at 11 rfl) hz10.out 4 _ rfl)
   have ge18 : World.cell? _ ⟨x8, o9 + k * 8 + 5, none⟩ = some (.int .i64 z.fr.lo) := (Sl.cells (F11.at 11 rfl) hz10.out 5 _ rfl)
   have ge19 : World.cell? _ ⟨x8, o9 + k * 8 + 6, none⟩ = some (.int .i64 z.fr.hi) := (Sl.cells (F11.at 11 rfl) hz10.out 6 _ rfl)
   have ge20 : World.cell? _ ⟨x8, o9 + k * 8 + 7, none⟩ = some (.slice a_z z.af.length c_z) := (HAV_z.out ▸ (Sl.cells (F11.at 11 rfl) hz10.out 7 _ rfl))
   go_wp2_with fail
   clear ge12 gl13 ge14 ge15 ge16 ge17 ge18 ge19 ge20
   replace F11 := F11.new 34 #[.int .i64 z.m, .int .i64 z.ho.lo, .int .i64 z.ho.hi, .int .i64 z.wa.lo, .int .i64 z.wa.hi, .int .i64 z.fr.lo, .int .i64 z.fr.hi, .slice a_z z.af.length c_z] (n := w6.heap.size) (by simp)
   refine (contains_c 0 _ _ (ints now) (k : Int) _ (F11.slY 9 rfl) (Nat.le_refl _)).mono ?_
   rintro e w24 ⟨rfl, hg22⟩
   have hg22s := hg22.size
   (try simp at hg22s)
   replace F11 := F11.gn hg22
   clear hg22
   have b26 := F11.bx8 0 rfl
   go_wp2_with fail
   clear b26
   obtain ⟨HI27_, HI270⟩ : ∃ I : RelT, I = (fun t ds wr => ∃ (j : Nat) (d : Bool), t 0 = .slice aN now.length cN /\ t 6 = .pointer (some ⟨gt, 0, none⟩) /\ t 9 = .int .i64 (k : Int) /\ t 11 = .bool d /\ t 36 = .slice (some ⟨x8, o9, none⟩) ts.length cT /\ t 37 = .int .i64 (ts.length : Int) /\ t 38 = .int .i64 (k : Int) /\ t 48 = .slice a_z z.af.length c_z /\ t 49 = .int .i64 (z.af.length : Int) /\ t 50 = .int .i64 (j : Int) /\ j <= z.af.length /\ Hid (dB now k (z.af.take j) = d) /\ ds = [] /\ w24.heap.size <= wr.heap.size /\ Bun w0 [rsl intEnc 1 lo hi (.slice a_z z.af.length c_z) z.af, rbox gf 4 #[.bool sk.found], rbox go 3 #[.int .i64 sk.open_], rbox gq 28 #[ov1], rown intEnc 3 1 b0 ov1 (ints sk.order), rbox gj 25 #[.slice aM ms.length cM, .slice (some ⟨x8, o9, none⟩) ts.length cT], rbox gd 40 #[.slice ad dl.length cd], rbox gt 112 #[.func (.func 54) #[] #[.pointer (some ⟨gj, 0, none⟩), .pointer (some ⟨gd, 0, none⟩), .pointer (some ⟨gf, 0, none⟩), .pointer (some ⟨go, 0, none⟩), .pointer (some ⟨gq, 0, none⟩), .pointer (some ⟨gt, 0, none⟩)]], rsl intEnc 1 lon hin (.slice aN now.length cN) (ints now), rsl weaEnc 6 lo2 hi2 (.slice ad dl.length cd) dl, rafs lo hi ts, rsl tskEnc 8 lo hi (.slice (some ⟨x8, o9, none⟩) ts.length cT) ts, rsl mchEnc 3 lo hi (.slice aM ms.length cM) ms, rall LR] wr) := ⟨_, rfl⟩
   have HI27 := lhd HI270
   clear HI270
   refine wp_loopS 70 rfl HI27_ (fun t wr => z.af.length - (intOf (t 50)).toNat) ?atStart2 ?round2
   case round2 =>
    intro t ds wr hHid
    rw [HI27.out] at hHid
    obtain ⟨j, d, e0, e6, e9, e11, e36, e37, e38, e48, e49, e50, hrel⟩ := hHid
    have e := rgO470 t
    (try dsimp only at e)
    rw [e0, e6, e9, e11, e36, e37, e38, e48, e49, e50] at e
    rw [e]
    simp only [e50]
    clear e e0 e6 e9 e11 e36 e37 e38 e48 e49 e50
    obtain ⟨hj_, HD, rfl, hs29, hF28⟩ := hrel
    clear F11
    obtain ⟨w30, rfl⟩ : ∃ x_ : World, x_ = wr := ⟨_, rfl⟩
    by_cases c31 : (j : Int) < (z.af.length : Int)
    ·
     have c31H := lhd c31
     obtain ⟨x32, o33, e_⟩ := Sl.addr (hF28.s 0 rfl) (by omega)
     subst e_
     obtain ⟨y, hz34_⟩ : ∃ z_, z.af[j]? = some z_ := ⟨_, List.getElem?_eq_getElem (by omega)⟩
     have hz34 := lhd hz34_
     clear hz34_
     cases c35 : d
     ·
      have c35H := lhd c35
      have ge36 : World.cell? _ ⟨x32, o33 + j, none⟩ = some (.int .i64 y) := (by have h_ := Sl.cells (hF28.at 0 rfl) hz34.out 0 _ rfl; simpa using h_)
      have gl37 := cell_lt ge36
      go_wp2_with fail
      clear ge36 gl37
      (first | refine ⟨by kernel_rfl, ?_, ?_⟩ | refine ⟨rfl, ?_, ?_⟩ | refine ⟨?_, ?_⟩)
      · rw [HI27.out]; exact ⟨j + 1, false, by (iterate 9 refine ⟨by kernel_rfl, ?_⟩); exact ⟨(by show Value.int .i64 ((j : Int) + 1) = _; simp), (by omega), (lhd (by rw [dB_next hz34.out, HD.out, c35H.out]; rfl)), (by first | rfl | simp), (by first | omega | (simp; done) | (simp; omega)), hF28⟩⟩
      · simp [slot, intOf]; omega
     have c35H := lhd c35
     have ge38 : World.cell? _ ⟨x32, o33 + j, none⟩ = some (.int .i64 y) := (by have h_ := Sl.cells (hF28.at 0 rfl) hz34.out 0 _ rfl; simpa using h_)
     have gl39 := cell_lt ge38
     go_wp2_with fail
     clear ge38 gl39
     refine (contains_c 0 _ _ (ints now) y _ (hF28.slY 8 rfl) (Nat.le_refl _)).mono ?_
     rintro e w42 ⟨rfl, hg40⟩
     have hg40s := hg40.size
     (try simp at hg40s)
     have F43 := hF28.gn hg40
     clear hF28
     clear hg40
     go_wp2_with fail
     (first | refine ⟨by kernel_rfl, ?_, ?_⟩ | refine ⟨rfl, ?_, ?_⟩ | refine ⟨?_, ?_⟩)
     · rw [HI27.out]; exact ⟨j + 1, (hasI (ints now) y), by (iterate 9 refine ⟨by kernel_rfl, ?_⟩); exact ⟨(by show Value.int .i64 ((j : Int) + 1) = _; simp), (by omega), (lhd (by rw [dB_next hz34.out, HD.out, c35H.out]; rfl)), (by first | rfl | simp), (by first | omega | (simp; done) | (simp; omega)), F43⟩⟩
     · simp [slot, intOf]; omega
    have c31H := lhd c31
    have c31a := dec_f c31
    have hjz_ : z.af.take j = z.af := List.take_of_length_le (by omega)
    have HEX : Hid (extB ts now k = d) := lhd (by rw [← dB_ext HZT.out HZA.out, ← HD.out, hjz_])
    clear hjz_
    cases c44 : d
    ·
     have c44H := lhd c44
     go_wp2_with fail
     have F45 : Bun w0 [rbox gf 4 #[.bool sk.found], rbox go 3 #[.int .i64 sk.open_], rbox gq 28 #[ov1], rown intEnc 3 1 b0 ov1 (ints sk.order), rbox gj 25 #[.slice aM ms.length cM, .slice (some ⟨x8, o9, none⟩) ts.length cT], rbox gd 40 #[.slice ad dl.length cd], rbox gt 112 #[.func (.func 54) #[] #[.pointer (some ⟨gj, 0, none⟩), .pointer (some ⟨gd, 0, none⟩), .pointer (some ⟨gf, 0, none⟩), .pointer (some ⟨go, 0, none⟩), .pointer (some ⟨gq, 0, none⟩), .pointer (some ⟨gt, 0, none⟩)]], rsl intEnc 1 lon hin (.slice aN now.length cN) (ints now), rsl weaEnc 6 lo2 hi2 (.slice ad dl.length cd) dl, rafs lo hi ts, rsl tskEnc 8 lo hi (.slice (some ⟨x8, o9, none⟩) ts.length cT) ts, rsl mchEnc 3 lo hi (.slice aM ms.length cM) ms, rall LR] _ := hF28.pick [1, 2, 3, 4, 5, 6, 7, 8, 9, 10, 11, 12, 13] (by decide) rfl
     clear hF28
     (first | refine ⟨by kernel_rfl, ?_, ?_⟩ | refine ⟨rfl, ?_, ?_⟩ | refine ⟨?_, ?_⟩)
     · rw [HI3.out]; exact ⟨k + 1, sk, _, (by kernel_rfl), (by kernel_rfl), (by kernel_rfl), (by kernel_rfl), (by show Value.int .i64 ((k : Int) + 1) = _; simp), (by omega), (lhd (by rw [ordK_no (by rw [HEX.out]; exact c44H.out)]; exact HSK.out)), (by first | rfl | simp), (by first | omega | (simp; done) | (simp; omega)), F45⟩
     · simp [slot, intOf]; omega
    have c44H := lhd c44
    go_wp2_with fail
    have F46 := hF28.drew
    clear hF28
    refine ru_begin (fun W => W.cell? ⟨gt, 0, none⟩ = some (.func (.func 54) #[] #[.pointer (some ⟨gj, 0, none⟩), .pointer (some ⟨gd, 0, none⟩), .pointer (some ⟨gf, 0, none⟩), .pointer (some ⟨go, 0, none⟩), .pointer (some ⟨gq, 0, none⟩), .pointer (some ⟨gt, 0, none⟩)])) 6 (by kernel_rfl) ?_ ?_
    · exact F46.q 7 0
    obtain ⟨wd48, hwd_⟩ : ∃ x : World, w30.drew = x := ⟨_, rfl⟩
    rw [hwd_] at F46 ⊢
    have wd48s : w30.heap.size <= wd48.heap.size := by rw [← hwd_]; exact Nat.le_refl _
    clear hwd_
    have hS47 := (F46.q 7 0)
    refine ru_t 0 [] ?_
    refine ru_t 1 [5, 2] ?_
    refine ru_t 3 [5, 4] ?_
    (try simp only [lpX])
    clear hS47
    refine ru_two 2 4 rfl rfl (by kernel_rfl) ?_ ?_
    ·
     intro K hK
     go_simp
     refine (cloneI_c b0 0 _ _ (ints now) _ (F46.slY 8 rfl) (Nat.le_refl _) (by rw [ints_len]; omega) (Nat.le_trans hb0 F46.gb.size)).mono ?_
     rintro e w51 ⟨oc_, cc_, e_, hco_, hcx_, hg49⟩
     rw [ints_len] at e_ hco_ hcx_
     subst e_
     have hg49s := hg49.size
     (try simp at hg49s)
     replace F46 := F46.add (rown intEnc 3 1 b0 (.slice oc_ now.length cc_) (ints now)) hg49 (hco_) (fun g e => hcx_ g e)
     refine ru_back hK (by exact F46.q 8 0) (fun _ => ?_)
     clear hK K
     (try simp only [lpX])
     refine ru_o 4 fun K hK => ?_
     go_simp
     replace F46 := F46.new 3 #[.int .i64 (k : Int)] (n := w51.heap.size) (by simp)
     refine ru_back hK (by exact F46.q 9 0) (fun _ => ?_)
     clear hK K
     (try simp only [lpX])
     refine ru_o 5 fun K hK => ?_
     refine step_app _ okInt rfl _ _ rfl b0 (.slice oc_ now.length cc_) (ints now) [(k : Int)] rfl (by exact (F46.o 1 rfl)) ⟨_, 0, none⟩ 1 1 rfl rfl (by decide) (news_of (F46.b 0 rfl)) (now.length + 1) (by rw [ints_len]) (by omega) (by first | omega | (simp; omega)) _ rfl ?_
     intro g54 cap55 w56 hp57
     have hp57s := hp57.gb.size
     (try simp at hp57s)
     have F58 := (F46.front 1 rfl rfl).app hp57 (Nat.le_refl _)
     clear F46
     refine ru_back hK (by exact F58.q 9 0) (fun _ => ?_)
     clear hK K
     (try simp only [lpX])
     refine ru_o 6 fun K hK => ?_
     go_simp
     replace F58 := F58.ownSl
     have F61 := F58
     rw [show ints now ++ [(k : Int)] = ints (now ++ [k]) by simp [ints]] at F61
     clear F58
     have F62 : Bun w0 [rbox gf 4 #[.bool sk.found], rbox go 3 #[.int .i64 sk.open_], rbox gq 28 #[ov1], rown intEnc 3 1 b0 ov1 (ints sk.order), rbox gj 25 #[.slice aM ms.length cM, .slice (some ⟨x8, o9, none⟩) ts.length cT], rbox gd 40 #[.slice ad dl.length cd], rbox gt 112 #[.func (.func 54) #[] #[.pointer (some ⟨gj, 0, none⟩), .pointer (some ⟨gd, 0, none⟩), .pointer (some ⟨gf, 0, none⟩), .pointer (some ⟨go, 0, none⟩), .pointer (some ⟨gq, 0, none⟩), .pointer (some ⟨gt, 0, none⟩)]], rsl intEnc 1 g54 (g54 + 1) (.slice (some ⟨g54, 0, none⟩) (now.length + 1) cap55) (ints (now ++ [k])), rsl weaEnc 6 lo2 hi2 (.slice ad dl.length cd) dl, rafs lo hi ts, rsl tskEnc 8 lo hi (.slice (some ⟨x8, o9, none⟩) ts.length cT) ts, rsl mchEnc 3 lo hi (.slice aM ms.length cM) ms, rbox w51.heap.size 3 #[.int .i64 (k : Int)], rsl intEnc 1 lo hi (.slice a_z z.af.length c_z) z.af, rsl intEnc 1 lon hin (.slice aN now.length cN) (ints now), rall LR] _ := F61.pick [3, 4, 5, 6, 7, 8, 9, 0, 11, 12, 13, 14, 1, 2, 10, 15] (by decide) rfl
     clear F61
     have Fh_ := Bun.hide (K := [rbox gf 4 #[.bool sk.found], rbox go 3 #[.int .i64 sk.open_], rbox gq 28 #[ov1], rown intEnc 3 1 b0 ov1 (ints sk.order), rbox gj 25 #[.slice aM ms.length cM, .slice (some ⟨x8, o9, none⟩) ts.length cT], rbox gd 40 #[.slice ad dl.length cd], rbox gt 112 #[.func (.func 54) #[] #[.pointer (some ⟨gj, 0, none⟩), .pointer (some ⟨gd, 0, none⟩), .pointer (some ⟨gf, 0, none⟩), .pointer (some ⟨go, 0, none⟩), .pointer (some ⟨gq, 0, none⟩), .pointer (some ⟨gt, 0, none⟩)]], rsl intEnc 1 g54 (g54 + 1) (.slice (some ⟨g54, 0, none⟩) (now.length + 1) cap55) (ints (now ++ [k])), rsl weaEnc 6 lo2 hi2 (.slice ad dl.length cd) dl, rafs lo hi ts, rsl tskEnc 8 lo hi (.slice (some ⟨x8, o9, none⟩) ts.length cT) ts, rsl mchEnc 3 lo hi (.slice aM ms.length cM) ms]) (l := [rbox w51.heap.size 3 #[.int .i64 (k : Int)], rsl intEnc 1 lo hi (.slice a_z z.af.length c_z) z.af, rsl intEnc 1 lon hin (.slice aN now.length cN) (ints now), rall LR]) F62
     have hl0_ : Bun w0 [rsl intEnc 1 g54 (g54 + 1) (.slice (some ⟨g54, 0, none⟩) (now.length + 1) cap55) (ints (now ++ [k])), rsl weaEnc 6 lo2 hi2 (.slice ad dl.length cd) dl, rafs lo hi ts, rsl tskEnc 8 lo hi (.slice (some ⟨x8, o9, none⟩) ts.length cT) ts, rsl mchEnc 3 lo hi (.slice aM ms.length cM) ms, rbox w51.heap.size 3 #[.int .i64 (k : Int)], rsl intEnc 1 lo hi (.slice a_z z.af.length c_z) z.af, rsl intEnc 1 lon hin (.slice aN now.length cN) (ints now), rall LR] _ := F62.pick [7, 8, 9, 10, 11, 12, 13, 14, 15] (by decide) rfl
     refine (IH.out _ _ [rbox w51.heap.size 3 #[.int .i64 (k : Int)], rsl intEnc 1 lo hi (.slice a_z z.af.length c_z) z.af, rsl intEnc 1 lon hin (.slice aN now.length cN) (ints now), rall LR] sk (now ++ [k]) g54 (g54 + 1) _ _ Fh_ hb0 (HOP.out.snoc (by omega) (by rw [HEX.out]; exact c44H.out)) (by have h_ := HLN.out; simp; omega)).mono ?_
     rintro e w63 ⟨ov2, rfl, Fr_, hsz_⟩
     have F64 : Bun w0 [rbox gf 4 #[.bool (tryS ms ts dl (ords ts f (now ++ [k])) sk).found], rbox go 3 #[.int .i64 (tryS ms ts dl (ords ts f (now ++ [k])) sk).open_], rbox gq 28 #[ov2], rown intEnc 3 1 b0 ov2 (ints (tryS ms ts dl (ords ts f (now ++ [k])) sk).order), rbox gj 25 #[.slice aM ms.length cM, .slice (some ⟨x8, o9, none⟩) ts.length cT], rbox gd 40 #[.slice ad dl.length cd], rbox gt 112 #[.func (.func 54) #[] #[.pointer (some ⟨gj, 0, none⟩), .pointer (some ⟨gd, 0, none⟩), .pointer (some ⟨gf, 0, none⟩), .pointer (some ⟨go, 0, none⟩), .pointer (some ⟨gq, 0, none⟩), .pointer (some ⟨gt, 0, none⟩)]], rsl intEnc 1 g54 (g54 + 1) (.slice (some ⟨g54, 0, none⟩) (now.length + 1) cap55) (ints (now ++ [k])), rsl weaEnc 6 lo2 hi2 (.slice ad dl.length cd) dl, rafs lo hi ts, rsl tskEnc 8 lo hi (.slice (some ⟨x8, o9, none⟩) ts.length cT) ts, rsl mchEnc 3 lo hi (.slice aM ms.length cM) ms, rbox w51.heap.size 3 #[.int .i64 (k : Int)], rsl intEnc 1 lo hi (.slice a_z z.af.length c_z) z.af, rsl intEnc 1 lon hin (.slice aN now.length cN) (ints now), rall LR] w63 := Bun.show (K := [rsl intEnc 1 g54 (g54 + 1) (.slice (some ⟨g54, 0, none⟩) (now.length + 1) cap55) (ints (now ++ [k])), rsl weaEnc 6 lo2 hi2 (.slice ad dl.length cd) dl, rafs lo hi ts, rsl tskEnc 8 lo hi (.slice (some ⟨x8, o9, none⟩) ts.length cT) ts, rsl mchEnc 3 lo hi (.slice aM ms.length cM) ms]) (l := [rbox w51.heap.size 3 #[.int .i64 (k : Int)], rsl intEnc 1 lo hi (.slice a_z z.af.length c_z) z.af, rsl intEnc 1 lon hin (.slice aN now.length cN) (ints now), rall LR]) (N := [rbox gf 4 #[.bool (tryS ms ts dl (ords ts f (now ++ [k])) sk).found], rbox go 3 #[.int .i64 (tryS ms ts dl (ords ts f (now ++ [k])) sk).open_], rbox gq 28 #[ov2], rown intEnc 3 1 b0 ov2 (ints (tryS ms ts dl (ords ts f (now ++ [k])) sk).order), rbox gj 25 #[.slice aM ms.length cM, .slice (some ⟨x8, o9, none⟩) ts.length cT], rbox gd 40 #[.slice ad dl.length cd], rbox gt 112 #[.func (.func 54) #[] #[.pointer (some ⟨gj, 0, none⟩), .pointer (some ⟨gd, 0, none⟩), .pointer (some ⟨gf, 0, none⟩), .pointer (some ⟨go, 0, none⟩), .pointer (some ⟨gq, 0, none⟩), .pointer (some ⟨gt, 0, none⟩)]]]) hl0_ Fr_ rfl
     have hwsF64 := hsz_
     clear Fr_ hsz_ Fh_ hl0_ F62
     refine ru_back_late hK (by kernel_rfl) ?_
     clear hK K
     (try simp only [lpX])
     refine ru_done (by kernel_rfl) ?_
     have Fn_ := (F64.drop 12 rfl)
     (try dsimp only [lpF, lpG] at Fn_)
     obtain ⟨w65, hx66, F68, hxs67⟩ := Fn_.name
     (try simp at hxs67)
     rw [hx66]
     clear hx66 F64 Fn_
     go_wp2_with fail
     have F69 : Bun w0 [rbox gf 4 #[.bool (tryS ms ts dl (ords ts f (now ++ [k])) sk).found], rbox go 3 #[.int .i64 (tryS ms ts dl (ords ts f (now ++ [k])) sk).open_], rbox gq 28 #[ov2], rown intEnc 3 1 b0 ov2 (ints (tryS ms ts dl (ords ts f (now ++ [k])) sk).order), rbox gj 25 #[.slice aM ms.length cM, .slice (some ⟨x8, o9, none⟩) ts.length cT], rbox gd 40 #[.slice ad dl.length cd], rbox gt 112 #[.func (.func 54) #[] #[.pointer (some ⟨gj, 0, none⟩), .pointer (some ⟨gd, 0, none⟩), .pointer (some ⟨gf, 0, none⟩), .pointer (some ⟨go, 0, none⟩), .pointer (some ⟨gq, 0, none⟩), .pointer (some ⟨gt, 0, none⟩)]], rsl intEnc 1 lon hin (.slice aN now.length cN) (ints now), rsl weaEnc 6 lo2 hi2 (.slice ad dl.length cd) dl, rafs lo hi ts, rsl tskEnc 8 lo hi (.slice (some ⟨x8, o9, none⟩) ts.length cT) ts, rsl mchEnc 3 lo hi (.slice aM ms.length cM) ms, rall LR] _ := F68.pick [0, 1, 2, 3, 4, 5, 6, 13, 8, 9, 10, 11, 14] (by decide) rfl
     clear F68
     (first | refine ⟨by kernel_rfl, ?_, ?_⟩ | refine ⟨rfl, ?_, ?_⟩ | refine ⟨?_, ?_⟩)
     · rw [HI3.out]; exact ⟨k + 1, (tryS ms ts dl (ords ts f (now ++ [k])) sk), _, (by kernel_rfl), (by kernel_rfl), (by kernel_rfl), (by kernel_rfl), (by show Value.int .i64 ((k : Int) + 1) = _; simp), (by omega), (lhd (by rw [ordK_yes (by rw [HEX.out]; exact c44H.out), tryS_app, HSK.out])), (by first | rfl | simp), (by first | omega | (simp; done) | (simp; omega)), F69⟩
     · simp [slot, intOf]; omega
    intro K hK
    go_simp
    replace F46 := F46.new 3 #[.int .i64 (k : Int)] (n := wd48.heap.size) (by simp)
    refine ru_back hK (by exact F46.q 8 0) (fun _ => ?_)
    clear hK K
    (try simp only [lpX])
    refine ru_o 2 fun K hK => ?_
    go_simp
    refine (cloneI_c b0 0 _ _ (ints now) _ (F46.slY 9 rfl) (Nat.le_refl _) (by rw [ints_len]; omega) (Nat.le_trans hb0 F46.gb.size)).mono ?_
    rintro e w73 ⟨oc_, cc_, e_, hco_, hcx_, hg71⟩
    rw [ints_len] at e_ hco_ hcx_
    subst e_
    have hg71s := hg71.size
    (try simp at hg71s)
    replace F46 := F46.add (rown intEnc 3 1 b0 (.slice oc_ now.length cc_) (ints now)) hg71 (hco_) (fun g e => hcx_ g e)
    refine ru_back hK (by exact F46.q 9 0) (fun _ => ?_)
    clear hK K
    (try simp only [lpX])
    refine ru_o 5 fun K hK => ?_
    refine step_app _ okInt rfl _ _ rfl b0 (.slice oc_ now.length cc_) (ints now) [(k : Int)] rfl (by exact (F46.o 0 rfl)) ⟨_, 0, none⟩ 1 1 rfl rfl (by decide) (news_of (F46.b 1 rfl)) (now.length + 1) (by rw [ints_len]) (by omega) (by first | omega | (simp; omega)) _ rfl ?_
    intro g75 cap76 w77 hp78
    have hp78s := hp78.gb.size
    (try simp at hp78s)
    have F79 := (F46.front 0 rfl rfl).app hp78 (Nat.le_refl _)
    clear F46
    refine ru_back hK (by exact F79.q 9 0) (fun _ => ?_)
    clear hK K
    (try simp only [lpX])
    refine ru_o 6 fun K hK => ?_
    go_simp
    replace F79 := F79.ownSl
    have F82 := F79
    rw [show ints now ++ [(k : Int)] = ints (now ++ [k]) by simp [ints]] at F82
    clear F79
    have F83 : Bun w0 [rbox gf 4 #[.bool sk.found], rbox go 3 #[.int .i64 sk.open_], rbox gq 28 #[ov1], rown intEnc 3 1 b0 ov1 (ints sk.order), rbox gj 25 #[.slice aM ms.length cM, .slice (some ⟨x8, o9, none⟩) ts.length cT], rbox gd 40 #[.slice ad dl.length cd], rbox gt 112 #[.func (.func 54) #[] #[.pointer (some ⟨gj, 0, none⟩), .pointer (some ⟨gd, 0, none⟩), .pointer (some ⟨gf, 0, none⟩), .pointer (some ⟨go, 0, none⟩), .pointer (some ⟨gq, 0, none⟩), .pointer (some ⟨gt, 0, none⟩)]], rsl intEnc 1 g75 (g75 + 1) (.slice (some ⟨g75, 0, none⟩) (now.length + 1) cap76) (ints (now ++ [k])), rsl weaEnc 6 lo2 hi2 (.slice ad dl.length cd) dl, rafs lo hi ts, rsl tskEnc 8 lo hi (.slice (some ⟨x8, o9, none⟩) ts.length cT) ts, rsl mchEnc 3 lo hi (.slice aM ms.length cM) ms, rbox wd48.heap.size 3 #[.int .i64 (k : Int)], rsl intEnc 1 lo hi (.slice a_z z.af.length c_z) z.af, rsl intEnc 1 lon hin (.slice aN now.length cN) (ints now), rall LR] _ := F82.pick [3, 4, 5, 6, 7, 8, 9, 0, 11, 12, 13, 14, 1, 2, 10, 15] (by decide) rfl
    clear F82
    have Fh_ := Bun.hide (K := [rbox gf 4 #[.bool sk.found], rbox go 3 #[.int .i64 sk.open_], rbox gq 28 #[ov1], rown intEnc 3 1 b0 ov1 (ints sk.order), rbox gj 25 #[.slice aM ms.length cM, .slice (some ⟨x8, o9, none⟩) ts.length cT], rbox gd 40 #[.slice ad dl.length cd], rbox gt 112 #[.func (.func 54) #[] #[.pointer (some ⟨gj, 0, none⟩), .pointer (some ⟨gd, 0, none⟩), .pointer (some ⟨gf, 0, none⟩), .pointer (some ⟨go, 0, none⟩), .pointer (some ⟨gq, 0, none⟩), .pointer (some ⟨gt, 0, none⟩)]], rsl intEnc 1 g75 (g75 + 1) (.slice (some ⟨g75, 0, none⟩) (now.length + 1) cap76) (ints (now ++ [k])), rsl weaEnc 6 lo2 hi2 (.slice ad dl.length cd) dl, rafs lo hi ts, rsl tskEnc 8 lo hi (.slice (some ⟨x8, o9, none⟩) ts.length cT) ts, rsl mchEnc 3 lo hi (.slice aM ms.length cM) ms]) (l := [rbox wd48.heap.size 3 #[.int .i64 (k : Int)], rsl intEnc 1 lo hi (.slice a_z z.af.length c_z) z.af, rsl intEnc 1 lon hin (.slice aN now.length cN) (ints now), rall LR]) F83
    have hl0_ : Bun w0 [rsl intEnc 1 g75 (g75 + 1) (.slice (some ⟨g75, 0, none⟩) (now.length + 1) cap76) (ints (now ++ [k])), rsl weaEnc 6 lo2 hi2 (.slice ad dl.length cd) dl, rafs lo hi ts, rsl tskEnc 8 lo hi (.slice (some ⟨x8, o9, none⟩) ts.length cT) ts, rsl mchEnc 3 lo hi (.slice aM ms.length cM) ms, rbox wd48.heap.size 3 #[.int .i64 (k : Int)], rsl intEnc 1 lo hi (.slice a_z z.af.length c_z) z.af, rsl intEnc 1 lon hin (.slice aN now.length cN) (ints now), rall LR] _ := F83.pick [7, 8, 9, 10, 11, 12, 13, 14, 15] (by decide) rfl
    refine (IH.out _ _ [rbox wd48.heap.size 3 #[.int .i64 (k : Int)], rsl intEnc 1 lo hi (.slice a_z z.af.length c_z) z.af, rsl intEnc 1 lon hin (.slice aN now.length cN) (ints now), rall LR] sk (now ++ [k]) g75 (g75 + 1) _ _ Fh_ hb0 (HOP.out.snoc (by omega) (by rw [HEX.out]; exact c44H.out)) (by have h_ := HLN.out; simp; omega)).mono ?_
    rintro e w84 ⟨ov2, rfl, Fr_, hsz_⟩
    have F85 : Bun w0 [rbox gf 4 #[.bool (tryS ms ts dl (ords ts f (now ++ [k])) sk).found], rbox go 3 #[.int .i64 (tryS ms ts dl (ords ts f (now ++ [k])) sk).open_], rbox gq 28 #[ov2], rown intEnc 3 1 b0 ov2 (ints (tryS ms ts dl (ords ts f (now ++ [k])) sk).order), rbox gj 25 #[.slice aM ms.length cM, .slice (some ⟨x8, o9, none⟩) ts.length cT], rbox gd 40 #[.slice ad dl.length cd], rbox gt 112 #[.func (.func 54) #[] #[.pointer (some ⟨gj, 0, none⟩), .pointer (some ⟨gd, 0, none⟩), .pointer (some ⟨gf, 0, none⟩), .pointer (some ⟨go, 0, none⟩), .pointer (some ⟨gq, 0, none⟩), .pointer (some ⟨gt, 0, none⟩)]], rsl intEnc 1 g75 (g75 + 1) (.slice (some ⟨g75, 0, none⟩) (now.length + 1) cap76) (ints (now ++ [k])), rsl weaEnc 6 lo2 hi2 (.slice ad dl.length cd) dl, rafs lo hi ts, rsl tskEnc 8 lo hi (.slice (some ⟨x8, o9, none⟩) ts.length cT) ts, rsl mchEnc 3 lo hi (.slice aM ms.length cM) ms, rbox wd48.heap.size 3 #[.int .i64 (k : Int)], rsl intEnc 1 lo hi (.slice a_z z.af.length c_z) z.af, rsl intEnc 1 lon hin (.slice aN now.length cN) (ints now), rall LR] w84 := Bun.show (K := [rsl intEnc 1 g75 (g75 + 1) (.slice (some ⟨g75, 0, none⟩) (now.length + 1) cap76) (ints (now ++ [k])), rsl weaEnc 6 lo2 hi2 (.slice ad dl.length cd) dl, rafs lo hi ts, rsl tskEnc 8 lo hi (.slice (some ⟨x8, o9, none⟩) ts.length cT) ts, rsl mchEnc 3 lo hi (.slice aM ms.length cM) ms]) (l := [rbox wd48.heap.size 3 #[.int .i64 (k : Int)], rsl intEnc 1 lo hi (.slice a_z z.af.length c_z) z.af, rsl intEnc 1 lon hin (.slice aN now.length cN) (ints now), rall LR]) (N := [rbox gf 4 #[.bool (tryS ms ts dl (ords ts f (now ++ [k])) sk).found], rbox go 3 #[.int .i64 (tryS ms ts dl (ords ts f (now ++ [k])) sk).open_], rbox gq 28 #[ov2], rown intEnc 3 1 b0 ov2 (ints (tryS ms ts dl (ords ts f (now ++ [k])) sk).order), rbox gj 25 #[.slice aM ms.length cM, .slice (some ⟨x8, o9, none⟩) ts.length cT], rbox gd 40 #[.slice ad dl.length cd], rbox gt 112 #[.func (.func 54) #[] #[.pointer (some ⟨gj, 0, none⟩), .pointer (some ⟨gd, 0, none⟩), .pointer (some ⟨gf, 0, none⟩), .pointer (some ⟨go, 0, none⟩), .pointer (some ⟨gq, 0, none⟩), .pointer (some ⟨gt, 0, none⟩)]]]) hl0_ Fr_ rfl
    have hwsF85 := hsz_
    clear Fr_ hsz_ Fh_ hl0_ F83
    refine ru_back_late hK (by kernel_rfl) ?_
    clear hK K
    (try simp only [lpX])
    refine ru_done (by kernel_rfl) ?_
    have Fn_ := (F85.drop 12 rfl)
    (try dsimp only [lpF, lpG] at Fn_)
    obtain ⟨w86, hx87, F89, hxs88⟩ := Fn_.name
    (try simp at hxs88)
    rw [hx87]
    clear hx87 F85 Fn_
    go_wp2_with fail
    have F90 : Bun w0 [rbox gf 4 #[.bool (tryS ms ts dl (ords ts f (now ++ [k])) sk).found], rbox go 3 #[.int .i64 (tryS ms ts dl (ords ts f (now ++ [k])) sk).open_], rbox gq 28 #[ov2], rown intEnc 3 1 b0 ov2 (ints (tryS ms ts dl (ords ts f (now ++ [k])) sk).order), rbox gj 25 #[.slice aM ms.length cM, .slice (some ⟨x8, o9, none⟩) ts.length cT], rbox gd 40 #[.slice ad dl.length cd], rbox gt 112 #[.func (.func 54) #[] #[.pointer (some ⟨gj, 0, none⟩), .pointer (some ⟨gd, 0, none⟩), .pointer (some ⟨gf, 0, none⟩), .pointer (some ⟨go, 0, none⟩), .pointer (some ⟨gq, 0, none⟩), .pointer (some ⟨gt, 0, none⟩)]], rsl intEnc 1 lon hin (.slice aN now.length cN) (ints now), rsl weaEnc 6 lo2 hi2 (.slice ad dl.length cd) dl, rafs lo hi ts, rsl tskEnc 8 lo hi (.slice (some ⟨x8, o9, none⟩) ts.length cT) ts, rsl mchEnc 3 lo hi (.slice aM ms.length cM) ms, rall LR] _ := F89.pick [0, 1, 2, 3, 4, 5, 6, 13, 8, 9, 10, 11, 14] (by decide) rfl
    clear F89
    (first | refine ⟨by kernel_rfl, ?_, ?_⟩ | refine ⟨rfl, ?_, ?_⟩ | refine ⟨?_, ?_⟩)
    · rw [HI3.out]; exact ⟨k + 1, (tryS ms ts dl (ords ts f (now ++ [k])) sk), _, (by kernel_rfl), (by kernel_rfl), (by kernel_rfl), (by kernel_rfl), (by show Value.int .i64 ((k : Int) + 1) = _; simp), (by omega), (lhd (by rw [ordK_yes (by rw [HEX.out]; exact c44H.out), tryS_app, HSK.out])), (by first | rfl | simp), (by first | omega | (simp; done) | (simp; omega)), F90⟩
    · simp [slot, intOf]; omega
   case atStart2 =>
    rw [HI27.out]
    exact ⟨0, !(hasI (ints now) (k : Int)), (by kernel_rfl), (by kernel_rfl), (by kernel_rfl), rfl, by (iterate 5 refine ⟨by kernel_rfl, ?_⟩); exact ⟨rfl, Nat.zero_le _, (lhd (by unfold dB; simp)), rfl, (by first | exact Nat.le_refl _ | omega | (simp; done) | (simp; omega)), (F11.drop 0 rfl)⟩⟩
  have c7H := lhd c7
  have c7a := dec_f c7
  go_wp2_with fail
  have F91 : Bun w0 [rbox gf 4 #[.bool sk.found], rbox go 3 #[.int .i64 sk.open_], rbox gq 28 #[ov1], rown intEnc 3 1 b0 ov1 (ints sk.order), rbox gj 25 #[.slice aM ms.length cM, .slice aT ts.length cT], rbox gd 40 #[.slice ad dl.length cd], rbox gt 112 #[.func (.func 54) #[] #[.pointer (some ⟨gj, 0, none⟩), .pointer (some ⟨gd, 0, none⟩), .pointer (some ⟨gf, 0, none⟩), .pointer (some ⟨go, 0, none⟩), .pointer (some ⟨gq, 0, none⟩), .pointer (some ⟨gt, 0, none⟩)]], rsl intEnc 1 lon hin (.slice aN now.length cN) (ints now), rsl weaEnc 6 lo2 hi2 (.slice ad dl.length cd) dl, rafs lo hi ts, rsl tskEnc 8 lo hi (.slice aT ts.length cT) ts, rsl mchEnc 3 lo hi (.slice aM ms.length cM) ms, rall LR] _ := hF4.pick [0, 1, 2, 3, 4, 5, 6, 7, 8, 9, 10, 11, 12] (by decide) rfl
  clear hF4
  exact bodyPost_end (v := .tuple #[]) (by simp [results, Tryz.results54, go_sem]) rfl (by first | exact ⟨_, rfl, (by have h_ := HSK.out; rw [show k = ts.length by omega, ordK_all] at h_; rw [h_]; exact F91), (by first | omega | (simp; omega))⟩ | exact ⟨rfl, _, (by have h_ := HSK.out; rw [show k = ts.length by omega, ordK_all] at h_; rw [h_]; exact F91), (by first | omega | (simp; omega))⟩ | exact ⟨rfl, ⟨_, (by have h_ := HSK.out; rw [show k = ts.length by omega, ordK_all] at h_; rw [h_]; exact F91)⟩, (by first | omega | (simp; omega))⟩)
 case atStart1 =>
  rw [HI3.out]
  exact ⟨0, s, _, (by kernel_rfl), (by kernel_rfl), (by kernel_rfl), (by kernel_rfl), rfl, Nat.zero_le _, (lhd rfl), rfl, (by first | exact Nat.le_refl _ | omega | (simp; done) | (simp; omega)), F0_⟩
end Go.Proofs.YtcoldeolmleeiaaGreat
