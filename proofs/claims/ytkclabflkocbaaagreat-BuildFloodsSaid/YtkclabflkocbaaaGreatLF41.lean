/- the reference of frost: Flood. -/
import Derived.Test.YtkclabflkocbaaaGreatLKF4
import Derived.Test.YtkclabflkocbaaaGreatLF40
set_option linter.unusedVariables false
set_option linter.unusedSimpArgs false
set_option linter.unnecessarySimpa false
namespace Go.Proofs.YtkclabflkocbaaaGreat
open Go.RowKit
set_option maxRecDepth 100000
attribute [local go_sem] Oper.semAt_some
set_option maxHeartbeats 8000000 in
theorem rdry_c (lo hi : Nat) (v : Value) (l : Fro) (x : Ice) (lo2 hi2 : Nat) (vd : Value) (dl : List Wea) (w : World) (hl : Sl covEnc 3 lo hi w v l.cov) (h2 : hi <= w.heap.size) (hl2 : Sl weaEnc 6 lo2 hi2 w vd dl) (h22 : hi2 <= w.heap.size) (hOK : LawOk l /\ iceErr x = 0 /\ IceK x 0 0 /\ dl.length <= 400 /\ ∀ d ∈ dl, WeaOk d) (h1_ : 1 <= dl.length) :
  Calls Tryz.prog 57 #[.agg (froC l v), .agg (iceC x), vd] w (Ret (.bool (dryB l x dl)) w) := by
 have F1 : Bun w [] w := Bun.nil _
 have hm_cs := hl.len
 unfold maxLen at hm_cs
 obtain ⟨sa, sc, rfl⟩ := hl.any
 replace F1 := F1.sl0 hl h2 rfl
 clear hl
 have hm_ds := hl2.len
 unfold maxLen at hm_ds
 obtain ⟨da, dc, rfl⟩ := hl2.any
 replace F1 := F1.sl0 hl2 h22 rfl
 clear hl2
 have hn4 := hOK.2.2.2.1
 have HK := lhd (stI_K hOK.1 hOK.2.2.1 hOK.2.2.2.2 hOK.2.2.2.1)
 have HOK := lhd hOK
 clear hOK
 have h1 := lhd h1_
 have hq1 : (1 : Int) <= (dl.length : Int) := by omega
 have hq2 : 0 <= (dl.length : Int) - 1 := by omega
 have hq3 : (dl.length : Int) - 1 < (dl.length : Int) := by omega
 have hq4 : ((dl.length : Int) - 1).toNat = dl.length - 1 := by omega
 have hq5 : IntKind.i64.wrap ((dl.length : Int) - 1) = (dl.length : Int) - 1 := IntWalk.i64_in _ (by omega)
 go_enter Tryz.func57, Tryz.ntmps57
 go_wp2_with fail
 replace F1 := F1.new 26 (froC l (.slice sa l.cov.length sc)) (n := w.heap.size) (by simp)
 replace F1 := F1.new 28 (iceC x) (n := (w.heap.size + 1)) (by simp)
 refine (rrunL_c lo hi _ l x lo2 hi2 _ dl _ (F1.s 3 rfl) (Nat.le_trans h2 F1.gb.size) (F1.s 2 rfl) (Nat.le_trans h22 F1.gb.size) HOK.out).mono ?_
 rintro e w9 ⟨a_4, c_4, lo_4, hi_4, rfl, hx4, hy4, hsl4, hg7⟩
 have hg7s := hg7.size
 (try simp at hg7s)
 replace F1 := F1.add (rsl iceEnc 8 lo_4 hi_4 (.slice a_4 dl.length c_4) (runN l x dl dl.length)) hg7 (hsl4) (fun g e => ⟨Nat.le_trans hx4 e.1, Nat.lt_of_lt_of_le e.2 hy4⟩)
 clear hg7
 obtain ⟨x11, o12, e_⟩ := Sl.addr (F1.s 0 rfl) (by rw [runN_len]; omega)
 subst e_
 obtain ⟨z, hz13_⟩ : ∃ z_, (runN l x dl dl.length)[(dl.length - 1)]? = some z_ := ⟨_, List.getElem?_eq_getElem (by rw [runN_len]; omega)⟩
 have hz13 := lhd hz13_
 clear hz13_
 obtain rfl : z = (stI l x dl dl.length) := by have h_ := hz13.out; rw [runN_get (by omega), show dl.length - 1 + 1 = dl.length by omega] at h_; injection h_ with h_; exact h_.symm
 have Hx14 := lhd (show ((dryB l x dl : Bool)) = (((stI l x dl dl.length).we.hi) == 0) by first | rfl | (unfold dryB; exact Bool.eq_iff_iff.2 (by simp)))
 have ge15 : World.cell? _ ⟨x11, o12 + ((dl.length - 1)) * 8 + 4 + 1, none⟩ = some (.int .i64 ((stI l x dl dl.length).we.hi)) := (Sl.cells (F1.at 0 rfl) hz13.out 5 _ rfl)
 have gl16 := cell_lt ge15
 go_wp2_with fail
 clear ge15 gl16
 go_ret
 exact ⟨by rw [Hx14.out] <;> rfl, F1.gb⟩
set_option maxHeartbeats 16000000 in
theorem rflood_c (lo hi : Nat) (v : Value) (l : Fro) (x : Ice) (lo2 hi2 : Nat) (vd : Value) (dl : List Wea) (att most : Int) (w : World) (hl : Sl covEnc 3 lo hi w v l.cov) (h2 : hi <= w.heap.size) (hl2 : Sl weaEnc 6 lo2 hi2 w vd dl) (h22 : hi2 <= w.heap.size) :
  Calls Tryz.prog 34 #[.agg (froC l v), .agg (iceC x), vd, .int .i64 att, .int .i64 most] w (Ret (.tuple #[.int .i64 (floodI l x dl att most), .int .i64 (floodE l x dl att most)]) w) := by
 have F1 : Bun w [] w := Bun.nil _
 have hm_cs := hl.len
 unfold maxLen at hm_cs
 obtain ⟨sa, sc, rfl⟩ := hl.any
 replace F1 := F1.sl0 hl h2 rfl
 clear hl
 have hm_ds := hl2.len
 unfold maxLen at hm_ds
 obtain ⟨da, dc, rfl⟩ := hl2.any
 replace F1 := F1.sl0 hl2 h22 rfl
 clear hl2
 go_enter Tryz.func34, Tryz.ntmps34
 go_wp2_with fail
 replace F1 := F1.new 26 (froC l (.slice sa l.cov.length sc)) (n := w.heap.size) (by simp)
 replace F1 := F1.new 28 (iceC x) (n := (w.heap.size + 1)) (by simp)
 refine (rcheckAll_c lo hi _ l x lo2 hi2 _ dl _ (F1.s 3 rfl) (Nat.le_trans h2 F1.gb.size) (F1.s 2 rfl) (Nat.le_trans h22 F1.gb.size)).mono ?_
 rintro e w8 ⟨rfl, hg6⟩
 have hg6s := hg6.size
 (try simp at hg6s)
 replace F1 := F1.gn hg6
 clear hg6
 by_cases c10 : allE l x dl = 0
 ·
  obtain ⟨c10a, c10b⟩ := bqt c10
  have c10H := lhd c10
  clear c10
  have HOK := lhd (allOk c10H.out)
  have hn4 := HOK.out.2.2.2.1
  go_wp2_with fail
  refine (outside_c _ _ _ _).mono ?_
  rintro e _ ⟨rfl, rfl⟩
  cases c11 : outB att 1 (dl.length : Int)
  ·
   have c11o := outB_f c11
   have c11H := lhd c11o
   go_wp2_with fail
   refine (outside_c _ _ _ _).mono ?_
   rintro e _ ⟨rfl, rfl⟩
   cases c12 : outB most 0 200
   ·
    have c12o := outB_f c12
    have c12H := lhd c12o
    have HFE : Hid (floodE l x dl att most = 0) := lhd (by rw [floodE, if_neg (not_not_intro c10H.out), if_neg (by have := c11o; have := c12o; omega)])
    have hra : (1 <= att /\ att <= (dl.length : Int)) /\ 0 <= most /\ most <= 200 := by have := c11o; have := c12o; omega
    obtain ⟨m, hm⟩ : ∃ m : Nat, att = (m : Int) + 1 := ⟨(att - 1).toNat, by omega⟩
    have hmL : m < dl.length := by omega
    have hwm : IntKind.i64.wrap (att - 1) = (m : Int) := by rw [show att - 1 = (m : Int) by omega]; exact IntWalk.i64_in _ (by omega)
    have HFI : Hid (floodI l x dl att most = grtP (fun k : Nat => dryB l x (setW dl m (k : Int))) (most.toNat + 1)) := lhd (by rw [floodI, if_pos HFE.out, show (att - 1).toNat = m by omega])
    have hm0 : (0 : Int) <= (m : Int) := by omega
    have hmL2 : (m : Int) < (dl.length : Int) := by omega
    have Hm := lhd hm
    clear hm
    go_wp2_with fail
    obtain ⟨HI13_, HI130⟩ : ∃ I : RelT, I = (fun t ds wr => ∃ (n : Int), t 2 = .slice da dl.length dc /\ t 3 = .int .i64 att /\ t 5 = .pointer (some ⟨w.heap.size, 0, none⟩) /\ t 6 = .pointer (some ⟨w.heap.size + 1, 0, none⟩) /\ t 13 = .int .i64 n /\ (-1 <= n /\ n <= most) /\ grtP (fun k : Nat => dryB l x (setW dl m (k : Int))) (most.toNat + 1) = grtP (fun k : Nat => dryB l x (setW dl m (k : Int))) (n + 1).toNat /\ ds = [] /\ w8.heap.size <= wr.heap.size /\ Bun w [rbox (w.heap.size + 1) 28 (iceC x), rbox w.heap.size 26 (froC l (.slice sa l.cov.length sc)), rsl weaEnc 6 lo2 hi2 (.slice da dl.length dc) dl, rsl covEnc 3 lo hi (.slice sa l.cov.length sc) l.cov] wr) := ⟨_, rfl⟩
    have HI13 := lhd HI130
    clear HI130
    refine wp_loopS 49 rfl HI13_ (fun t wr => (intOf (t 13) + 1).toNat) ?atStart1 ?round1
    case round1 =>
     intro t ds wr hHid
     rw [HI13.out] at hHid
     obtain ⟨n, e2, e3, e5, e6, e13, hrel⟩ := hHid
     have e : ((List.range 49).map t).toArray = #[t 0, t 1, t 2, t 3, t 4, t 5, t 6, t 7, t 8, t 9, t 10, t 11, t 12, t 13, t 14, t 15, t 16, t 17, t 18, t 19, t 20, t 21, t 22, t 23, t 24, t 25, t 26, t 27, t 28, t 29, t 30, t 31, t 32, t 33, t 34, t 35, t 36, t 37, t 38, t 39, t 40, t 41, t 42, t 43, t 44, t 45, t 46, t 47, t 48] := rfl
     (try dsimp only at e)
     rw [e2, e3, e5, e6, e13] at e
     rw [e]
     simp only [e13]
     clear e e2 e3 e5 e6 e13
     obtain ⟨hnn, hg_, rfl, hs15, hF14⟩ := hrel
     clear F1
     obtain ⟨w16, rfl⟩ : ∃ x_ : World, x_ = wr := ⟨_, rfl⟩
     have HG := lhd hg_
     clear hg_
     by_cases c17 : 0 <= n
     ·
      have c17H := lhd c17
      go_wp2_with (at_builtin; refine wpList_copyB okWea rfl _ _ rfl w.heap.size w16.heap.size rfl (hF14.new 77 #[] (n := w16.heap.size) (by simp)) (by first | omega | (simp; omega)) lo2 hi2 (.slice da dl.length dc) dl rfl ((hF14.new 77 #[] (n := w16.heap.size) (by simp)).at 3 rfl) (by omega) ?_; intro vc18 w19 hB20 hs21; refine Hid.out ?_)
      refine lhd ?_
      (try simp at hs21)
      have F22 := hB20
      clear hF14
      obtain ⟨g23, cap24, e_⟩ := Own.opn (F22.o 0 rfl) (by omega)
      subst e_
      have g23l := (F22.ltAt 0 rfl _ rfl).1
      obtain ⟨z, hz25_⟩ : ∃ z_, dl[m]? = some z_ := ⟨_, List.getElem?_eq_getElem (by omega)⟩
      have hz25 := lhd hz25_
      clear hz25_
      have HFO : Hid (LawOk l /\ iceErr x = 0 /\ IceK x 0 0 /\ (setW dl m n).length <= 400 /\ ∀ d ∈ (setW dl m n), WeaOk d) := lhd ⟨HOK.out.1, HOK.out.2.1, HOK.out.2.2.1, by rw [setW_len]; exact HOK.out.2.2.2.1, setW_ok HOK.out.2.2.2.2 (by omega)⟩
      have hfl1 : (setW dl m n).length <= dl.length := Nat.le_of_eq (setW_len _ _ _)
      have hfl2 : dl.length <= (setW dl m n).length := Nat.le_of_eq (setW_len _ _ _).symm
      have b26 := F22.bx8 1 rfl
      have b27 := F22.bx8 2 rfl
      have ge28 : World.cell? _ ⟨g23, m * 6 + 4, none⟩ = some (.int .i64 z.water) := (by simpa using (Own.sl (F22.o 0 rfl) (fun _ => rfl)).cells hz25.out 4 _ rfl)
      have gl29 := cell_lt ge28
      have ge30 : World.frozen? _ ⟨g23, m * 6 + 4, none⟩ = false := Own.live (F22.o 0 rfl) _
      have hne31 : ¬ g23 = w.heap.size := F22.neAt 0 2 rfl rfl (by decide) (.inl rfl) g23 rfl
      have hne31s : ¬ w.heap.size = g23 := fun e => hne31 e.symm
      have hne32 : ¬ g23 = (w.heap.size + 1) := F22.neAt 0 1 rfl rfl (by decide) (.inl rfl) g23 rfl
      have hne32s : ¬ (w.heap.size + 1) = g23 := fun e => hne32 e.symm
      go_wp2_with fail
      clear b26 b27 ge28 gl29 ge30 hne31 hne31s hne32 hne32s
      have F33 := Bun.setOwn (sz := 6) (fun _ => rfl) F22 hz25.out (y := (⟨z.cold, z.fall, n, z.clear⟩ : Wea)) (j := 4) (u := (.int .i64 n)) (by decide) rfl rfl
      clear F22
      have eW_ : dl.set m (⟨z.cold, z.fall, n, z.clear⟩ : Wea) = (setW dl m n) := (setW_at hz25.out n)
      rw [eW_] at F33
      clear eW_
      refine (rdry_c lo hi _ l x g23 (g23 + 1) _ (setW dl m n) _ (F33.s 4 rfl) (Nat.le_trans h2 F33.gb.size) (Own.slG (F33.o 0 rfl) (fun _ => rfl)) (F33.ltAt 0 rfl _ rfl).1 HFO.out (by omega)).mono ?_
      rintro e w36 ⟨rfl, hg34⟩
      have hg34s := hg34.size
      (try simp at hg34s)
      replace F33 := F33.gn hg34
      clear hg34
      cases c38 : dryB l x (setW dl m n)
      ·
       have c38H := lhd c38
       go_wp2_with fail
       have F39 : Bun w [rbox (w.heap.size + 1) 28 (iceC x), rbox w.heap.size 26 (froC l (.slice sa l.cov.length sc)), rsl weaEnc 6 lo2 hi2 (.slice da dl.length dc) dl, rsl covEnc 3 lo hi (.slice sa l.cov.length sc) l.cov] _ := F33.pick [1, 2, 3, 4] (by decide) rfl
       clear F33
       (first | refine ⟨by kernel_rfl, ?_, ?_⟩ | refine ⟨rfl, ?_, ?_⟩ | refine ⟨?_, ?_⟩)
       · rw [HI13.out]; exact ⟨n - 1, by (iterate 5 refine ⟨by kernel_rfl, ?_⟩); exact ⟨(by omega), (by rw [HG.out, grtP_step (q := (fun k : Int => dryB l x (setW dl m k))) (by omega), if_neg (by have h_ := c38H.out; simp [h_])]), (by first | rfl | simp), (by first | omega | (simp; done) | (simp; omega)), F39⟩⟩
       · simp [slot, intOf]; omega
      have c38H := lhd c38
      have Hx40 := lhd (show (floodI l x dl att most) = n by rw [HFI.out, HG.out, grtP_step (q := (fun k : Int => dryB l x (setW dl m k))) (by omega), if_pos (by exact c38H.out)])
      have Hx41 := lhd (show (floodE l x dl att most) = 0 by exact HFE.out)
      go_wp2_with fail
      exact bodyPost_ret (v := .tuple #[.int .i64 n, .int .i64 0]) (by simp [results, Tryz.results34, go_sem]) rfl (⟨by rw [Hx40.out, Hx41.out] <;> rfl, F33.gb⟩)
     have c17H := lhd c17
     have c17a := dec_f c17
     have Hx42 := lhd (show (floodI l x dl att most) = -1 by rw [HFI.out, HG.out, show (n + 1).toNat = 0 by omega]; rfl)
     have Hx43 := lhd (show (floodE l x dl att most) = 0 by exact HFE.out)
     go_wp2_with fail
     exact bodyPost_ret (v := .tuple #[.int .i64 (-1), .int .i64 0]) (by simp [results, Tryz.results34, go_sem]) rfl (⟨by rw [Hx42.out, Hx43.out] <;> rfl, hF14.gb⟩)
    case atStart1 =>
     rw [HI13.out]
     exact ⟨most, (by kernel_rfl), (by kernel_rfl), (by kernel_rfl), (by kernel_rfl), rfl, (by omega), (by rw [show (most + 1).toNat = most.toNat + 1 by omega]), rfl, (by first | exact Nat.le_refl _ | omega | (simp; done) | (simp; omega)), F1⟩
   have c12o := outB_t c12
   have c12H := lhd c12o
   have Hx44 := lhd (show (floodI l x dl att most) = 0 by rw [floodI, if_neg (by rw [floodE, if_neg (not_not_intro c10H.out), if_pos (by have := c11o; have := c12o; omega)]; omega)])
   have Hx45 := lhd (show (floodE l x dl att most) = 2 by rw [floodE, if_neg (not_not_intro c10H.out), if_pos (by have := c11o; have := c12o; omega)])
   go_wp2_with fail
   exact bodyPost_ret (v := .tuple #[.int .i64 0, .int .i64 2]) (by simp [results, Tryz.results34, go_sem]) rfl (⟨by rw [Hx44.out, Hx45.out] <;> rfl, F1.gb⟩)
  have c11o := outB_t c11
  have c11H := lhd c11o
  have Hx46 := lhd (show (floodI l x dl att most) = 0 by rw [floodI, if_neg (by rw [floodE, if_neg (not_not_intro c10H.out), if_pos (by have := c11o; omega)]; omega)])
  have Hx47 := lhd (show (floodE l x dl att most) = 2 by rw [floodE, if_neg (not_not_intro c10H.out), if_pos (by have := c11o; omega)])
  go_wp2_with fail
  exact bodyPost_ret (v := .tuple #[.int .i64 0, .int .i64 2]) (by simp [results, Tryz.results34, go_sem]) rfl (⟨by rw [Hx46.out, Hx47.out] <;> rfl, F1.gb⟩)
 obtain ⟨c10a, c10b⟩ := bqf c10
 have c10H := lhd c10
 clear c10
 have Hx48 := lhd (show (floodI l x dl att most) = 0 by rw [floodI, if_neg (by rw [floodE, if_pos c10H.out]; exact c10H.out)])
 have Hx49 := lhd (show (floodE l x dl att most) = allE l x dl by rw [floodE, if_pos c10H.out])
 go_wp2_with fail
 exact bodyPost_ret (v := .tuple #[.int .i64 0, .int .i64 (allE l x dl)]) (by simp [results, Tryz.results34, go_sem]) rfl (⟨by rw [Hx48.out, Hx49.out] <;> rfl, F1.gb⟩)
end Go.Proofs.YtkclabflkocbaaaGreat
