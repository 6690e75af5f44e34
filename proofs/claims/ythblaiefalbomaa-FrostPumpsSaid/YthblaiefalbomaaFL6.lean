/- frost: FrostPumps walked. -/
import Derived.Test.YthblaiefalbomaaF43
import Derived.Test.YthblaiefalbomaaF26
import Derived.Test.YthblaiefalbomaaF24
set_option linter.unusedVariables false
set_option linter.unusedSimpArgs false
set_option linter.unnecessarySimpa false
namespace Go.Proofs.Ythblaiefalbomaa
open Go.RowKit
set_option maxRecDepth 100000

set_option maxHeartbeats 16000000 in
theorem pumps_walk (vn : Value) (zs : List Int) (w : World) (hn : Sl intEnc 1 0 w.heap.size w vn zs) :
    Calls Try.prog 12 #[vn] w (Ret (.bool true) w) := by
  have F1 : Bun w [] w := Bun.nil _
  obtain ⟨na, nc, rfl⟩ := hn.any
  have hm_nums := hn.len
  unfold maxLen at hm_nums
  have F2 := F1.sl0 hn (Nat.le_refl _) rfl
  clear F1
  go_enter Try.func12, Try.ntmps12
  go_wp2_with fail
  refine (newSeed_c 0 w.heap.size _ zs _ (F2.at 0 rfl : Sl intEnc 1 0 w.heap.size _ (.slice na zs.length nc) zs)).mono ?_
  rintro e w5 ⟨sb, rfl, hsb, hsbs, hg3⟩
  have hsbl := hsbs.lt
  have hg3s := hg3.size
  (try simp at hg3s)
  have F6 := F2.add (rseed sb) hg3 (hsbs) (fun g e => by cases e; exact ⟨hsb, hsbs.lt⟩)
  clear F2
  clear hg3
  go_wp2_with fail
  refine (frostOf_c sb _ (F6.at 0 rfl : SeedAt _ sb)).mono ?_
  rintro e w9 ⟨l, vl, lo_l, hi_l, rfl, hxl, hyl, hzl, hfl, hs8, hg7⟩
  obtain ⟨sal, scl, rfl⟩ := hzl.any
  have HFl := Lib.hid hfl
  clear hfl
  have hml := hzl.len
  unfold maxLen at hml
  have hg7s := hg7.size
  (try simp at hg7s)
  have F10 := F6.seedAdd (rsl covEnc 3 lo_l hi_l (.slice sal l.cov.length scl) l.cov) hg7 hs8 (hzl) (fun g e => ⟨Nat.le_trans hxl e.1, Nat.lt_of_lt_of_le e.2 hyl⟩)
  clear F6
  clear hg7
  go_wp2_with fail
  refine (iceOf_c sb _ (F10.at 1 rfl : SeedAt _ sb)).mono ?_
  rintro e w13 ⟨ic, rfl, ⟨hic, hicm⟩, hs12, hg11⟩
  have hicb := iceB hic
  have hg11s := hg11.size
  (try simp at hg11s)
  have F14 := F10.seedAt 1 rfl hg11 hs12
  clear F10
  clear hg11
  go_wp2_with fail
  have F16 := F14.new 29 (froC l (.slice sal l.cov.length scl)) (n := w13.heap.size) (by simp)
  clear F14
  have F17 := F16.new 32 (iceC ic) (n := (w13.heap.size + 1)) (by simp)
  clear F16
  refine (yes_c sb 2 _ (F17.at 3 rfl : SeedAt _ sb) (by omega) (by omega)).mono ?_
  rintro e w20 ⟨yb15, rfl, hs19, hg18⟩
  have hg18s := hg18.size
  (try simp at hg18s)
  have F21 := F17.seedAt 3 rfl hg18 hs19
  clear F17
  clear hg18
  go_wp2_with fail
  refine (daysOf_o sb w.heap.size 7 yb15 _ ((F21.front 3 rfl rfl).at 0 rfl : SeedAt _ sb) (by omega) F21.gb.size).mono ?_
  rintro e w24 ⟨vo_dl, dl, rfl, hdodl, hdxdl, hdndl, hdvdl, hs23, hg22⟩
  have HDdl := Lib.hid hdvdl
  clear hdvdl
  have hg22s := hg22.size
  (try simp at hg22s)
  have F25 := (F21.front 3 rfl rfl).seedAdd (rown weaEnc 35 6 w.heap.size vo_dl dl) hg22 hs23 (hdodl) (hdxdl)
  clear F21
  clear hg22
  go_wp2_with fail
  refine (below_c sb 200 _ (F25.at 1 rfl : SeedAt _ sb) (by omega) (by omega)).mono ?_
  rintro e w30 ⟨r26, rfl, hr27, hs29, hg28⟩
  unfold belowR at hr27
  have hg28s := hg28.size
  (try simp at hg28s)
  have F31 := F25.seedAt 1 rfl hg28 hs29
  clear F25
  clear hg28
  go_wp2_with fail
  refine (day_c r26 0 0 _).mono ?_
  rintro e w34 ⟨rfl, hg32⟩
  have hg32s := hg32.size
  (try simp at hg32s)
  have F35 := F31.gn hg32
  clear F31
  clear hg32
  go_wp2_with (at_builtin; refine wpList_app _ okWea rfl _ _ rfl w.heap.size vo_dl dl [(⟨⟨r26, r26⟩, ⟨0, 0⟩, 0, false⟩ : Wea)] rfl (by exact ((F35.at 0 rfl : Own weaEnc 35 6 w.heap.size _ vo_dl dl)).alloc _) ⟨_, 0, none⟩ 1 1 rfl rfl (by decide) (news_of (Bk.newAt _ _ _ (by simp))) (dl.length + 1) (by simp) (by omega) (by first | omega | (simp; omega)) _ rfl ?_; intro g36 cap37 w38 hp39; refine Hid.out ?_)
  refine Lib.hid ?_
  have hp39s := hp39.gb.size
  (try simp at hp39s)
  have F40 := ((F35.alloc (.cells #[.int .i64 r26, .int .i64 r26, .int .i64 0, .int .i64 0, .int .i64 0, .bool false] 35)).front 0 rfl rfl).app hp39 (by simp)
  clear F35
  obtain ⟨al, hal_⟩ : ∃ z_, dl ++ [(⟨⟨r26, r26⟩, ⟨0, 0⟩, 0, false⟩ : Wea)] = z_ := ⟨_, rfl⟩
  rw [hal_] at F40
  have hal1 : al.length ≤ dl.length + 1 := by rw [← hal_]; simp
  have hal2 : dl.length + 1 ≤ al.length := by rw [← hal_]; simp
  have HDal : Hid (∀ d ∈ al, weaErr d = 0) := Lib.hid (by rw [← hal_]; intro d_ hd_; rcases List.mem_append.1 hd_ with h_ | h_; exact (HDdl.out d_ h_).1; obtain rfl := List.mem_singleton.1 h_; unfold weaErr spanErr; simp only; (repeat' split) <;> first | rfl | (exfalso; omega) | omega)
  clear hal_
  go_wp2_with fail
  refine (from_c sb 1 ((dl.length + 1) : Int) _ (F40.at 1 rfl : SeedAt _ sb) (by omega) (by omega) (by omega) (by omega)).mono ?_
  rintro e w45 ⟨r41, rfl, hr42, hs44, hg43⟩
  unfold fromR at hr42; have hr42b : 1 ≤ r41 ∧ r41 ≤ ((dl.length + 1) : Int) := (by omega); clear hr42
  have hg43s := hg43.size
  (try simp at hg43s)
  have F46 := F40.seedAt 1 rfl hg43 hs44
  clear F40
  clear hg43
  go_wp2_with fail
  refine (below_c sb 60 _ (F46.at 1 rfl : SeedAt _ sb) (by omega) (by omega)).mono ?_
  rintro e w51 ⟨r47, rfl, hr48, hs50, hg49⟩
  unfold belowR at hr48
  have hg49s := hg49.size
  (try simp at hg49s)
  have F52 := F46.seedAt 1 rfl hg49 hs50
  clear F46
  clear hg49
  have b53 := F52.bx8 2 rfl
  have b54 := F52.bx8 3 rfl
  go_wp2_with fail
  clear b53 b54
  refine (flood_ok _ _ _ l ic g36 (g36 + 1) _ al r41 r47 _ (F52.at 4 rfl : Sl covEnc 3 lo_l hi_l _ (.slice sal l.cov.length scl) l.cov) (by first | omega | (simp; omega)) (Own.slG (F52.at 0 rfl : Own weaEnc 35 6 w.heap.size _ (.slice (some ⟨g36, 0, none⟩) (dl.length + 1) cap37) al) (fun _ => rfl)) (F52.ltAt 0 rfl _ rfl).1 (allE_of HFl.out hic HDal.out (by omega)) (by omega) (by omega)).mono ?_
  rintro e w57 ⟨nf, rfl, hff, hg55⟩
  obtain ⟨m, hm⟩ : ∃ m : Nat, r41 = (m : Int) + 1 := ⟨(r41 - 1).toNat, by omega⟩
  have hmL : m < al.length := by omega
  rw [show (r41 - 1).toNat = m by omega] at hff
  obtain ⟨⟨hnf1, hnf2⟩, hnf3, hnf4⟩ := hff
  have HM := Lib.hid hm
  have HN3 := Lib.hid hnf3
  have HN4 := Lib.hid hnf4
  clear hm hnf3 hnf4
  have hg55s := hg55.size
  (try simp at hg55s)
  have F58 := F52.gn hg55
  clear F52
  clear hg55
  have kn59 : ¬ (nf < -1) := (by omega)
  have kn59H := Lib.hid kn59
  have kn59a : decide (nf < -1) = false := dec_f kn59
  have kn60 : ¬ (r47 < nf) := (by omega)
  have kn60H := Lib.hid kn60
  have kn60a : decide (r47 < nf) = false := dec_f kn60
  by_cases c61 : nf < 0
  · skip
    have c61H := Lib.hid c61
    by_cases c62 : nf = r47
    · skip
      have c62a : (nf == r47) = true := beq_t c62
      have c62b : (nf != r47) = false := bne_f c62
      have c62H := Lib.hid c62
      clear c62
      go_wp2_with fail
      refine (awake_c _).mono ?_
      rintro e w65 ⟨rfl, hg63⟩
      have hg63s := hg63.size
      (try simp at hg63s)
      have F66 := F58.gn hg63
      clear F58
      clear hg63
      go_wp2_with fail
      go_ret
      exact ⟨rfl, F66.gb⟩
    · skip
      have c62a : (nf == r47) = false := beq_f c62
      have c62b : (nf != r47) = true := bne_t c62
      have c62H := Lib.hid c62
      clear c62
      have hlt : nf < r47 := by have := c62H.out; omega
      have b67 := F58.bx8 2 rfl
      have b68 := F58.bx8 3 rfl
      go_wp2_with fail
      clear b67 b68
      refine (left_v true _ _ _ l ic g36 (g36 + 1) _ al m r41 (nf + 1) _ (F58.at 4 rfl : Sl covEnc 3 lo_l hi_l _ (.slice sal l.cov.length scl) l.cov) (by first | omega | (simp; omega)) (Own.slG (F58.at 0 rfl : Own weaEnc 35 6 w.heap.size _ (.slice (some ⟨g36, 0, none⟩) (dl.length + 1) cap37) al) (fun _ => rfl)) (F58.ltAt 0 rfl _ rfl).1 (allE_of HFl.out hic HDal.out (by omega)) HM.out hmL (by omega) (by first | exact HN3.out (by omega) | exact HN4.out (by omega))).mono ?_
      rintro e w71 ⟨rfl, hg69⟩
      have hg69s := hg69.size
      (try simp at hg69s)
      have F72 := F58.gn hg69
      clear F58
      clear hg69
      go_wp2_with fail
      refine (awake_c _).mono ?_
      rintro e w75 ⟨rfl, hg73⟩
      have hg73s := hg73.size
      (try simp at hg73s)
      have F76 := F72.gn hg73
      clear F72
      clear hg73
      go_wp2_with fail
      go_ret
      exact ⟨rfl, F76.gb⟩
  · skip
    have c61H := Lib.hid c61
    have c61a : decide (nf < 0) = false := dec_f c61
    have b77 := F58.bx8 2 rfl
    have b78 := F58.bx8 3 rfl
    go_wp2_with fail
    clear b77 b78
    refine (left_v false _ _ _ l ic g36 (g36 + 1) _ al m r41 nf _ (F58.at 4 rfl : Sl covEnc 3 lo_l hi_l _ (.slice sal l.cov.length scl) l.cov) (by first | omega | (simp; omega)) (Own.slG (F58.at 0 rfl : Own weaEnc 35 6 w.heap.size _ (.slice (some ⟨g36, 0, none⟩) (dl.length + 1) cap37) al) (fun _ => rfl)) (F58.ltAt 0 rfl _ rfl).1 (allE_of HFl.out hic HDal.out (by omega)) HM.out hmL (by omega) (by first | exact HN3.out (by omega) | exact HN4.out (by omega))).mono ?_
    rintro e w81 ⟨rfl, hg79⟩
    have hg79s := hg79.size
    (try simp at hg79s)
    have F82 := F58.gn hg79
    clear F58
    clear hg79
    by_cases c83 : nf = r47
    · skip
      have c83a : (nf == r47) = true := beq_t c83
      have c83b : (nf != r47) = false := bne_f c83
      have c83H := Lib.hid c83
      clear c83
      go_wp2_with fail
      refine (awake_c _).mono ?_
      rintro e w86 ⟨rfl, hg84⟩
      have hg84s := hg84.size
      (try simp at hg84s)
      have F87 := F82.gn hg84
      clear F82
      clear hg84
      go_wp2_with fail
      go_ret
      exact ⟨rfl, F87.gb⟩
    · skip
      have c83a : (nf == r47) = false := beq_f c83
      have c83b : (nf != r47) = true := bne_t c83
      have c83H := Lib.hid c83
      clear c83
      have hlt : nf < r47 := by have := c83H.out; omega
      have b88 := F82.bx8 2 rfl
      have b89 := F82.bx8 3 rfl
      go_wp2_with fail
      clear b88 b89
      refine (left_v true _ _ _ l ic g36 (g36 + 1) _ al m r41 (nf + 1) _ (F82.at 4 rfl : Sl covEnc 3 lo_l hi_l _ (.slice sal l.cov.length scl) l.cov) (by first | omega | (simp; omega)) (Own.slG (F82.at 0 rfl : Own weaEnc 35 6 w.heap.size _ (.slice (some ⟨g36, 0, none⟩) (dl.length + 1) cap37) al) (fun _ => rfl)) (F82.ltAt 0 rfl _ rfl).1 (allE_of HFl.out hic HDal.out (by omega)) HM.out hmL (by omega) (by first | exact HN3.out (by omega) | exact HN4.out (by omega))).mono ?_
      rintro e w92 ⟨rfl, hg90⟩
      have hg90s := hg90.size
      (try simp at hg90s)
      have F93 := F82.gn hg90
      clear F82
      clear hg90
      go_wp2_with fail
      refine (awake_c _).mono ?_
      rintro e w96 ⟨rfl, hg94⟩
      have hg94s := hg94.size
      (try simp at hg94s)
      have F97 := F93.gn hg94
      clear F93
      clear hg94
      go_wp2_with fail
      go_ret
      exact ⟨rfl, F97.gb⟩

end Go.Proofs.Ythblaiefalbomaa
