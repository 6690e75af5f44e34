/- build: BuildNarrows walked. -/
import Derived.Test.YtokelpmngahnoaaL0
import Derived.Test.YtokelpmngahnoaaJK1
import Derived.Test.YtokelpmngahnoaaJK2
import Derived.Test.YtokelpmngahnoaaJK4
import Derived.Test.YtokelpmngahnoaaJK5
import Derived.Test.YtokelpmngahnoaaW2
set_option linter.unusedVariables false
set_option linter.unusedSimpArgs false
set_option linter.unnecessarySimpa false
namespace Go.Proofs.Ytokelpmngahnoaa
open Go.RowKit
set_option maxRecDepth 100000
attribute [local go_sem] Oper.semAt_some

set_option maxHeartbeats 32000000 in
theorem narrows_walk (vn : Value) (zs : List Int) (w : World) (hn : Sl intEnc 1 0 w.heap.size w vn zs) :
    Calls Try.prog 6 #[vn] w (Ret (.bool true) w) := by
  have F1 : Bun w [] w := Bun.nil _
  obtain ⟨na, nc, rfl⟩ := hn.any
  have hm_nums := hn.len
  unfold maxLen at hm_nums
  have F2 := F1.sl0 hn (Nat.le_refl _) rfl
  clear F1
  go_enter Try.func6, Try.ntmps6
  go_wp2_with fail
  refine (newSeed_c 0 w.heap.size _ zs _ (F2.at 0 rfl : Sl intEnc 1 0 w.heap.size _ (.slice na zs.length nc) zs)).mono ?_
  rintro e w5 ⟨sb, rfl, hsb, hsbs, hg3⟩
  have hsbl := hsbs.lt
  have hg3s := hg3.size
  (try simp at hg3s)
  have F6 := F2.add (rseed sb) hg3 (hsbs) (fun g e => by cases e; exact ⟨hsb, hsbs.lt⟩)
  clear F2
  clear hg3
  go_wp2_with fail
  refine (jobOf_c sb 8 _ (F6.at 0 rfl : SeedAt _ sb) (by omega)).mono ?_
  rintro e w9 ⟨ms, ts, a1J, a2J, c1J, c2J, loJ, hiJ, rfl, ⟨hxJ, hyJ⟩, hjJ, ⟨hjeJ, hmaJ, hmbJ, htaJ⟩, hs8, hg7⟩
  have HJEJ := Lib.hid hjeJ
  clear hjeJ
  have hg7s := hg7.size
  (try simp at hg7s)
  have F10 := F6.seedAdd (rafs loJ hiJ ts) hg7 hs8 (hjJ.af) (fun g e => ⟨Nat.le_trans hxJ e.1, Nat.lt_of_lt_of_le e.2 hyJ⟩)
  clear F6
  clear hg7
  have F11 := F10.more 0 (rsl tskEnc 8 loJ hiJ (.slice a2J ts.length c2J) ts) rfl rfl rfl (fun _ h_ => h_) (Sl.gb hjJ.t (gb_refl _ none) (fun _ e => by cases e))
  clear F10
  have hm_tsJ := (F11.at 0 rfl : Sl tskEnc 8 loJ hiJ _ (.slice a2J ts.length c2J) ts).len
  unfold maxLen at hm_tsJ
  have F12 := F11.more 1 (rsl mchEnc 3 loJ hiJ (.slice a1J ms.length c1J) ms) rfl rfl rfl (fun _ h_ => h_) (Sl.gb hjJ.m (gb_refl _ none) (fun _ e => by cases e))
  clear F11
  have hm_msJ := (F12.at 0 rfl : Sl mchEnc 3 loJ hiJ _ (.slice a1J ms.length c1J) ms).len
  unfold maxLen at hm_msJ
  go_wp2_with fail
  refine (weekOf_c sb 6 _ ((F12.front 3 rfl rfl).at 0 rfl : SeedAt _ sb) (by omega)).mono ?_
  rintro e w15 ⟨dl, aw_dl, cw_dl, lw_dl, hw_dl, rfl, ⟨hwx_dl, hwy_dl⟩, hwz_dl, ⟨hwl_dl, hwe_dl⟩, hs14, hg13⟩
  have HWE_dl := Lib.hid hwe_dl
  clear hwe_dl
  have hg13s := hg13.size
  (try simp at hg13s)
  have F16 := (F12.front 3 rfl rfl).seedAdd (rsl weaEnc 6 lw_dl hw_dl (.slice aw_dl dl.length cw_dl) dl) hg13 hs14 (hwz_dl) (fun g e => ⟨Nat.le_trans hwx_dl e.1, Nat.lt_of_lt_of_le e.2 hwy_dl⟩)
  clear F12
  clear hg13
  have HBE1 := Lib.hid (bothErr_of HJEJ.out HWE_dl.out (by omega))
  go_wp2_with fail
  have F17 := F16.new 25 #[.slice a1J ms.length c1J, .slice a2J ts.length c2J] (n := w15.heap.size) (by simp)
  clear F16
  refine (btimes_ok loJ hiJ _ _ ms ts lw_dl hw_dl _ dl _ (JobAt.mk (F17.at 3 rfl : Sl mchEnc 3 loJ hiJ _ (.slice a1J ms.length c1J) ms) (F17.at 4 rfl : Sl tskEnc 8 loJ hiJ _ (.slice a2J ts.length c2J) ts) (F17.at 5 rfl : Afs loJ hiJ _ ts)) (by first | omega | (simp; omega)) (F17.at 1 rfl : Sl weaEnc 6 lw_dl hw_dl _ (.slice aw_dl dl.length cw_dl) dl) (by first | omega | (simp; omega)) HBE1.out _ _ rfl rfl).mono ?_
  rintro e w20 ⟨at_t1, ct_t1, lt_t1, ht_t1, rfl, ⟨htx_t1, hty_t1⟩, htz_t1, hg18⟩
  have hg18s := hg18.size
  (try simp at hg18s)
  have F21 := F17.add (rsl timEnc 4 lt_t1 ht_t1 (.slice at_t1 ts.length ct_t1) (timN (caseOf false ms ts dl) (caseOf true ms ts dl) ts.length ts.length)) hg18 (htz_t1) (fun g e => ⟨Nat.le_trans htx_t1 e.1, Nat.lt_of_lt_of_le e.2 hty_t1⟩)
  clear F17
  clear hg18
  have b22 := F21.bx2 1 rfl
  go_wp2_with fail
  clear b22
  have F23 := F21.new 39 #[.int .i64 ((caseOf false ms ts dl).opn ts.length), .int .i64 ((caseOf true ms ts dl).opn ts.length)] (n := w20.heap.size) (by simp)
  clear F21
  refine (innerJob_c sb loJ hiJ _ _ ms ts _ ((F23.front 4 rfl rfl).at 0 rfl : SeedAt _ sb) (JobAt.mk (F23.at 5 rfl : Sl mchEnc 3 loJ hiJ _ (.slice a1J ms.length c1J) ms) (F23.at 6 rfl : Sl tskEnc 8 loJ hiJ _ (.slice a2J ts.length c2J) ts) (F23.at 7 rfl : Afs loJ hiJ _ ts)) (by first | omega | (simp; omega)) (F23.neAt 4 7 rfl rfl (by decide) (.inl rfl) _ rfl) HJEJ.out).mono ?_
  rintro e w26 ⟨lt, a1N, a2N, c1N, c2N, loN, hiN, rfl, ⟨hxN, hyN⟩, hjN, ⟨hsubN, hjeN⟩, hs25, hg24⟩
  have HSN := Lib.hid hsubN
  have HJEN := Lib.hid hjeN
  have hltl : lt.length ≤ ts.length ∧ ts.length ≤ lt.length := ⟨Nat.le_of_eq hsubN.1, Nat.le_of_eq hsubN.1.symm⟩
  clear hsubN hjeN
  have hg24s := hg24.size
  (try simp at hg24s)
  have F27 := (F23.front 4 rfl rfl).seedAdd (rafs loN hiN lt) hg24 hs25 (hjN.af) (fun g e => ⟨Nat.le_trans hxN e.1, Nat.lt_of_lt_of_le e.2 hyN⟩)
  clear F23
  clear hg24
  have F28 := F27.more 0 (rsl tskEnc 8 loN hiN (.slice a2N lt.length c2N) lt) rfl rfl rfl (fun _ h_ => h_) (Sl.gb hjN.t (gb_refl _ none) (fun _ e => by cases e))
  clear F27
  have hm_tsN := (F28.at 0 rfl : Sl tskEnc 8 loN hiN _ (.slice a2N lt.length c2N) lt).len
  unfold maxLen at hm_tsN
  have F29 := F28.more 1 (rsl mchEnc 3 loN hiN (.slice a1N ms.length c1N) ms) rfl rfl rfl (fun _ h_ => h_) (Sl.gb hjN.m (gb_refl _ none) (fun _ e => by cases e))
  clear F28
  have hm_msN := (F29.at 0 rfl : Sl mchEnc 3 loN hiN _ (.slice a1N ms.length c1N) ms).len
  unfold maxLen at hm_msN
  go_wp2_with fail
  refine (innerDays_b sb lw_dl hw_dl _ dl _ ((F29.front 3 rfl rfl).at 0 rfl : SeedAt _ sb) (F29.at 7 rfl : Sl weaEnc 6 lw_dl hw_dl _ (.slice aw_dl dl.length cw_dl) dl) (by first | omega | (simp; omega)) (F29.neAt 3 7 rfl rfl (by decide) (.inl rfl) _ rfl) HWE_dl.out (by omega)).mono ?_
  rintro e w32 ⟨dn, aw_dn, cw_dn, lw_dn, hw_dn, rfl, ⟨hwx_dn, hwy_dn⟩, hwz_dn, ⟨hsd, hwe_dn⟩, hs31, hg30⟩
  have HSD := Lib.hid hsd
  have HWE_dn := Lib.hid hwe_dn
  have hdnl : dn.length ≤ dl.length := Nat.le_of_eq hsd.1
  clear hsd hwe_dn
  have hg30s := hg30.size
  (try simp at hg30s)
  have F33 := (F29.front 3 rfl rfl).seedAdd (rsl weaEnc 6 lw_dn hw_dn (.slice aw_dn dn.length cw_dn) dn) hg30 hs31 (hwz_dn) (fun g e => ⟨Nat.le_trans hwx_dn e.1, Nat.lt_of_lt_of_le e.2 hwy_dn⟩)
  clear F29
  clear hg30
  go_wp2_with fail
  have HBE2 := Lib.hid (bothErr_of HJEN.out HWE_dn.out (by omega))
  refine (btimes_ok loN hiN _ _ ms lt lw_dn hw_dn _ dn _ (JobAt.mk (F33.at 2 rfl : Sl mchEnc 3 loN hiN _ (.slice a1N ms.length c1N) ms) (F33.at 3 rfl : Sl tskEnc 8 loN hiN _ (.slice a2N lt.length c2N) lt) (F33.at 4 rfl : Afs loN hiN _ lt)) (by first | omega | (simp; omega)) (F33.at 0 rfl : Sl weaEnc 6 lw_dn hw_dn _ (.slice aw_dn dn.length cw_dn) dn) (by first | omega | (simp; omega)) HBE2.out _ _ rfl rfl).mono ?_
  rintro e w36 ⟨at_t2, ct_t2, lt_t2, ht_t2, rfl, ⟨htx_t2, hty_t2⟩, htz_t2, hg34⟩
  have hg34s := hg34.size
  (try simp at hg34s)
  have F37 := F33.add (rsl timEnc 4 lt_t2 ht_t2 (.slice at_t2 lt.length ct_t2) (timN (caseOf false ms lt dn) (caseOf true ms lt dn) lt.length lt.length)) hg34 (htz_t2) (fun g e => ⟨Nat.le_trans htx_t2 e.1, Nat.lt_of_lt_of_le e.2 hty_t2⟩)
  clear F33
  clear hg34
  have HOK := Lib.hid (jobOk HJEJ.out)
  have HLB := Lib.hid (narrow_best HOK.out HSN.out HSD.out)
  have HLW := Lib.hid (narrow_worst HOK.out HSN.out HSD.out)
  have hno1 : (caseOf false ms ts dl).opn ts.length ≤ (caseOf false ms lt dn).opn lt.length := by rw [HSN.out.1]; exact HLB.out.opn _
  have hno2 : (caseOf true ms lt dn).opn lt.length ≤ (caseOf true ms ts dl).opn ts.length := by rw [HSN.out.1]; exact HLW.out.opn _
  have kn38 : (ts.length : Int) = (lt.length : Int) := (by omega)
  have kn38H := Lib.hid kn38
  have kn38a : ((ts.length : Int) == (lt.length : Int)) = true := beq_t kn38
  have kn38b : ((ts.length : Int) != (lt.length : Int)) = false := bne_f kn38
  clear kn38
  have b39 := F37.bx2 6 rfl
  go_wp2_with fail
  clear b39
  have F40 := F37.new 39 #[.int .i64 ((caseOf false ms lt dn).opn lt.length), .int .i64 ((caseOf true ms lt dn).opn lt.length)] (n := w36.heap.size) (by simp)
  clear F37
  refine (in_yes (a := ⟨(caseOf false ms lt dn).opn lt.length, (caseOf true ms lt dn).opn lt.length⟩) (b := ⟨(caseOf false ms ts dl).opn ts.length, (caseOf true ms ts dl).opn ts.length⟩) (by show (caseOf false ms ts dl).opn ts.length ≤ (caseOf false ms lt dn).opn lt.length; exact hno1) (by show (caseOf true ms lt dn).opn lt.length ≤ (caseOf true ms ts dl).opn ts.length; exact hno2) _).mono ?_
  rintro e w43 ⟨rfl, hg41⟩
  have hg41s := hg41.size
  (try simp at hg41s)
  have F44 := F40.gn hg41
  clear F40
  clear hg41
  go_wp2_with fail
  obtain ⟨HI45_, HI450⟩ : ∃ I : (Nat → Value) → List Deferred → World → Prop, I = (fun t ds wr => ∃ (k : Nat), t 6 = .slice at_t1 ts.length ct_t1 ∧ t 9 = .slice at_t2 lt.length ct_t2 ∧ t 12 = .int .i64 (k : Int) ∧ k ≤ ts.length ∧ ds = [] ∧ w43.heap.size ≤ wr.heap.size ∧ Bun w [rsl timEnc 4 lt_t2 ht_t2 (.slice at_t2 lt.length ct_t2) (timN (caseOf false ms lt dn) (caseOf true ms lt dn) lt.length lt.length), rsl weaEnc 6 lw_dn hw_dn (.slice aw_dn dn.length cw_dn) dn, rseed sb, rsl mchEnc 3 loN hiN (.slice a1N ms.length c1N) ms, rsl tskEnc 8 loN hiN (.slice a2N lt.length c2N) lt, rafs loN hiN lt, rsl timEnc 4 lt_t1 ht_t1 (.slice at_t1 ts.length ct_t1) (timN (caseOf false ms ts dl) (caseOf true ms ts dl) ts.length ts.length), rsl weaEnc 6 lw_dl hw_dl (.slice aw_dl dl.length cw_dl) dl, rsl mchEnc 3 loJ hiJ (.slice a1J ms.length c1J) ms, rsl tskEnc 8 loJ hiJ (.slice a2J ts.length c2J) ts, rafs loJ hiJ ts, rsl intEnc 1 0 w.heap.size (.slice na zs.length nc) zs] wr) := ⟨_, rfl⟩
  have HI45 := Lib.hid HI450
  clear HI450
  refine wp_loopS 89 rfl HI45_ (fun t wr => ts.length - (intOf (t 12)).toNat) ?atStart1 ?round1
  case round1 =>
    intro t ds wr hHid
    rw [HI45.out] at hHid
    obtain ⟨k, e6, e9, e12, hrel⟩ := hHid
    have e : ((List.range 89).map t).toArray = #[t 0, t 1, t 2, t 3, t 4, t 5, t 6, t 7, t 8, t 9, t 10, t 11, t 12, t 13, t 14, t 15, t 16, t 17, t 18, t 19, t 20, t 21, t 22, t 23, t 24, t 25, t 26, t 27, t 28, t 29, t 30, t 31, t 32, t 33, t 34, t 35, t 36, t 37, t 38, t 39, t 40, t 41, t 42, t 43, t 44, t 45, t 46, t 47, t 48, t 49, t 50, t 51, t 52, t 53, t 54, t 55, t 56, t 57, t 58, t 59, t 60, t 61, t 62, t 63, t 64, t 65, t 66, t 67, t 68, t 69, t 70, t 71, t 72, t 73, t 74, t 75, t 76, t 77, t 78, t 79, t 80, t 81, t 82, t 83, t 84, t 85, t 86, t 87, t 88] := rfl
    (try dsimp only at e)
    rw [e6, e9, e12] at e
    rw [e]
    simp only [e12]
    clear e e6 e9 e12
    obtain ⟨hk, rfl, hs47, hF46⟩ := hrel
    clear F44
    obtain ⟨w48, rfl⟩ : ∃ x_ : World, x_ = wr := ⟨_, rfl⟩
    by_cases c49 : (k : Int) < (ts.length : Int)
    · skip
      have c49H := Lib.hid c49
      have hk2 : k < lt.length := by omega
      have hk3 : (k : Int) < (lt.length : Int) := by omega
      have hk4 : k < ts.length := by omega
      obtain ⟨x50, o51, e_⟩ := Sl.addr (hF46.at 6 rfl : Sl timEnc 4 lt_t1 ht_t1 _ (.slice at_t1 ts.length ct_t1) (timN (caseOf false ms ts dl) (caseOf true ms ts dl) ts.length ts.length)) (by rw [timN_len]; omega)
      subst e_
      obtain ⟨x52, o53, e_⟩ := Sl.addr (hF46.at 0 rfl : Sl timEnc 4 lt_t2 ht_t2 _ (.slice at_t2 lt.length ct_t2) (timN (caseOf false ms lt dn) (caseOf true ms lt dn) lt.length lt.length)) (by rw [timN_len]; omega)
      subst e_
      have hz54 : Hid ((timN (caseOf false ms ts dl) (caseOf true ms ts dl) ts.length ts.length)[k]? = some (timAt (caseOf false ms ts dl) (caseOf true ms ts dl) ts.length k)) := Lib.hid (timN_get (by omega))
      have hz55 : Hid ((timN (caseOf false ms lt dn) (caseOf true ms lt dn) lt.length lt.length)[k]? = some (timAt (caseOf false ms lt dn) (caseOf true ms lt dn) lt.length k)) := Lib.hid (timN_get (by omega))
      have HPB := Lib.hid (HLB.out.plan ts.length k (by omega))
      have HPW := Lib.hid (HLW.out.plan ts.length k (by omega))
      go_wp2_with fail
      have F56 := hF46.drew
      clear hF46
      refine ru_begin (fun W => W.cell? ⟨x52, o53 + k * 4, none⟩ = some (.int .i64 (bgAt ((caseOf false ms lt dn).plan lt.length) k)) ∧ W.cell? ⟨x52, o53 + k * 4 + 1, none⟩ = some (.int .i64 (bgAt ((caseOf true ms lt dn).plan lt.length) k)) ∧ W.cell? ⟨x50, o51 + k * 4, none⟩ = some (.int .i64 (bgAt ((caseOf false ms ts dl).plan ts.length) k)) ∧ W.cell? ⟨x50, o51 + k * 4 + 1, none⟩ = some (.int .i64 (bgAt ((caseOf true ms ts dl).plan ts.length) k)) ∧ W.cell? ⟨x52, o53 + k * 4 + 2, none⟩ = some (.int .i64 (enAt ((caseOf false ms lt dn).plan lt.length) k)) ∧ W.cell? ⟨x52, o53 + k * 4 + 2 + 1, none⟩ = some (.int .i64 (enAt ((caseOf true ms lt dn).plan lt.length) k)) ∧ W.cell? ⟨x50, o51 + k * 4 + 2, none⟩ = some (.int .i64 (enAt ((caseOf false ms ts dl).plan ts.length) k)) ∧ W.cell? ⟨x50, o51 + k * 4 + 2 + 1, none⟩ = some (.int .i64 (enAt ((caseOf true ms ts dl).plan ts.length) k))) 25 (by kernel_rfl) ?_ ?_
      · exact ⟨(((F56.at 0 rfl : Sl timEnc 4 lt_t2 ht_t2 _ (.slice (some ⟨x52, o53, none⟩) lt.length ct_t2) (timN (caseOf false ms lt dn) (caseOf true ms lt dn) lt.length lt.length))).cells hz55.out 0 _ rfl), (((F56.at 0 rfl : Sl timEnc 4 lt_t2 ht_t2 _ (.slice (some ⟨x52, o53, none⟩) lt.length ct_t2) (timN (caseOf false ms lt dn) (caseOf true ms lt dn) lt.length lt.length))).cells hz55.out 1 _ rfl), (((F56.at 6 rfl : Sl timEnc 4 lt_t1 ht_t1 _ (.slice (some ⟨x50, o51, none⟩) ts.length ct_t1) (timN (caseOf false ms ts dl) (caseOf true ms ts dl) ts.length ts.length))).cells hz54.out 0 _ rfl), (((F56.at 6 rfl : Sl timEnc 4 lt_t1 ht_t1 _ (.slice (some ⟨x50, o51, none⟩) ts.length ct_t1) (timN (caseOf false ms ts dl) (caseOf true ms ts dl) ts.length ts.length))).cells hz54.out 1 _ rfl), (((F56.at 0 rfl : Sl timEnc 4 lt_t2 ht_t2 _ (.slice (some ⟨x52, o53, none⟩) lt.length ct_t2) (timN (caseOf false ms lt dn) (caseOf true ms lt dn) lt.length lt.length))).cells hz55.out 2 _ rfl), (((F56.at 0 rfl : Sl timEnc 4 lt_t2 ht_t2 _ (.slice (some ⟨x52, o53, none⟩) lt.length ct_t2) (timN (caseOf false ms lt dn) (caseOf true ms lt dn) lt.length lt.length))).cells hz55.out 3 _ rfl), (((F56.at 6 rfl : Sl timEnc 4 lt_t1 ht_t1 _ (.slice (some ⟨x50, o51, none⟩) ts.length ct_t1) (timN (caseOf false ms ts dl) (caseOf true ms ts dl) ts.length ts.length))).cells hz54.out 2 _ rfl), (((F56.at 6 rfl : Sl timEnc 4 lt_t1 ht_t1 _ (.slice (some ⟨x50, o51, none⟩) ts.length ct_t1) (timN (caseOf false ms ts dl) (caseOf true ms ts dl) ts.length ts.length))).cells hz54.out 3 _ rfl)⟩
      obtain ⟨wd58, hwd_⟩ : ∃ x : World, w48.drew = x := ⟨_, rfl⟩
      rw [hwd_] at F56 ⊢
      have wd58s : w48.heap.size ≤ wd58.heap.size := by rw [← hwd_]; exact Nat.le_refl _
      clear hwd_
      have hS57 := (And.intro ((((F56.at 0 rfl : Sl timEnc 4 lt_t2 ht_t2 _ (.slice (some ⟨x52, o53, none⟩) lt.length ct_t2) (timN (caseOf false ms lt dn) (caseOf true ms lt dn) lt.length lt.length))).cells hz55.out 0 _ rfl)) (And.intro ((((F56.at 0 rfl : Sl timEnc 4 lt_t2 ht_t2 _ (.slice (some ⟨x52, o53, none⟩) lt.length ct_t2) (timN (caseOf false ms lt dn) (caseOf true ms lt dn) lt.length lt.length))).cells hz55.out 1 _ rfl)) (And.intro ((((F56.at 6 rfl : Sl timEnc 4 lt_t1 ht_t1 _ (.slice (some ⟨x50, o51, none⟩) ts.length ct_t1) (timN (caseOf false ms ts dl) (caseOf true ms ts dl) ts.length ts.length))).cells hz54.out 0 _ rfl)) (And.intro ((((F56.at 6 rfl : Sl timEnc 4 lt_t1 ht_t1 _ (.slice (some ⟨x50, o51, none⟩) ts.length ct_t1) (timN (caseOf false ms ts dl) (caseOf true ms ts dl) ts.length ts.length))).cells hz54.out 1 _ rfl)) (And.intro ((((F56.at 0 rfl : Sl timEnc 4 lt_t2 ht_t2 _ (.slice (some ⟨x52, o53, none⟩) lt.length ct_t2) (timN (caseOf false ms lt dn) (caseOf true ms lt dn) lt.length lt.length))).cells hz55.out 2 _ rfl)) (And.intro ((((F56.at 0 rfl : Sl timEnc 4 lt_t2 ht_t2 _ (.slice (some ⟨x52, o53, none⟩) lt.length ct_t2) (timN (caseOf false ms lt dn) (caseOf true ms lt dn) lt.length lt.length))).cells hz55.out 3 _ rfl)) (And.intro ((((F56.at 6 rfl : Sl timEnc 4 lt_t1 ht_t1 _ (.slice (some ⟨x50, o51, none⟩) ts.length ct_t1) (timN (caseOf false ms ts dl) (caseOf true ms ts dl) ts.length ts.length))).cells hz54.out 2 _ rfl)) ((((F56.at 6 rfl : Sl timEnc 4 lt_t1 ht_t1 _ (.slice (some ⟨x50, o51, none⟩) ts.length ct_t1) (timN (caseOf false ms ts dl) (caseOf true ms ts dl) ts.length ts.length))).cells hz54.out 3 _ rfl)))))))))
      refine ru_t 0 [12, 10, 4, 3, 2] ?_
      refine ru_t 1 [12, 10, 4, 3, 2] ?_
      refine ru_t 2 [12, 10, 4, 3] ?_
      refine ru_t 3 [12, 10, 4] ?_
      refine ru_t 4 [12, 10] ?_
      refine ru_t 5 [12, 10, 9, 8, 7] ?_
      refine ru_t 6 [12, 10, 9, 8, 7] ?_
      refine ru_t 7 [12, 10, 9, 8] ?_
      refine ru_t 8 [12, 10, 9] ?_
      refine ru_t 9 [12, 10] ?_
      (try simp only [Act.put, List.setIfInBounds_toArray, List.set_cons_zero, List.set_cons_succ])
      clear hS57
      refine ru_one 10 rfl (by kernel_rfl) (fun K hK => ?_)
      go_simp
      refine (in_yes (a := ⟨bgAt ((caseOf false ms lt dn).plan lt.length) k, bgAt ((caseOf true ms lt dn).plan lt.length) k⟩) (b := ⟨bgAt ((caseOf false ms ts dl).plan ts.length) k, bgAt ((caseOf true ms ts dl).plan ts.length) k⟩) (by show bgAt ((caseOf false ms ts dl).plan ts.length) k ≤ bgAt ((caseOf false ms lt dn).plan lt.length) k; rw [HSN.out.1]; exact HPB.out.1) (by show bgAt ((caseOf true ms lt dn).plan lt.length) k ≤ bgAt ((caseOf true ms ts dl).plan ts.length) k; rw [HSN.out.1]; exact HPW.out.1) _).mono ?_
      rintro e w61 ⟨rfl, hg59⟩
      have hg59s := hg59.size
      (try simp at hg59s)
      have F62 := F56.gn hg59
      clear F56
      refine ru_back hK (by exact ⟨(((F62.at 0 rfl : Sl timEnc 4 lt_t2 ht_t2 _ (.slice (some ⟨x52, o53, none⟩) lt.length ct_t2) (timN (caseOf false ms lt dn) (caseOf true ms lt dn) lt.length lt.length))).cells hz55.out 0 _ rfl), (((F62.at 0 rfl : Sl timEnc 4 lt_t2 ht_t2 _ (.slice (some ⟨x52, o53, none⟩) lt.length ct_t2) (timN (caseOf false ms lt dn) (caseOf true ms lt dn) lt.length lt.length))).cells hz55.out 1 _ rfl), (((F62.at 6 rfl : Sl timEnc 4 lt_t1 ht_t1 _ (.slice (some ⟨x50, o51, none⟩) ts.length ct_t1) (timN (caseOf false ms ts dl) (caseOf true ms ts dl) ts.length ts.length))).cells hz54.out 0 _ rfl), (((F62.at 6 rfl : Sl timEnc 4 lt_t1 ht_t1 _ (.slice (some ⟨x50, o51, none⟩) ts.length ct_t1) (timN (caseOf false ms ts dl) (caseOf true ms ts dl) ts.length ts.length))).cells hz54.out 1 _ rfl), (((F62.at 0 rfl : Sl timEnc 4 lt_t2 ht_t2 _ (.slice (some ⟨x52, o53, none⟩) lt.length ct_t2) (timN (caseOf false ms lt dn) (caseOf true ms lt dn) lt.length lt.length))).cells hz55.out 2 _ rfl), (((F62.at 0 rfl : Sl timEnc 4 lt_t2 ht_t2 _ (.slice (some ⟨x52, o53, none⟩) lt.length ct_t2) (timN (caseOf false ms lt dn) (caseOf true ms lt dn) lt.length lt.length))).cells hz55.out 3 _ rfl), (((F62.at 6 rfl : Sl timEnc 4 lt_t1 ht_t1 _ (.slice (some ⟨x50, o51, none⟩) ts.length ct_t1) (timN (caseOf false ms ts dl) (caseOf true ms ts dl) ts.length ts.length))).cells hz54.out 2 _ rfl), (((F62.at 6 rfl : Sl timEnc 4 lt_t1 ht_t1 _ (.slice (some ⟨x50, o51, none⟩) ts.length ct_t1) (timN (caseOf false ms ts dl) (caseOf true ms ts dl) ts.length ts.length))).cells hz54.out 3 _ rfl)⟩) (fun hHeld => ?_)
      clear hK K
      (try simp only [Act.put, List.setIfInBounds_toArray, List.set_cons_zero, List.set_cons_succ])
      refine ru_p 11 ?_
      (try simp only [Act.put, List.setIfInBounds_toArray, List.set_cons_zero, List.set_cons_succ])
      refine ru_p 12 ?_
      (try simp only [Act.put, List.setIfInBounds_toArray, List.set_cons_zero, List.set_cons_succ])
      refine ru_p 13 ?_
      refine ru_p 14 ?_
      refine ru_p 18 ?_
      refine ru_p 19 ?_
      (try simp only [Act.put, List.setIfInBounds_toArray, List.set_cons_zero, List.set_cons_succ])
      refine ru_p 15 ?_
      refine ru_p 20 ?_
      (try simp only [Act.put, List.setIfInBounds_toArray, List.set_cons_zero, List.set_cons_succ])
      refine ru_p 16 ?_
      refine ru_p 21 ?_
      (try simp only [Act.put, List.setIfInBounds_toArray, List.set_cons_zero, List.set_cons_succ])
      refine ru_t 17 [24, 23] ?_
      refine ru_t 22 [24, 23] ?_
      (try simp only [Act.put, List.setIfInBounds_toArray, List.set_cons_zero, List.set_cons_succ])
      refine ru_one 23 rfl (by kernel_rfl) (fun K hK => ?_)
      go_simp
      refine (in_yes (a := ⟨enAt ((caseOf false ms lt dn).plan lt.length) k, enAt ((caseOf true ms lt dn).plan lt.length) k⟩) (b := ⟨enAt ((caseOf false ms ts dl).plan ts.length) k, enAt ((caseOf true ms ts dl).plan ts.length) k⟩) (by show enAt ((caseOf false ms ts dl).plan ts.length) k ≤ enAt ((caseOf false ms lt dn).plan lt.length) k; rw [HSN.out.1]; exact HPB.out.2) (by show enAt ((caseOf true ms lt dn).plan lt.length) k ≤ enAt ((caseOf true ms ts dl).plan ts.length) k; rw [HSN.out.1]; exact HPW.out.2) _).mono ?_
      rintro e w65 ⟨rfl, hg63⟩
      have hg63s := hg63.size
      (try simp at hg63s)
      have F66 := F62.gn hg63
      clear F62
      refine ru_back hK (by exact ⟨(((F66.at 0 rfl : Sl timEnc 4 lt_t2 ht_t2 _ (.slice (some ⟨x52, o53, none⟩) lt.length ct_t2) (timN (caseOf false ms lt dn) (caseOf true ms lt dn) lt.length lt.length))).cells hz55.out 0 _ rfl), (((F66.at 0 rfl : Sl timEnc 4 lt_t2 ht_t2 _ (.slice (some ⟨x52, o53, none⟩) lt.length ct_t2) (timN (caseOf false ms lt dn) (caseOf true ms lt dn) lt.length lt.length))).cells hz55.out 1 _ rfl), (((F66.at 6 rfl : Sl timEnc 4 lt_t1 ht_t1 _ (.slice (some ⟨x50, o51, none⟩) ts.length ct_t1) (timN (caseOf false ms ts dl) (caseOf true ms ts dl) ts.length ts.length))).cells hz54.out 0 _ rfl), (((F66.at 6 rfl : Sl timEnc 4 lt_t1 ht_t1 _ (.slice (some ⟨x50, o51, none⟩) ts.length ct_t1) (timN (caseOf false ms ts dl) (caseOf true ms ts dl) ts.length ts.length))).cells hz54.out 1 _ rfl), (((F66.at 0 rfl : Sl timEnc 4 lt_t2 ht_t2 _ (.slice (some ⟨x52, o53, none⟩) lt.length ct_t2) (timN (caseOf false ms lt dn) (caseOf true ms lt dn) lt.length lt.length))).cells hz55.out 2 _ rfl), (((F66.at 0 rfl : Sl timEnc 4 lt_t2 ht_t2 _ (.slice (some ⟨x52, o53, none⟩) lt.length ct_t2) (timN (caseOf false ms lt dn) (caseOf true ms lt dn) lt.length lt.length))).cells hz55.out 3 _ rfl), (((F66.at 6 rfl : Sl timEnc 4 lt_t1 ht_t1 _ (.slice (some ⟨x50, o51, none⟩) ts.length ct_t1) (timN (caseOf false ms ts dl) (caseOf true ms ts dl) ts.length ts.length))).cells hz54.out 2 _ rfl), (((F66.at 6 rfl : Sl timEnc 4 lt_t1 ht_t1 _ (.slice (some ⟨x50, o51, none⟩) ts.length ct_t1) (timN (caseOf false ms ts dl) (caseOf true ms ts dl) ts.length ts.length))).cells hz54.out 3 _ rfl)⟩) (fun hHeld => ?_)
      clear hK K
      (try simp only [Act.put, List.setIfInBounds_toArray, List.set_cons_zero, List.set_cons_succ])
      refine ru_p 24 ?_
      (try simp only [Act.put, List.setIfInBounds_toArray, List.set_cons_zero, List.set_cons_succ])
      refine ru_one 25 rfl (by kernel_rfl) (fun K hK => ?_)
      go_simp
      refine ru_back_late hK (by kernel_rfl) ?_
      clear hK K
      (try simp only [Act.put, List.setIfInBounds_toArray, List.set_cons_zero, List.set_cons_succ])
      refine ru_done (by kernel_rfl) ?_
      obtain ⟨w67, hx68, F70, hxs69⟩ := (show Bun w [rsl timEnc 4 lt_t2 ht_t2 (.slice (some ⟨x52, o53, none⟩) lt.length ct_t2) (timN (caseOf false ms lt dn) (caseOf true ms lt dn) lt.length lt.length), rsl weaEnc 6 lw_dn hw_dn (.slice aw_dn dn.length cw_dn) dn, rseed sb, rsl mchEnc 3 loN hiN (.slice a1N ms.length c1N) ms, rsl tskEnc 8 loN hiN (.slice a2N lt.length c2N) lt, rafs loN hiN lt, rsl timEnc 4 lt_t1 ht_t1 (.slice (some ⟨x50, o51, none⟩) ts.length ct_t1) (timN (caseOf false ms ts dl) (caseOf true ms ts dl) ts.length ts.length), rsl weaEnc 6 lw_dl hw_dl (.slice aw_dl dl.length cw_dl) dl, rsl mchEnc 3 loJ hiJ (.slice a1J ms.length c1J) ms, rsl tskEnc 8 loJ hiJ (.slice a2J ts.length c2J) ts, rafs loJ hiJ ts, rsl intEnc 1 0 w.heap.size (.slice na zs.length nc) zs] _ from F66).name
      (try simp at hxs69)
      rw [hx68]
      clear hx68 F66
      go_wp2_with fail
      (first | refine ⟨by kernel_rfl, ?_, ?_⟩ | refine ⟨rfl, ?_, ?_⟩ | refine ⟨?_, ?_⟩)
      · rw [HI45.out]; exact ⟨k + 1, (by first | kernel_rfl | rfl), (by first | kernel_rfl | rfl), (by show Value.int .i64 ((k : Int) + 1) = _; simp), (by omega), (by first | rfl | simp), (by first | omega | (simp; done) | (simp; omega)), F70⟩
      · simp [slot, intOf]; omega
    · skip
      have c49H := Lib.hid c49
      have c49a : decide ((k : Int) < (ts.length : Int)) = false := dec_f c49
      go_wp2_with fail
      refine (awake_c _).mono ?_
      rintro e w73 ⟨rfl, hg71⟩
      have hg71s := hg71.size
      (try simp at hg71s)
      have F74 := hF46.gn hg71
      clear hF46
      clear hg71
      go_wp2_with fail
      go_ret
      exact ⟨rfl, F74.gb⟩
  case atStart1 =>
    rw [HI45.out]
    exact ⟨0, (by first | kernel_rfl | rfl), (by first | kernel_rfl | rfl), rfl, Nat.zero_le _, rfl, (by first | exact Nat.le_refl _ | omega | (simp; done) | (simp; omega)), (((F44.drop 0 rfl).drop 6 rfl).drop 7 rfl)⟩

end Go.Proofs.Ytokelpmngahnoaa
