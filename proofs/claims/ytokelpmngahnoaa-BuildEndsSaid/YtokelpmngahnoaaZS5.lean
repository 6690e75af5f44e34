/- build: BuildEnds walked. -/
import Derived.Test.YtokelpmngahnoaaZL0
import Derived.Test.YtokelpmngahnoaaZJK1
import Derived.Test.YtokelpmngahnoaaZJK2
import Derived.Test.YtokelpmngahnoaaZW2
import Derived.Test.YtokelpmngahnoaaZT3
import Derived.Test.YtokelpmngahnoaaZS4
set_option linter.unusedVariables false
set_option linter.unusedSimpArgs false
set_option linter.unnecessarySimpa false
namespace Go.Proofs.Ytokelpmngahnoaa
open Go.RowKit
set_option maxRecDepth 100000
attribute [local go_sem] Oper.semAt_some
theorem Bun.fixMore {w0 A : World} {L : List Res} {g : Nat} {t : TypeId} {cs : Array Value} {r : Res} (i : Nat) (h : Bun w0 L A) (hr : L[i]? = some r) (hm : r.mine = false) (hg : r.X g) (hb : Bk A g t cs) : Bun w0 (rfix g t cs :: L) A :=
  h.more i (rfix g t cs) hr hm rfl (fun _ h_ => h_ ▸ hg) hb
theorem built_b (wb : Bool) (lo hi : Nat) (vm vt : Value) (ms : List Mch) (ts : List Tsk) (dl : List Wea) (lo3 hi3 : Nat) (vh vw vf vk : Value) (lh lw lf : List Int) (rows : List (Value × List Bool)) (w : World) (hj : JobAt lo hi w vm vt ms ts) (h2 : hi ≤ w.heap.size) (hca : CaseAt lo3 hi3 w vh vw vf vk lh lw lf rows) (h4 : hi3 ≤ w.heap.size)
    (hcs : CsIs (caseOf wb ms ts dl) ms ts lh lw lf (rows.map (·.2)) ∧ ∀ r ∈ rows, sliceB r.1 = true) (hok : JobOk ms ts) (hn : dl.length ≤ 400) (x : Int) (hx : (caseOf wb ms ts dl).opn ts.length = x) :
    Calls Try.prog 24 #[.agg #[vm, vt], .int .i64 (dl.length : Int), .agg #[vh, vw, vf, vk]] w (fun e w' => ∃ (g lo hi : Nat) (vm vt vh vw vf vk vl vB vD : Value) (ab ae : Option Addr) (cb ce : Nat), e = .returned (.tuple #[.pointer (some ⟨g, 0, none⟩), .int .i64 x]) ∧ (w.heap.size ≤ lo ∧ hi ≤ w'.heap.size ∧ lo ≤ g ∧ g < hi) ∧
  (Bk w' g 58 #[vm, vt, vh, vw, vf, vk, vl, .slice ab ts.length cb, .slice ae ts.length ce, vB, vD] ∧ Sl intEnc 1 lo hi w' (.slice ab ts.length cb) (rowF ((caseOf wb ms ts dl).bgI ts.length) ts.length) ∧ Sl intEnc 1 lo hi w' (.slice ae ts.length ce) (rowF ((caseOf wb ms ts dl).enI ts.length) ts.length)) ∧ w.grownBy w' none) := by
  subst hx
  have := hok.nt
  have := hok.nm
  exact (built_c lo hi vm vt ms ts dl.length lo3 hi3 vh vw vf vk lh lw lf rows (caseOf wb ms ts dl) w hj h2 hca h4 rfl hcs.1 hcs.2 (caseOk hok hn) (by omega) (by omega) (fun k t hk => (hok.to_ k t hk).m) (fun k t hk => (hok.to_ k t hk).af)).mono fun _ _ h => h

set_option maxHeartbeats 32000000 in
theorem ends_walk (vn : Value) (zs : List Int) (w : World) (hn : Sl intEnc 1 0 w.heap.size w vn zs) :
    Calls Try.prog 5 #[vn] w (Ret (.bool true) w) := by
  have F1 : Bun w [] w := Bun.nil _
  obtain ⟨na, nc, rfl⟩ := hn.any
  have hm_nums := hn.len
  unfold maxLen at hm_nums
  have F2 := F1.sl0 hn (Nat.le_refl _) rfl
  clear F1
  go_enter Try.func5, Try.ntmps5
  go_wp2_with fail
  refine (newSeed_c 0 w.heap.size _ zs _ (F2.at 0 rfl : Sl intEnc 1 0 w.heap.size _ (.slice na zs.length nc) zs)).mono ?_
  rintro e w5 ⟨sb, rfl, hsb, hsbs, hg3⟩
  have hsbl := hsbs.lt
  have hg3s := hg3.size
  (try simp at hg3s)
  have F6 := F2.add (rseed sb) hg3 (hsbs) (fun g e => by cases e; exact ⟨hsb, hsbs.lt⟩)
  clear F2
  clear hg3
  go_wp2_with fail
  refine (jobOf_c sb 8 _ (F6.at 0 rfl : SeedAt _ sb) (by omega)).mono ?_
  rintro e w9 ⟨ms, ts, a1J, a2J, c1J, c2J, loJ, hiJ, rfl, ⟨hxJ, hyJ⟩, hjJ, ⟨hjeJ, hmaJ, hmbJ, htaJ⟩, hs8, hg7⟩
  have HJEJ := Lib.hid hjeJ
  clear hjeJ
  have hg7s := hg7.size
  (try simp at hg7s)
  have F10 := F6.seedAdd (rafs loJ hiJ ts) hg7 hs8 (hjJ.af) (fun g e => ⟨Nat.le_trans hxJ e.1, Nat.lt_of_lt_of_le e.2 hyJ⟩)
  clear F6
  clear hg7
  have F11 := F10.more 0 (rsl tskEnc 8 loJ hiJ (.slice a2J ts.length c2J) ts) rfl rfl rfl (fun _ h_ => h_) (Sl.gb hjJ.t (gb_refl _ none) (fun _ e => by cases e))
  clear F10
  have hm_tsJ := (F11.at 0 rfl : Sl tskEnc 8 loJ hiJ _ (.slice a2J ts.length c2J) ts).len
  unfold maxLen at hm_tsJ
  have F12 := F11.more 1 (rsl mchEnc 3 loJ hiJ (.slice a1J ms.length c1J) ms) rfl rfl rfl (fun _ h_ => h_) (Sl.gb hjJ.m (gb_refl _ none) (fun _ e => by cases e))
  clear F11
  have hm_msJ := (F12.at 0 rfl : Sl mchEnc 3 loJ hiJ _ (.slice a1J ms.length c1J) ms).len
  unfold maxLen at hm_msJ
  go_wp2_with fail
  refine (weekOf_c sb 6 _ ((F12.front 3 rfl rfl).at 0 rfl : SeedAt _ sb) (by omega)).mono ?_
  rintro e w15 ⟨dl, aw_dl, cw_dl, lw_dl, hw_dl, rfl, ⟨hwx_dl, hwy_dl⟩, hwz_dl, ⟨hwl_dl, hwe_dl⟩, hs14, hg13⟩
  have HWE_dl := Lib.hid hwe_dl
  clear hwe_dl
  have hg13s := hg13.size
  (try simp at hg13s)
  have F16 := (F12.front 3 rfl rfl).seedAdd (rsl weaEnc 6 lw_dl hw_dl (.slice aw_dl dl.length cw_dl) dl) hg13 hs14 (hwz_dl) (fun g e => ⟨Nat.le_trans hwx_dl e.1, Nat.lt_of_lt_of_le e.2 hwy_dl⟩)
  clear F12
  clear hg13
  have HBE1 := Lib.hid (bothErr_of HJEJ.out HWE_dl.out (by omega))
  have HOK := Lib.hid (bothOk HBE1.out)
  have hnt := HOK.out.1.nt
  have hnd := HOK.out.2
  go_wp2_with fail
  have F17 := F16.new 25 #[.slice a1J ms.length c1J, .slice a2J ts.length c2J] (n := w15.heap.size) (by simp)
  clear F16
  refine (btimes_ok loJ hiJ _ _ ms ts lw_dl hw_dl _ dl _ (JobAt.mk (F17.at 3 rfl : Sl mchEnc 3 loJ hiJ _ (.slice a1J ms.length c1J) ms) (F17.at 4 rfl : Sl tskEnc 8 loJ hiJ _ (.slice a2J ts.length c2J) ts) (F17.at 5 rfl : Afs loJ hiJ _ ts)) (by first | omega | (simp; omega)) (F17.at 1 rfl : Sl weaEnc 6 lw_dl hw_dl _ (.slice aw_dl dl.length cw_dl) dl) (by first | omega | (simp; omega)) HBE1.out _ _ rfl rfl).mono ?_
  rintro e w20 ⟨at_t1, ct_t1, lt_t1, ht_t1, rfl, ⟨htx_t1, hty_t1⟩, htz_t1, hg18⟩
  have hg18s := hg18.size
  (try simp at hg18s)
  have F21 := F17.add (rsl timEnc 4 lt_t1 ht_t1 (.slice at_t1 ts.length ct_t1) (timN (caseOf false ms ts dl) (caseOf true ms ts dl) ts.length ts.length)) hg18 (htz_t1) (fun g e => ⟨Nat.le_trans htx_t1 e.1, Nat.lt_of_lt_of_le e.2 hty_t1⟩)
  clear F17
  clear hg18
  have b22 := F21.bx2 1 rfl
  go_wp2_with fail
  clear b22
  have F23 := F21.new 39 #[.int .i64 ((caseOf false ms ts dl).opn ts.length), .int .i64 ((caseOf true ms ts dl).opn ts.length)] (n := w20.heap.size) (by simp)
  clear F21
  obtain ⟨w24, hx25, F27, hxs26⟩ := (show Bun w [rbox w20.heap.size 39 #[.int .i64 ((caseOf false ms ts dl).opn ts.length), .int .i64 ((caseOf true ms ts dl).opn ts.length)], rsl timEnc 4 lt_t1 ht_t1 (.slice at_t1 ts.length ct_t1) (timN (caseOf false ms ts dl) (caseOf true ms ts dl) ts.length ts.length), rbox w15.heap.size 25 #[.slice a1J ms.length c1J, .slice a2J ts.length c2J], rsl weaEnc 6 lw_dl hw_dl (.slice aw_dl dl.length cw_dl) dl, rseed sb, rsl mchEnc 3 loJ hiJ (.slice a1J ms.length c1J) ms, rsl tskEnc 8 loJ hiJ (.slice a2J ts.length c2J) ts, rafs loJ hiJ ts, rsl intEnc 1 0 w.heap.size (.slice na zs.length nc) zs] _ from F23).name
  (try simp at hxs26)
  rw [hx25]
  clear hx25 F23
  have F28 := F27.drew
  clear F27
  refine ru_begin (fun W => W.cell? ⟨w15.heap.size, 0, none⟩ = some (.slice a1J ms.length c1J) ∧ W.cell? ⟨w15.heap.size, 1, none⟩ = some (.slice a2J ts.length c2J)) 11 (by kernel_rfl) ?_ ?_
  · exact ⟨F28.cl 2 0 rfl rfl, F28.cl 2 1 rfl rfl⟩
  obtain ⟨wd30, hwd_⟩ : ∃ x : World, w24.drew = x := ⟨_, rfl⟩
  rw [hwd_] at F28 ⊢
  have wd30s : w24.heap.size ≤ wd30.heap.size := by rw [← hwd_]; exact Nat.le_refl _
  clear hwd_
  have hS29 := (And.intro (F28.cl 2 0 rfl rfl) (F28.cl 2 1 rfl rfl))
  refine ru_t 0 [] ?_
  refine ru_t 1 [] ?_
  refine ru_t 2 [] ?_
  refine ru_t 3 [] ?_
  refine ru_t 4 [] ?_
  (try simp only [Act.put, List.setIfInBounds_toArray, List.set_cons_zero, List.set_cons_succ])
  clear hS29
  refine ru_one 5 rfl (by kernel_rfl) (fun K hK => ?_)
  go_simp
  refine (rcaseOf_r false loJ hiJ _ _ ms ts lw_dl hw_dl _ dl _ (JobAt.mk (F28.at 5 rfl : Sl mchEnc 3 loJ hiJ _ (.slice a1J ms.length c1J) ms) (F28.at 6 rfl : Sl tskEnc 8 loJ hiJ _ (.slice a2J ts.length c2J) ts) (F28.at 7 rfl : Afs loJ hiJ _ ts)) (by first | omega | (simp; done) | (simp; omega)) (F28.at 3 rfl : Sl weaEnc 6 lw_dl hw_dl _ (.slice aw_dl dl.length cw_dl) dl) (by first | omega | (simp; done) | (simp; omega)) HOK.out.1 HOK.out.2 false rfl).mono ?_
  rintro e w33 ⟨v1Cf, v2Cf, v3Cf, v4Cf, lhCf, lwCf, lfCf, rwCf, lcCf, hcCf, rfl, ⟨hcxCf, hcyCf⟩, hczCf, hcsCf, hg31⟩
  have HCSCf := Lib.hid hcsCf
  clear hcsCf
  have hg31s := hg31.size
  (try simp at hg31s)
  have F34 := F28.add (rcase lcCf hcCf v1Cf v2Cf v3Cf v4Cf lhCf lwCf lfCf rwCf) hg31 (hczCf) (fun g e => ⟨Nat.le_trans hcxCf e.1, Nat.lt_of_lt_of_le e.2 hcyCf⟩)
  clear F28
  refine ru_back hK (by exact ⟨F34.cl 3 0 rfl rfl, F34.cl 3 1 rfl rfl⟩) (fun hHeld => ?_)
  clear hK K
  (try simp only [Act.put, List.setIfInBounds_toArray, List.set_cons_zero, List.set_cons_succ])
  refine ru_one 6 rfl (by kernel_rfl) (fun K hK => ?_)
  go_simp
  refine (built_b false loJ hiJ _ _ ms ts dl lcCf hcCf _ _ _ _ _ _ _ rwCf _ (JobAt.mk (F34.at 6 rfl : Sl mchEnc 3 loJ hiJ _ (.slice a1J ms.length c1J) ms) (F34.at 7 rfl : Sl tskEnc 8 loJ hiJ _ (.slice a2J ts.length c2J) ts) (F34.at 8 rfl : Afs loJ hiJ _ ts)) (by first | omega | (simp; done) | (simp; omega)) (F34.at 0 rfl : CaseAt lcCf hcCf _ v1Cf v2Cf v3Cf v4Cf lhCf lwCf lfCf rwCf) (by first | omega | (simp; done) | (simp; omega)) HCSCf.out HOK.out.1 HOK.out.2 _ rfl).mono ?_
  rintro e w37 ⟨gCf, lSCf, hhCf, u0Cf, u1Cf, u2Cf, u3Cf, u4Cf, u5Cf, u6Cf, u7Cf, u8Cf, abCf, aeCf, cbCf, ceCf, rfl, hSxCf, hSCf, hg35⟩
  have hg35s := hg35.size
  (try simp at hg35s)
  have F38 := F34.add (rsl intEnc 1 lSCf hhCf (.slice abCf ts.length cbCf) (rowF ((caseOf false ms ts dl).bgI ts.length) ts.length)) hg35 (hSCf.2.1) (fun g e => ⟨Nat.le_trans hSxCf.1 e.1, Nat.lt_of_lt_of_le e.2 hSxCf.2.1⟩)
  clear F34
  have F39 := F38.more 0 (rsl intEnc 1 lSCf hhCf (.slice aeCf ts.length ceCf) (rowF ((caseOf false ms ts dl).enI ts.length) ts.length)) rfl rfl rfl (fun _ h_ => h_) (Sl.gb hSCf.2.2 (gb_refl _ none) (fun _ e => by cases e))
  clear F38
  have F40 := F39.fixMore 1 rfl rfl ⟨hSxCf.2.2.1, hSxCf.2.2.2⟩ hSCf.1
  clear F39
  refine ru_back hK (by exact ⟨F40.cl 6 0 rfl rfl, F40.cl 6 1 rfl rfl⟩) (fun hHeld => ?_)
  clear hK K
  (try simp only [Act.put, List.setIfInBounds_toArray, List.set_cons_zero, List.set_cons_succ])
  refine ru_p 7 ?_
  (try simp only [Act.put, List.setIfInBounds_toArray, List.set_cons_zero, List.set_cons_succ])
  refine ru_p 8 ?_
  refine ru_p 9 ?_
  (try simp only [Act.put, List.setIfInBounds_toArray, List.set_cons_zero, List.set_cons_succ])
  refine ru_p 10 ?_
  (try simp only [Act.put, List.setIfInBounds_toArray, List.set_cons_zero, List.set_cons_succ])
  refine ru_one 11 rfl (by kernel_rfl) (fun K hK => ?_)
  go_simp
  refine ru_back_late hK (by kernel_rfl) ?_
  clear hK K
  (try simp only [Act.put, List.setIfInBounds_toArray, List.set_cons_zero, List.set_cons_succ])
  refine ru_done (by kernel_rfl) ?_
  obtain ⟨w41, hx42, F44, hxs43⟩ := (show Bun w [rfix gCf 58 #[u0Cf, u1Cf, u2Cf, u3Cf, u4Cf, u5Cf, u6Cf, .slice abCf ts.length cbCf, .slice aeCf ts.length ceCf, u7Cf, u8Cf], rsl intEnc 1 lSCf hhCf (.slice aeCf ts.length ceCf) (rowF ((caseOf false ms ts dl).enI ts.length) ts.length), rsl intEnc 1 lSCf hhCf (.slice abCf ts.length cbCf) (rowF ((caseOf false ms ts dl).bgI ts.length) ts.length), rcase lcCf hcCf v1Cf v2Cf v3Cf v4Cf lhCf lwCf lfCf rwCf, rbox w20.heap.size 39 #[.int .i64 ((caseOf false ms ts dl).opn ts.length), .int .i64 ((caseOf true ms ts dl).opn ts.length)], rsl timEnc 4 lt_t1 ht_t1 (.slice at_t1 ts.length ct_t1) (timN (caseOf false ms ts dl) (caseOf true ms ts dl) ts.length ts.length), rbox w15.heap.size 25 #[.slice a1J ms.length c1J, .slice a2J ts.length c2J], rsl weaEnc 6 lw_dl hw_dl (.slice aw_dl dl.length cw_dl) dl, rseed sb, rsl mchEnc 3 loJ hiJ (.slice a1J ms.length c1J) ms, rsl tskEnc 8 loJ hiJ (.slice a2J ts.length c2J) ts, rafs loJ hiJ ts, rsl intEnc 1 0 w.heap.size (.slice na zs.length nc) zs] _ from F40).name
  (try simp at hxs43)
  rw [hx42]
  clear hx42 F40
  go_wp2_with fail
  have F45 := F44.drew
  clear F44
  refine ru_begin (fun W => W.cell? ⟨w15.heap.size, 0, none⟩ = some (.slice a1J ms.length c1J) ∧ W.cell? ⟨w15.heap.size, 1, none⟩ = some (.slice a2J ts.length c2J)) 11 (by kernel_rfl) ?_ ?_
  · exact ⟨F45.cl 6 0 rfl rfl, F45.cl 6 1 rfl rfl⟩
  obtain ⟨wd47, hwd_⟩ : ∃ x : World, w41.drew = x := ⟨_, rfl⟩
  rw [hwd_] at F45 ⊢
  have wd47s : w41.heap.size ≤ wd47.heap.size := by rw [← hwd_]; exact Nat.le_refl _
  clear hwd_
  have hS46 := (And.intro (F45.cl 6 0 rfl rfl) (F45.cl 6 1 rfl rfl))
  refine ru_t 0 [] ?_
  refine ru_t 1 [] ?_
  refine ru_t 2 [] ?_
  refine ru_t 3 [] ?_
  refine ru_t 4 [] ?_
  (try simp only [Act.put, List.setIfInBounds_toArray, List.set_cons_zero, List.set_cons_succ])
  clear hS46
  refine ru_one 5 rfl (by kernel_rfl) (fun K hK => ?_)
  go_simp
  refine (rcaseOf_r true loJ hiJ _ _ ms ts lw_dl hw_dl _ dl _ (JobAt.mk (F45.at 9 rfl : Sl mchEnc 3 loJ hiJ _ (.slice a1J ms.length c1J) ms) (F45.at 10 rfl : Sl tskEnc 8 loJ hiJ _ (.slice a2J ts.length c2J) ts) (F45.at 11 rfl : Afs loJ hiJ _ ts)) (by first | omega | (simp; done) | (simp; omega)) (F45.at 7 rfl : Sl weaEnc 6 lw_dl hw_dl _ (.slice aw_dl dl.length cw_dl) dl) (by first | omega | (simp; done) | (simp; omega)) HOK.out.1 HOK.out.2 true rfl).mono ?_
  rintro e w50 ⟨v1Ct, v2Ct, v3Ct, v4Ct, lhCt, lwCt, lfCt, rwCt, lcCt, hcCt, rfl, ⟨hcxCt, hcyCt⟩, hczCt, hcsCt, hg48⟩
  have HCSCt := Lib.hid hcsCt
  clear hcsCt
  have hg48s := hg48.size
  (try simp at hg48s)
  have F51 := F45.add (rcase lcCt hcCt v1Ct v2Ct v3Ct v4Ct lhCt lwCt lfCt rwCt) hg48 (hczCt) (fun g e => ⟨Nat.le_trans hcxCt e.1, Nat.lt_of_lt_of_le e.2 hcyCt⟩)
  clear F45
  refine ru_back hK (by exact ⟨F51.cl 7 0 rfl rfl, F51.cl 7 1 rfl rfl⟩) (fun hHeld => ?_)
  clear hK K
  (try simp only [Act.put, List.setIfInBounds_toArray, List.set_cons_zero, List.set_cons_succ])
  refine ru_one 6 rfl (by kernel_rfl) (fun K hK => ?_)
  go_simp
  refine (built_b true loJ hiJ _ _ ms ts dl lcCt hcCt _ _ _ _ _ _ _ rwCt _ (JobAt.mk (F51.at 10 rfl : Sl mchEnc 3 loJ hiJ _ (.slice a1J ms.length c1J) ms) (F51.at 11 rfl : Sl tskEnc 8 loJ hiJ _ (.slice a2J ts.length c2J) ts) (F51.at 12 rfl : Afs loJ hiJ _ ts)) (by first | omega | (simp; done) | (simp; omega)) (F51.at 0 rfl : CaseAt lcCt hcCt _ v1Ct v2Ct v3Ct v4Ct lhCt lwCt lfCt rwCt) (by first | omega | (simp; done) | (simp; omega)) HCSCt.out HOK.out.1 HOK.out.2 _ rfl).mono ?_
  rintro e w54 ⟨gCt, lSCt, hhCt, u0Ct, u1Ct, u2Ct, u3Ct, u4Ct, u5Ct, u6Ct, u7Ct, u8Ct, abCt, aeCt, cbCt, ceCt, rfl, hSxCt, hSCt, hg52⟩
  have hg52s := hg52.size
  (try simp at hg52s)
  have F55 := F51.add (rsl intEnc 1 lSCt hhCt (.slice abCt ts.length cbCt) (rowF ((caseOf true ms ts dl).bgI ts.length) ts.length)) hg52 (hSCt.2.1) (fun g e => ⟨Nat.le_trans hSxCt.1 e.1, Nat.lt_of_lt_of_le e.2 hSxCt.2.1⟩)
  clear F51
  have F56 := F55.more 0 (rsl intEnc 1 lSCt hhCt (.slice aeCt ts.length ceCt) (rowF ((caseOf true ms ts dl).enI ts.length) ts.length)) rfl rfl rfl (fun _ h_ => h_) (Sl.gb hSCt.2.2 (gb_refl _ none) (fun _ e => by cases e))
  clear F55
  have F57 := F56.fixMore 1 rfl rfl ⟨hSxCt.2.2.1, hSxCt.2.2.2⟩ hSCt.1
  clear F56
  refine ru_back hK (by exact ⟨F57.cl 10 0 rfl rfl, F57.cl 10 1 rfl rfl⟩) (fun hHeld => ?_)
  clear hK K
  (try simp only [Act.put, List.setIfInBounds_toArray, List.set_cons_zero, List.set_cons_succ])
  refine ru_p 7 ?_
  (try simp only [Act.put, List.setIfInBounds_toArray, List.set_cons_zero, List.set_cons_succ])
  refine ru_p 8 ?_
  refine ru_p 9 ?_
  (try simp only [Act.put, List.setIfInBounds_toArray, List.set_cons_zero, List.set_cons_succ])
  refine ru_p 10 ?_
  (try simp only [Act.put, List.setIfInBounds_toArray, List.set_cons_zero, List.set_cons_succ])
  refine ru_one 11 rfl (by kernel_rfl) (fun K hK => ?_)
  go_simp
  refine ru_back_late hK (by kernel_rfl) ?_
  clear hK K
  (try simp only [Act.put, List.setIfInBounds_toArray, List.set_cons_zero, List.set_cons_succ])
  refine ru_done (by kernel_rfl) ?_
  obtain ⟨w58, hx59, F61, hxs60⟩ := (show Bun w [rfix gCt 58 #[u0Ct, u1Ct, u2Ct, u3Ct, u4Ct, u5Ct, u6Ct, .slice abCt ts.length cbCt, .slice aeCt ts.length ceCt, u7Ct, u8Ct], rsl intEnc 1 lSCt hhCt (.slice aeCt ts.length ceCt) (rowF ((caseOf true ms ts dl).enI ts.length) ts.length), rsl intEnc 1 lSCt hhCt (.slice abCt ts.length cbCt) (rowF ((caseOf true ms ts dl).bgI ts.length) ts.length), rcase lcCt hcCt v1Ct v2Ct v3Ct v4Ct lhCt lwCt lfCt rwCt, rfix gCf 58 #[u0Cf, u1Cf, u2Cf, u3Cf, u4Cf, u5Cf, u6Cf, .slice abCf ts.length cbCf, .slice aeCf ts.length ceCf, u7Cf, u8Cf], rsl intEnc 1 lSCf hhCf (.slice aeCf ts.length ceCf) (rowF ((caseOf false ms ts dl).enI ts.length) ts.length), rsl intEnc 1 lSCf hhCf (.slice abCf ts.length cbCf) (rowF ((caseOf false ms ts dl).bgI ts.length) ts.length), rcase lcCf hcCf v1Cf v2Cf v3Cf v4Cf lhCf lwCf lfCf rwCf, rbox w20.heap.size 39 #[.int .i64 ((caseOf false ms ts dl).opn ts.length), .int .i64 ((caseOf true ms ts dl).opn ts.length)], rsl timEnc 4 lt_t1 ht_t1 (.slice at_t1 ts.length ct_t1) (timN (caseOf false ms ts dl) (caseOf true ms ts dl) ts.length ts.length), rsl weaEnc 6 lw_dl hw_dl (.slice aw_dl dl.length cw_dl) dl, rseed sb, rsl mchEnc 3 loJ hiJ (.slice a1J ms.length c1J) ms, rsl tskEnc 8 loJ hiJ (.slice a2J ts.length c2J) ts, rafs loJ hiJ ts, rsl intEnc 1 0 w.heap.size (.slice na zs.length nc) zs] _ from (F57.drop 10 rfl)).name
  (try simp at hxs60)
  rw [hx59]
  clear hx59 F57
  go_wp2_with fail
  obtain ⟨HI62_, HI620⟩ : ∃ I : (Nat → Value) → List Deferred → World → Prop, I = (fun t ds wr => ∃ (k : Nat), t 6 = .slice at_t1 ts.length ct_t1 ∧ t 7 = .pointer (some ⟨w20.heap.size, 0, none⟩) ∧ t 9 = .pointer (some ⟨gCf, 0, none⟩) ∧ t 10 = .int .i64 ((caseOf false ms ts dl).opn ts.length) ∧ t 11 = .pointer (some ⟨gCt, 0, none⟩) ∧ t 12 = .int .i64 ((caseOf true ms ts dl).opn ts.length) ∧ t 13 = .int .i64 (k : Int) ∧ k ≤ ts.length ∧ ds = [] ∧ w58.heap.size ≤ wr.heap.size ∧ Bun w [rfix gCt 58 #[u0Ct, u1Ct, u2Ct, u3Ct, u4Ct, u5Ct, u6Ct, .slice abCt ts.length cbCt, .slice aeCt ts.length ceCt, u7Ct, u8Ct], rsl intEnc 1 lSCt hhCt (.slice aeCt ts.length ceCt) (rowF ((caseOf true ms ts dl).enI ts.length) ts.length), rsl intEnc 1 lSCt hhCt (.slice abCt ts.length cbCt) (rowF ((caseOf true ms ts dl).bgI ts.length) ts.length), rcase lcCt hcCt v1Ct v2Ct v3Ct v4Ct lhCt lwCt lfCt rwCt, rfix gCf 58 #[u0Cf, u1Cf, u2Cf, u3Cf, u4Cf, u5Cf, u6Cf, .slice abCf ts.length cbCf, .slice aeCf ts.length ceCf, u7Cf, u8Cf], rsl intEnc 1 lSCf hhCf (.slice aeCf ts.length ceCf) (rowF ((caseOf false ms ts dl).enI ts.length) ts.length), rsl intEnc 1 lSCf hhCf (.slice abCf ts.length cbCf) (rowF ((caseOf false ms ts dl).bgI ts.length) ts.length), rcase lcCf hcCf v1Cf v2Cf v3Cf v4Cf lhCf lwCf lfCf rwCf, rbox w20.heap.size 39 #[.int .i64 ((caseOf false ms ts dl).opn ts.length), .int .i64 ((caseOf true ms ts dl).opn ts.length)], rsl timEnc 4 lt_t1 ht_t1 (.slice at_t1 ts.length ct_t1) (timN (caseOf false ms ts dl) (caseOf true ms ts dl) ts.length ts.length), rsl weaEnc 6 lw_dl hw_dl (.slice aw_dl dl.length cw_dl) dl, rseed sb, rsl mchEnc 3 loJ hiJ (.slice a1J ms.length c1J) ms, rsl tskEnc 8 loJ hiJ (.slice a2J ts.length c2J) ts, rafs loJ hiJ ts, rsl intEnc 1 0 w.heap.size (.slice na zs.length nc) zs] wr) := ⟨_, rfl⟩
  have HI62 := Lib.hid HI620
  clear HI620
  refine wp_loopS 115 rfl HI62_ (fun t wr => ts.length - (intOf (t 13)).toNat) ?atStart1 ?round1
  case round1 =>
    intro t ds wr hHid
    rw [HI62.out] at hHid
    obtain ⟨k, e6, e7, e9, e10, e11, e12, e13, hrel⟩ := hHid
    have e : ((List.range 115).map t).toArray = #[t 0, t 1, t 2, t 3, t 4, t 5, t 6, t 7, t 8, t 9, t 10, t 11, t 12, t 13, t 14, t 15, t 16, t 17, t 18, t 19, t 20, t 21, t 22, t 23, t 24, t 25, t 26, t 27, t 28, t 29, t 30, t 31, t 32, t 33, t 34, t 35, t 36, t 37, t 38, t 39, t 40, t 41, t 42, t 43, t 44, t 45, t 46, t 47, t 48, t 49, t 50, t 51, t 52, t 53, t 54, t 55, t 56, t 57, t 58, t 59, t 60, t 61, t 62, t 63, t 64, t 65, t 66, t 67, t 68, t 69, t 70, t 71, t 72, t 73, t 74, t 75, t 76, t 77, t 78, t 79, t 80, t 81, t 82, t 83, t 84, t 85, t 86, t 87, t 88, t 89, t 90, t 91, t 92, t 93, t 94, t 95, t 96, t 97, t 98, t 99, t 100, t 101, t 102, t 103, t 104, t 105, t 106, t 107, t 108, t 109, t 110, t 111, t 112, t 113, t 114] := rfl
    (try dsimp only at e)
    rw [e6, e7, e9, e10, e11, e12, e13] at e
    rw [e]
    simp only [e13]
    clear e e6 e7 e9 e10 e11 e12 e13
    obtain ⟨hk, rfl, hs64, hF63⟩ := hrel
    clear F61
    obtain ⟨w65, rfl⟩ : ∃ x_ : World, x_ = wr := ⟨_, rfl⟩
    by_cases c66 : (k : Int) < (ts.length : Int)
    · skip
      have c66H := Lib.hid c66
      obtain ⟨x67, o68, e_⟩ := Sl.addr (hF63.at 9 rfl : Sl timEnc 4 lt_t1 ht_t1 _ (.slice at_t1 ts.length ct_t1) (timN (caseOf false ms ts dl) (caseOf true ms ts dl) ts.length ts.length)) (by rw [timN_len]; omega)
      subst e_
      have hz69 : Hid ((timN (caseOf false ms ts dl) (caseOf true ms ts dl) ts.length ts.length)[k]? = some (timAt (caseOf false ms ts dl) (caseOf true ms ts dl) ts.length k)) := Lib.hid (timN_get (by omega))
      obtain ⟨x70, o71, e_⟩ := Sl.addr (hF63.at 6 rfl : Sl intEnc 1 lSCf hhCf _ (.slice abCf ts.length cbCf) (rowF ((caseOf false ms ts dl).bgI ts.length) ts.length)) (by rw [rowF_len]; omega)
      subst e_
      have hz72 : Hid ((rowF ((caseOf false ms ts dl).bgI ts.length) ts.length)[k]? = some (bgAt ((caseOf false ms ts dl).plan ts.length) k)) := Lib.hid (rowF_get (f := (caseOf false ms ts dl).bgI ts.length) (by omega))
      obtain ⟨x73, o74, e_⟩ := Sl.addr (hF63.at 5 rfl : Sl intEnc 1 lSCf hhCf _ (.slice aeCf ts.length ceCf) (rowF ((caseOf false ms ts dl).enI ts.length) ts.length)) (by rw [rowF_len]; omega)
      subst e_
      have hz75 : Hid ((rowF ((caseOf false ms ts dl).enI ts.length) ts.length)[k]? = some (enAt ((caseOf false ms ts dl).plan ts.length) k)) := Lib.hid (rowF_get (f := (caseOf false ms ts dl).enI ts.length) (by omega))
      obtain ⟨x76, o77, e_⟩ := Sl.addr (hF63.at 2 rfl : Sl intEnc 1 lSCt hhCt _ (.slice abCt ts.length cbCt) (rowF ((caseOf true ms ts dl).bgI ts.length) ts.length)) (by rw [rowF_len]; omega)
      subst e_
      have hz78 : Hid ((rowF ((caseOf true ms ts dl).bgI ts.length) ts.length)[k]? = some (bgAt ((caseOf true ms ts dl).plan ts.length) k)) := Lib.hid (rowF_get (f := (caseOf true ms ts dl).bgI ts.length) (by omega))
      obtain ⟨x79, o80, e_⟩ := Sl.addr (hF63.at 1 rfl : Sl intEnc 1 lSCt hhCt _ (.slice aeCt ts.length ceCt) (rowF ((caseOf true ms ts dl).enI ts.length) ts.length)) (by rw [rowF_len]; omega)
      subst e_
      have hz81 : Hid ((rowF ((caseOf true ms ts dl).enI ts.length) ts.length)[k]? = some (enAt ((caseOf true ms ts dl).plan ts.length) k)) := Lib.hid (rowF_get (f := (caseOf true ms ts dl).enI ts.length) (by omega))
      go_wp2_with fail
      have F82 := hF63.drew
      clear hF63
      refine ru_begin (fun W => W.cell? ⟨x67, o68 + k * 4, none⟩ = some (.int .i64 (bgAt ((caseOf false ms ts dl).plan ts.length) k)) ∧ W.cell? ⟨x67, o68 + k * 4 + 1, none⟩ = some (.int .i64 (bgAt ((caseOf true ms ts dl).plan ts.length) k)) ∧ W.cell? ⟨gCf, 7, none⟩ = some (.slice (some ⟨x70, o71, none⟩) ts.length cbCf) ∧ W.cell? ⟨x70, o71 + k, none⟩ = some (.int .i64 (bgAt ((caseOf false ms ts dl).plan ts.length) k)) ∧ W.cell? ⟨gCt, 7, none⟩ = some (.slice (some ⟨x76, o77, none⟩) ts.length cbCt) ∧ W.cell? ⟨x76, o77 + k, none⟩ = some (.int .i64 (bgAt ((caseOf true ms ts dl).plan ts.length) k)) ∧ W.cell? ⟨x67, o68 + k * 4 + 2, none⟩ = some (.int .i64 (enAt ((caseOf false ms ts dl).plan ts.length) k)) ∧ W.cell? ⟨x67, o68 + k * 4 + 2 + 1, none⟩ = some (.int .i64 (enAt ((caseOf true ms ts dl).plan ts.length) k)) ∧ W.cell? ⟨gCf, 8, none⟩ = some (.slice (some ⟨x73, o74, none⟩) ts.length ceCf) ∧ W.cell? ⟨x73, o74 + k, none⟩ = some (.int .i64 (enAt ((caseOf false ms ts dl).plan ts.length) k)) ∧ W.cell? ⟨gCt, 8, none⟩ = some (.slice (some ⟨x79, o80, none⟩) ts.length ceCt) ∧ W.cell? ⟨x79, o80 + k, none⟩ = some (.int .i64 (enAt ((caseOf true ms ts dl).plan ts.length) k))) 43 (by kernel_rfl) ?_ ?_
      · exact ⟨(((F82.at 9 rfl : Sl timEnc 4 lt_t1 ht_t1 _ (.slice (some ⟨x67, o68, none⟩) ts.length ct_t1) (timN (caseOf false ms ts dl) (caseOf true ms ts dl) ts.length ts.length))).cells hz69.out 0 _ rfl), (((F82.at 9 rfl : Sl timEnc 4 lt_t1 ht_t1 _ (.slice (some ⟨x67, o68, none⟩) ts.length ct_t1) (timN (caseOf false ms ts dl) (caseOf true ms ts dl) ts.length ts.length))).cells hz69.out 1 _ rfl), ((F82.at 4 rfl : Bk _ gCf 58 #[u0Cf, u1Cf, u2Cf, u3Cf, u4Cf, u5Cf, u6Cf, .slice (some ⟨x70, o71, none⟩) ts.length cbCf, .slice (some ⟨x73, o74, none⟩) ts.length ceCf, u7Cf, u8Cf])).cell 7, (by have h_ := ((F82.at 6 rfl : Sl intEnc 1 lSCf hhCf _ (.slice (some ⟨x70, o71, none⟩) ts.length cbCf) (rowF ((caseOf false ms ts dl).bgI ts.length) ts.length))).cells hz72.out 0 _ rfl; simpa using h_), ((F82.at 0 rfl : Bk _ gCt 58 #[u0Ct, u1Ct, u2Ct, u3Ct, u4Ct, u5Ct, u6Ct, .slice (some ⟨x76, o77, none⟩) ts.length cbCt, .slice (some ⟨x79, o80, none⟩) ts.length ceCt, u7Ct, u8Ct])).cell 7, (by have h_ := ((F82.at 2 rfl : Sl intEnc 1 lSCt hhCt _ (.slice (some ⟨x76, o77, none⟩) ts.length cbCt) (rowF ((caseOf true ms ts dl).bgI ts.length) ts.length))).cells hz78.out 0 _ rfl; simpa using h_), (((F82.at 9 rfl : Sl timEnc 4 lt_t1 ht_t1 _ (.slice (some ⟨x67, o68, none⟩) ts.length ct_t1) (timN (caseOf false ms ts dl) (caseOf true ms ts dl) ts.length ts.length))).cells hz69.out 2 _ rfl), (((F82.at 9 rfl : Sl timEnc 4 lt_t1 ht_t1 _ (.slice (some ⟨x67, o68, none⟩) ts.length ct_t1) (timN (caseOf false ms ts dl) (caseOf true ms ts dl) ts.length ts.length))).cells hz69.out 3 _ rfl), ((F82.at 4 rfl : Bk _ gCf 58 #[u0Cf, u1Cf, u2Cf, u3Cf, u4Cf, u5Cf, u6Cf, .slice (some ⟨x70, o71, none⟩) ts.length cbCf, .slice (some ⟨x73, o74, none⟩) ts.length ceCf, u7Cf, u8Cf])).cell 8, (by have h_ := ((F82.at 5 rfl : Sl intEnc 1 lSCf hhCf _ (.slice (some ⟨x73, o74, none⟩) ts.length ceCf) (rowF ((caseOf false ms ts dl).enI ts.length) ts.length))).cells hz75.out 0 _ rfl; simpa using h_), ((F82.at 0 rfl : Bk _ gCt 58 #[u0Ct, u1Ct, u2Ct, u3Ct, u4Ct, u5Ct, u6Ct, .slice (some ⟨x76, o77, none⟩) ts.length cbCt, .slice (some ⟨x79, o80, none⟩) ts.length ceCt, u7Ct, u8Ct])).cell 8, (by have h_ := ((F82.at 1 rfl : Sl intEnc 1 lSCt hhCt _ (.slice (some ⟨x79, o80, none⟩) ts.length ceCt) (rowF ((caseOf true ms ts dl).enI ts.length) ts.length))).cells hz81.out 0 _ rfl; simpa using h_)⟩
      obtain ⟨wd84, hwd_⟩ : ∃ x : World, w65.drew = x := ⟨_, rfl⟩
      rw [hwd_] at F82 ⊢
      have wd84s : w65.heap.size ≤ wd84.heap.size := by rw [← hwd_]; exact Nat.le_refl _
      clear hwd_
      have hS83 := (And.intro ((((F82.at 9 rfl : Sl timEnc 4 lt_t1 ht_t1 _ (.slice (some ⟨x67, o68, none⟩) ts.length ct_t1) (timN (caseOf false ms ts dl) (caseOf true ms ts dl) ts.length ts.length))).cells hz69.out 0 _ rfl)) (And.intro ((((F82.at 9 rfl : Sl timEnc 4 lt_t1 ht_t1 _ (.slice (some ⟨x67, o68, none⟩) ts.length ct_t1) (timN (caseOf false ms ts dl) (caseOf true ms ts dl) ts.length ts.length))).cells hz69.out 1 _ rfl)) (And.intro (((F82.at 4 rfl : Bk _ gCf 58 #[u0Cf, u1Cf, u2Cf, u3Cf, u4Cf, u5Cf, u6Cf, .slice (some ⟨x70, o71, none⟩) ts.length cbCf, .slice (some ⟨x73, o74, none⟩) ts.length ceCf, u7Cf, u8Cf])).cell 7) (And.intro ((by have h_ := ((F82.at 6 rfl : Sl intEnc 1 lSCf hhCf _ (.slice (some ⟨x70, o71, none⟩) ts.length cbCf) (rowF ((caseOf false ms ts dl).bgI ts.length) ts.length))).cells hz72.out 0 _ rfl; simpa using h_)) (And.intro (((F82.at 0 rfl : Bk _ gCt 58 #[u0Ct, u1Ct, u2Ct, u3Ct, u4Ct, u5Ct, u6Ct, .slice (some ⟨x76, o77, none⟩) ts.length cbCt, .slice (some ⟨x79, o80, none⟩) ts.length ceCt, u7Ct, u8Ct])).cell 7) (And.intro ((by have h_ := ((F82.at 2 rfl : Sl intEnc 1 lSCt hhCt _ (.slice (some ⟨x76, o77, none⟩) ts.length cbCt) (rowF ((caseOf true ms ts dl).bgI ts.length) ts.length))).cells hz78.out 0 _ rfl; simpa using h_)) (And.intro ((((F82.at 9 rfl : Sl timEnc 4 lt_t1 ht_t1 _ (.slice (some ⟨x67, o68, none⟩) ts.length ct_t1) (timN (caseOf false ms ts dl) (caseOf true ms ts dl) ts.length ts.length))).cells hz69.out 2 _ rfl)) (And.intro ((((F82.at 9 rfl : Sl timEnc 4 lt_t1 ht_t1 _ (.slice (some ⟨x67, o68, none⟩) ts.length ct_t1) (timN (caseOf false ms ts dl) (caseOf true ms ts dl) ts.length ts.length))).cells hz69.out 3 _ rfl)) (And.intro (((F82.at 4 rfl : Bk _ gCf 58 #[u0Cf, u1Cf, u2Cf, u3Cf, u4Cf, u5Cf, u6Cf, .slice (some ⟨x70, o71, none⟩) ts.length cbCf, .slice (some ⟨x73, o74, none⟩) ts.length ceCf, u7Cf, u8Cf])).cell 8) (And.intro ((by have h_ := ((F82.at 5 rfl : Sl intEnc 1 lSCf hhCf _ (.slice (some ⟨x73, o74, none⟩) ts.length ceCf) (rowF ((caseOf false ms ts dl).enI ts.length) ts.length))).cells hz75.out 0 _ rfl; simpa using h_)) (And.intro (((F82.at 0 rfl : Bk _ gCt 58 #[u0Ct, u1Ct, u2Ct, u3Ct, u4Ct, u5Ct, u6Ct, .slice (some ⟨x76, o77, none⟩) ts.length cbCt, .slice (some ⟨x79, o80, none⟩) ts.length ceCt, u7Ct, u8Ct])).cell 8) ((by have h_ := ((F82.at 1 rfl : Sl intEnc 1 lSCt hhCt _ (.slice (some ⟨x79, o80, none⟩) ts.length ceCt) (rowF ((caseOf true ms ts dl).enI ts.length) ts.length))).cells hz81.out 0 _ rfl; simpa using h_)))))))))))))
      refine ru_t 0 [21, 20, 4, 3, 2] ?_
      refine ru_t 1 [21, 20, 4, 3, 2] ?_
      refine ru_t 2 [21, 20, 4, 3] ?_
      refine ru_t 3 [21, 20, 4] ?_
      refine ru_t 4 [21, 20] ?_
      refine ru_t 5 [21, 19, 11, 10, 8, 7, 6] ?_
      refine ru_t 6 [21, 19, 11, 10, 8, 7] ?_
      refine ru_t 7 [21, 19, 11, 10, 8] ?_
      refine ru_t 8 [21, 19, 11, 10] ?_
      refine ru_t 9 [21, 19, 11, 10] ?_
      refine ru_t 10 [21, 19, 11] ?_
      refine ru_t 11 [21, 19] ?_
      refine ru_t 12 [21, 19, 18, 17, 15, 14, 13] ?_
      refine ru_t 13 [21, 19, 18, 17, 15, 14] ?_
      refine ru_t 14 [21, 19, 18, 17, 15] ?_
      refine ru_t 15 [21, 19, 18, 17] ?_
      refine ru_t 16 [21, 19, 18, 17] ?_
      refine ru_t 17 [21, 19, 18] ?_
      refine ru_t 18 [21, 19] ?_
      (try simp only [Act.put, List.setIfInBounds_toArray, List.set_cons_zero, List.set_cons_succ])
      clear hS83
      refine ru_one 19 rfl (by kernel_rfl) (fun K hK => ?_)
      go_simp
      refine (aspan_c (bgAt ((caseOf false ms ts dl).plan ts.length) k) (bgAt ((caseOf true ms ts dl).plan ts.length) k) _).mono ?_
      rintro e w87 ⟨rfl, hg85⟩
      have hg85s := hg85.size
      (try simp at hg85s)
      have F88 := F82.gn hg85
      clear F82
      refine ru_back hK (by exact ⟨(((F88.at 9 rfl : Sl timEnc 4 lt_t1 ht_t1 _ (.slice (some ⟨x67, o68, none⟩) ts.length ct_t1) (timN (caseOf false ms ts dl) (caseOf true ms ts dl) ts.length ts.length))).cells hz69.out 0 _ rfl), (((F88.at 9 rfl : Sl timEnc 4 lt_t1 ht_t1 _ (.slice (some ⟨x67, o68, none⟩) ts.length ct_t1) (timN (caseOf false ms ts dl) (caseOf true ms ts dl) ts.length ts.length))).cells hz69.out 1 _ rfl), ((F88.at 4 rfl : Bk _ gCf 58 #[u0Cf, u1Cf, u2Cf, u3Cf, u4Cf, u5Cf, u6Cf, .slice (some ⟨x70, o71, none⟩) ts.length cbCf, .slice (some ⟨x73, o74, none⟩) ts.length ceCf, u7Cf, u8Cf])).cell 7, (by have h_ := ((F88.at 6 rfl : Sl intEnc 1 lSCf hhCf _ (.slice (some ⟨x70, o71, none⟩) ts.length cbCf) (rowF ((caseOf false ms ts dl).bgI ts.length) ts.length))).cells hz72.out 0 _ rfl; simpa using h_), ((F88.at 0 rfl : Bk _ gCt 58 #[u0Ct, u1Ct, u2Ct, u3Ct, u4Ct, u5Ct, u6Ct, .slice (some ⟨x76, o77, none⟩) ts.length cbCt, .slice (some ⟨x79, o80, none⟩) ts.length ceCt, u7Ct, u8Ct])).cell 7, (by have h_ := ((F88.at 2 rfl : Sl intEnc 1 lSCt hhCt _ (.slice (some ⟨x76, o77, none⟩) ts.length cbCt) (rowF ((caseOf true ms ts dl).bgI ts.length) ts.length))).cells hz78.out 0 _ rfl; simpa using h_), (((F88.at 9 rfl : Sl timEnc 4 lt_t1 ht_t1 _ (.slice (some ⟨x67, o68, none⟩) ts.length ct_t1) (timN (caseOf false ms ts dl) (caseOf true ms ts dl) ts.length ts.length))).cells hz69.out 2 _ rfl), (((F88.at 9 rfl : Sl timEnc 4 lt_t1 ht_t1 _ (.slice (some ⟨x67, o68, none⟩) ts.length ct_t1) (timN (caseOf false ms ts dl) (caseOf true ms ts dl) ts.length ts.length))).cells hz69.out 3 _ rfl), ((F88.at 4 rfl : Bk _ gCf 58 #[u0Cf, u1Cf, u2Cf, u3Cf, u4Cf, u5Cf, u6Cf, .slice (some ⟨x70, o71, none⟩) ts.length cbCf, .slice (some ⟨x73, o74, none⟩) ts.length ceCf, u7Cf, u8Cf])).cell 8, (by have h_ := ((F88.at 5 rfl : Sl intEnc 1 lSCf hhCf _ (.slice (some ⟨x73, o74, none⟩) ts.length ceCf) (rowF ((caseOf false ms ts dl).enI ts.length) ts.length))).cells hz75.out 0 _ rfl; simpa using h_), ((F88.at 0 rfl : Bk _ gCt 58 #[u0Ct, u1Ct, u2Ct, u3Ct, u4Ct, u5Ct, u6Ct, .slice (some ⟨x76, o77, none⟩) ts.length cbCt, .slice (some ⟨x79, o80, none⟩) ts.length ceCt, u7Ct, u8Ct])).cell 8, (by have h_ := ((F88.at 1 rfl : Sl intEnc 1 lSCt hhCt _ (.slice (some ⟨x79, o80, none⟩) ts.length ceCt) (rowF ((caseOf true ms ts dl).enI ts.length) ts.length))).cells hz81.out 0 _ rfl; simpa using h_)⟩) (fun hHeld => ?_)
      clear hK K
      (try simp only [Act.put, List.setIfInBounds_toArray, List.set_cons_zero, List.set_cons_succ])
      refine ru_p 20 ?_
      (try simp only [Act.put, List.setIfInBounds_toArray, List.set_cons_zero, List.set_cons_succ])
      refine ru_p 21 ?_
      (try simp only [Act.put, List.setIfInBounds_toArray, List.set_cons_zero, List.set_cons_succ])
      refine ru_p 22 ?_
      refine ru_p 23 ?_
      refine ru_p 27 ?_
      refine ru_p 31 ?_
      refine ru_p 34 ?_
      refine ru_p 38 ?_
      (try simp only [Act.put, List.setIfInBounds_toArray, List.set_cons_zero, List.set_cons_succ])
      refine ru_p 24 ?_
      refine ru_p 28 ?_
      refine ru_p 35 ?_
      (try simp only [Act.put, List.setIfInBounds_toArray, List.set_cons_zero, List.set_cons_succ])
      refine ru_p 25 ?_
      refine ru_p 29 ?_
      refine ru_p 36 ?_
      (try simp only [Act.put, List.setIfInBounds_toArray, List.set_cons_zero, List.set_cons_succ])
      refine ru_t 26 [42] ?_
      refine ru_t 30 [42, 41, 33, 32] ?_
      refine ru_t 37 [42, 41, 40, 39] ?_
      (try simp only [Act.put, List.setIfInBounds_toArray, List.set_cons_zero, List.set_cons_succ])
      refine ru_p 32 ?_
      refine ru_p 39 ?_
      (try simp only [Act.put, List.setIfInBounds_toArray, List.set_cons_zero, List.set_cons_succ])
      refine ru_t 33 [42, 41] ?_
      refine ru_t 40 [42, 41] ?_
      (try simp only [Act.put, List.setIfInBounds_toArray, List.set_cons_zero, List.set_cons_succ])
      refine ru_one 41 rfl (by kernel_rfl) (fun K hK => ?_)
      go_simp
      refine (aspan_c (enAt ((caseOf false ms ts dl).plan ts.length) k) (enAt ((caseOf true ms ts dl).plan ts.length) k) _).mono ?_
      rintro e w91 ⟨rfl, hg89⟩
      have hg89s := hg89.size
      (try simp at hg89s)
      have F92 := F88.gn hg89
      clear F88
      refine ru_back hK (by exact ⟨(((F92.at 9 rfl : Sl timEnc 4 lt_t1 ht_t1 _ (.slice (some ⟨x67, o68, none⟩) ts.length ct_t1) (timN (caseOf false ms ts dl) (caseOf true ms ts dl) ts.length ts.length))).cells hz69.out 0 _ rfl), (((F92.at 9 rfl : Sl timEnc 4 lt_t1 ht_t1 _ (.slice (some ⟨x67, o68, none⟩) ts.length ct_t1) (timN (caseOf false ms ts dl) (caseOf true ms ts dl) ts.length ts.length))).cells hz69.out 1 _ rfl), ((F92.at 4 rfl : Bk _ gCf 58 #[u0Cf, u1Cf, u2Cf, u3Cf, u4Cf, u5Cf, u6Cf, .slice (some ⟨x70, o71, none⟩) ts.length cbCf, .slice (some ⟨x73, o74, none⟩) ts.length ceCf, u7Cf, u8Cf])).cell 7, (by have h_ := ((F92.at 6 rfl : Sl intEnc 1 lSCf hhCf _ (.slice (some ⟨x70, o71, none⟩) ts.length cbCf) (rowF ((caseOf false ms ts dl).bgI ts.length) ts.length))).cells hz72.out 0 _ rfl; simpa using h_), ((F92.at 0 rfl : Bk _ gCt 58 #[u0Ct, u1Ct, u2Ct, u3Ct, u4Ct, u5Ct, u6Ct, .slice (some ⟨x76, o77, none⟩) ts.length cbCt, .slice (some ⟨x79, o80, none⟩) ts.length ceCt, u7Ct, u8Ct])).cell 7, (by have h_ := ((F92.at 2 rfl : Sl intEnc 1 lSCt hhCt _ (.slice (some ⟨x76, o77, none⟩) ts.length cbCt) (rowF ((caseOf true ms ts dl).bgI ts.length) ts.length))).cells hz78.out 0 _ rfl; simpa using h_), (((F92.at 9 rfl : Sl timEnc 4 lt_t1 ht_t1 _ (.slice (some ⟨x67, o68, none⟩) ts.length ct_t1) (timN (caseOf false ms ts dl) (caseOf true ms ts dl) ts.length ts.length))).cells hz69.out 2 _ rfl), (((F92.at 9 rfl : Sl timEnc 4 lt_t1 ht_t1 _ (.slice (some ⟨x67, o68, none⟩) ts.length ct_t1) (timN (caseOf false ms ts dl) (caseOf true ms ts dl) ts.length ts.length))).cells hz69.out 3 _ rfl), ((F92.at 4 rfl : Bk _ gCf 58 #[u0Cf, u1Cf, u2Cf, u3Cf, u4Cf, u5Cf, u6Cf, .slice (some ⟨x70, o71, none⟩) ts.length cbCf, .slice (some ⟨x73, o74, none⟩) ts.length ceCf, u7Cf, u8Cf])).cell 8, (by have h_ := ((F92.at 5 rfl : Sl intEnc 1 lSCf hhCf _ (.slice (some ⟨x73, o74, none⟩) ts.length ceCf) (rowF ((caseOf false ms ts dl).enI ts.length) ts.length))).cells hz75.out 0 _ rfl; simpa using h_), ((F92.at 0 rfl : Bk _ gCt 58 #[u0Ct, u1Ct, u2Ct, u3Ct, u4Ct, u5Ct, u6Ct, .slice (some ⟨x76, o77, none⟩) ts.length cbCt, .slice (some ⟨x79, o80, none⟩) ts.length ceCt, u7Ct, u8Ct])).cell 8, (by have h_ := ((F92.at 1 rfl : Sl intEnc 1 lSCt hhCt _ (.slice (some ⟨x79, o80, none⟩) ts.length ceCt) (rowF ((caseOf true ms ts dl).enI ts.length) ts.length))).cells hz81.out 0 _ rfl; simpa using h_)⟩) (fun hHeld => ?_)
      clear hK K
      (try simp only [Act.put, List.setIfInBounds_toArray, List.set_cons_zero, List.set_cons_succ])
      refine ru_p 42 ?_
      (try simp only [Act.put, List.setIfInBounds_toArray, List.set_cons_zero, List.set_cons_succ])
      refine ru_one 43 rfl (by kernel_rfl) (fun K hK => ?_)
      go_simp
      refine ru_back_late hK (by kernel_rfl) ?_
      clear hK K
      (try simp only [Act.put, List.setIfInBounds_toArray, List.set_cons_zero, List.set_cons_succ])
      refine ru_done (by kernel_rfl) ?_
      obtain ⟨w93, hx94, F96, hxs95⟩ := (show Bun w [rfix gCt 58 #[u0Ct, u1Ct, u2Ct, u3Ct, u4Ct, u5Ct, u6Ct, .slice (some ⟨x76, o77, none⟩) ts.length cbCt, .slice (some ⟨x79, o80, none⟩) ts.length ceCt, u7Ct, u8Ct], rsl intEnc 1 lSCt hhCt (.slice (some ⟨x79, o80, none⟩) ts.length ceCt) (rowF ((caseOf true ms ts dl).enI ts.length) ts.length), rsl intEnc 1 lSCt hhCt (.slice (some ⟨x76, o77, none⟩) ts.length cbCt) (rowF ((caseOf true ms ts dl).bgI ts.length) ts.length), rcase lcCt hcCt v1Ct v2Ct v3Ct v4Ct lhCt lwCt lfCt rwCt, rfix gCf 58 #[u0Cf, u1Cf, u2Cf, u3Cf, u4Cf, u5Cf, u6Cf, .slice (some ⟨x70, o71, none⟩) ts.length cbCf, .slice (some ⟨x73, o74, none⟩) ts.length ceCf, u7Cf, u8Cf], rsl intEnc 1 lSCf hhCf (.slice (some ⟨x73, o74, none⟩) ts.length ceCf) (rowF ((caseOf false ms ts dl).enI ts.length) ts.length), rsl intEnc 1 lSCf hhCf (.slice (some ⟨x70, o71, none⟩) ts.length cbCf) (rowF ((caseOf false ms ts dl).bgI ts.length) ts.length), rcase lcCf hcCf v1Cf v2Cf v3Cf v4Cf lhCf lwCf lfCf rwCf, rbox w20.heap.size 39 #[.int .i64 ((caseOf false ms ts dl).opn ts.length), .int .i64 ((caseOf true ms ts dl).opn ts.length)], rsl timEnc 4 lt_t1 ht_t1 (.slice (some ⟨x67, o68, none⟩) ts.length ct_t1) (timN (caseOf false ms ts dl) (caseOf true ms ts dl) ts.length ts.length), rsl weaEnc 6 lw_dl hw_dl (.slice aw_dl dl.length cw_dl) dl, rseed sb, rsl mchEnc 3 loJ hiJ (.slice a1J ms.length c1J) ms, rsl tskEnc 8 loJ hiJ (.slice a2J ts.length c2J) ts, rafs loJ hiJ ts, rsl intEnc 1 0 w.heap.size (.slice na zs.length nc) zs] _ from F92).name
      (try simp at hxs95)
      rw [hx94]
      clear hx94 F92
      go_wp2_with fail
      (first | refine ⟨by kernel_rfl, ?_, ?_⟩ | refine ⟨rfl, ?_, ?_⟩ | refine ⟨?_, ?_⟩)
      · rw [HI62.out]; exact ⟨k + 1, (by first | kernel_rfl | rfl), (by first | kernel_rfl | rfl), (by first | kernel_rfl | rfl), (by first | kernel_rfl | rfl), (by first | kernel_rfl | rfl), (by first | kernel_rfl | rfl), (by show Value.int .i64 ((k : Int) + 1) = _; simp), (by omega), (by first | rfl | simp), (by first | omega | (simp; done) | (simp; omega)), F96⟩
      · simp [slot, intOf]; omega
    · skip
      have c66H := Lib.hid c66
      have c66a : decide ((k : Int) < (ts.length : Int)) = false := dec_f c66
      go_wp2_with fail
      have F97 := hF63.drew
      clear hF63
      refine ru_begin (fun W => W.cell? ⟨w20.heap.size, 0, none⟩ = some (.int .i64 ((caseOf false ms ts dl).opn ts.length)) ∧ W.cell? ⟨w20.heap.size, 1, none⟩ = some (.int .i64 ((caseOf true ms ts dl).opn ts.length))) 8 (by kernel_rfl) ?_ ?_
      · exact ⟨F97.cl 8 0 rfl rfl, F97.cl 8 1 rfl rfl⟩
      obtain ⟨wd99, hwd_⟩ : ∃ x : World, w65.drew = x := ⟨_, rfl⟩
      rw [hwd_] at F97 ⊢
      have wd99s : w65.heap.size ≤ wd99.heap.size := by rw [← hwd_]; exact Nat.le_refl _
      clear hwd_
      have hS98 := (And.intro (F97.cl 8 0 rfl rfl) (F97.cl 8 1 rfl rfl))
      refine ru_t 0 [] ?_
      refine ru_t 1 [] ?_
      refine ru_t 2 [] ?_
      (try simp only [Act.put, List.setIfInBounds_toArray, List.set_cons_zero, List.set_cons_succ])
      clear hS98
      refine ru_one 3 rfl (by kernel_rfl) (fun K hK => ?_)
      go_simp
      refine (aspan_c ((caseOf false ms ts dl).opn ts.length) ((caseOf true ms ts dl).opn ts.length) _).mono ?_
      rintro e w102 ⟨rfl, hg100⟩
      have hg100s := hg100.size
      (try simp at hg100s)
      have F103 := F97.gn hg100
      clear F97
      refine ru_back hK (by exact ⟨F103.cl 8 0 rfl rfl, F103.cl 8 1 rfl rfl⟩) (fun hHeld => ?_)
      clear hK K
      (try simp only [Act.put, List.setIfInBounds_toArray, List.set_cons_zero, List.set_cons_succ])
      refine ru_p 4 ?_
      (try simp only [Act.put, List.setIfInBounds_toArray, List.set_cons_zero, List.set_cons_succ])
      refine ru_p 5 ?_
      (try simp only [Act.put, List.setIfInBounds_toArray, List.set_cons_zero, List.set_cons_succ])
      refine ru_one 6 rfl (by kernel_rfl) (fun K hK => ?_)
      go_simp
      refine (awake_c _).mono ?_
      rintro e w106 ⟨rfl, hg104⟩
      have hg104s := hg104.size
      (try simp at hg104s)
      have F107 := F103.gn hg104
      clear F103
      refine ru_back hK (by exact ⟨F107.cl 8 0 rfl rfl, F107.cl 8 1 rfl rfl⟩) (fun hHeld => ?_)
      clear hK K
      (try simp only [Act.put, List.setIfInBounds_toArray, List.set_cons_zero, List.set_cons_succ])
      refine ru_p 7 ?_
      (try simp only [Act.put, List.setIfInBounds_toArray, List.set_cons_zero, List.set_cons_succ])
      refine ru_one 8 rfl (by kernel_rfl) (fun K hK => ?_)
      go_simp
      refine ru_back_late hK (by kernel_rfl) ?_
      clear hK K
      (try simp only [Act.put, List.setIfInBounds_toArray, List.set_cons_zero, List.set_cons_succ])
      refine ru_done (by kernel_rfl) ?_
      obtain ⟨w108, hx109, F111, hxs110⟩ := (show Bun w [rfix gCt 58 #[u0Ct, u1Ct, u2Ct, u3Ct, u4Ct, u5Ct, u6Ct, .slice abCt ts.length cbCt, .slice aeCt ts.length ceCt, u7Ct, u8Ct], rsl intEnc 1 lSCt hhCt (.slice aeCt ts.length ceCt) (rowF ((caseOf true ms ts dl).enI ts.length) ts.length), rsl intEnc 1 lSCt hhCt (.slice abCt ts.length cbCt) (rowF ((caseOf true ms ts dl).bgI ts.length) ts.length), rcase lcCt hcCt v1Ct v2Ct v3Ct v4Ct lhCt lwCt lfCt rwCt, rfix gCf 58 #[u0Cf, u1Cf, u2Cf, u3Cf, u4Cf, u5Cf, u6Cf, .slice abCf ts.length cbCf, .slice aeCf ts.length ceCf, u7Cf, u8Cf], rsl intEnc 1 lSCf hhCf (.slice aeCf ts.length ceCf) (rowF ((caseOf false ms ts dl).enI ts.length) ts.length), rsl intEnc 1 lSCf hhCf (.slice abCf ts.length cbCf) (rowF ((caseOf false ms ts dl).bgI ts.length) ts.length), rcase lcCf hcCf v1Cf v2Cf v3Cf v4Cf lhCf lwCf lfCf rwCf, rsl timEnc 4 lt_t1 ht_t1 (.slice at_t1 ts.length ct_t1) (timN (caseOf false ms ts dl) (caseOf true ms ts dl) ts.length ts.length), rsl weaEnc 6 lw_dl hw_dl (.slice aw_dl dl.length cw_dl) dl, rseed sb, rsl mchEnc 3 loJ hiJ (.slice a1J ms.length c1J) ms, rsl tskEnc 8 loJ hiJ (.slice a2J ts.length c2J) ts, rafs loJ hiJ ts, rsl intEnc 1 0 w.heap.size (.slice na zs.length nc) zs] _ from (F107.drop 8 rfl)).name
      (try simp at hxs110)
      rw [hx109]
      clear hx109 F107
      go_wp2_with fail
      go_ret
      exact ⟨rfl, F111.gb⟩
  case atStart1 =>
    rw [HI62.out]
    exact ⟨0, (by first | kernel_rfl | rfl), (by first | kernel_rfl | rfl), (by first | kernel_rfl | rfl), (by first | kernel_rfl | rfl), (by first | kernel_rfl | rfl), (by first | kernel_rfl | rfl), rfl, Nat.zero_le _, rfl, (by first | exact Nat.le_refl _ | omega | (simp; done) | (simp; omega)), F61⟩

end Go.Proofs.Ytokelpmngahnoaa
