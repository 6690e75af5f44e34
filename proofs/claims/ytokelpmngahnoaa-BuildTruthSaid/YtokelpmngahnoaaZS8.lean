/- build: BuildTruth walked. -/
import Derived.Test.YtokelpmngahnoaaZS7
import Derived.Test.YtokelpmngahnoaaZJK1
import Derived.Test.YtokelpmngahnoaaZJK2
import Derived.Test.YtokelpmngahnoaaZW2
set_option linter.unusedVariables false
set_option linter.unusedSimpArgs false
set_option linter.unnecessarySimpa false
namespace Go.Proofs.Ytokelpmngahnoaa
open Go.RowKit
set_option maxRecDepth 100000
attribute [local go_sem] Oper.semAt_some
theorem Bun.fixMore {w0 A : World} {L : List Res} {g : Nat} {t : TypeId} {cs : Array Value} {r : Res} (i : Nat) (h : Bun w0 L A) (hr : L[i]? = some r) (hm : r.mine = false) (hg : r.X g) (hb : Bk A g t cs) : Bun w0 (rfix g t cs :: L) A :=
  h.more i (rfix g t cs) hr hm rfl (fun _ h_ => h_ ▸ hg) hb
def hasB (a : Sp) (n : Int) : Bool := decide (a.lo ≤ n) && decide (n ≤ a.hi)
theorem hasB_t {a : Sp} {n : Int} (h1 : a.lo ≤ n) (h2 : n ≤ a.hi) : hasB a n = true := by unfold hasB; rw [decide_eq_true h1, decide_eq_true h2]; rfl

theorem has_c (a : Sp) (n : Int) (w : World)  :
    Calls Try.prog 26 #[.agg #[.int .i64 a.lo, .int .i64 a.hi], .int .i64 n] w (Ret (.bool (hasB a n)) w) := by
  have F1 : Bun w [] w := Bun.nil _
  go_enter Try.func26, Try.ntmps26
  by_cases c2 : a.lo ≤ n
  · skip
    have c2H := Lib.hid c2
    have Hx3 := Lib.hid (show ((hasB a n : Bool)) = (decide (n ≤ a.hi)) by unfold hasB; simp [c2H.out])
    go_wp2_with fail
    have F4 := F1.new 39 #[.int .i64 a.lo, .int .i64 a.hi] (n := w.heap.size) (by simp)
    clear F1
    go_ret
    exact ⟨by rw [Hx3.out] <;> rfl, F4.gb⟩
  · skip
    have c2H := Lib.hid c2
    have c2a : decide (a.lo ≤ n) = false := dec_f c2
    have Hx5 := Lib.hid (show ((hasB a n : Bool)) = false by unfold hasB; simp [c2H.out])
    go_wp2_with fail
    have F6 := F1.new 39 #[.int .i64 a.lo, .int .i64 a.hi] (n := w.heap.size) (by simp)
    clear F1
    go_ret
    exact ⟨by rw [Hx5.out] <;> rfl, F6.gb⟩

theorem Bun.slX {α : Type} {enc : α → List Value} {sz lo hi : Nat} {v : Value} {l : List α} {w0 A : World} {L : List Res} (i : Nat) (h : Bun w0 L A) (hi_ : L[i]? = some (rsl enc sz lo hi v l)) : Sl enc sz 0 A.heap.size A v l := by
  have hP : Sl enc sz lo hi A v l := h.at i hi_
  have hb := fun g hx => (h.ltAt i hi_ g hx).1
  obtain ⟨hm, a, c, hv, h2⟩ := hP
  refine ⟨hm, a, c, hv, ?_⟩
  rcases h2 with h2 | ⟨b, off, ha, h3, h4, h5⟩
  · exact .inl h2
  · exact .inr ⟨b, off, ha, Nat.zero_le _, hb b ⟨h3, h4⟩, h5⟩
theorem Bun.afW {lo hi : Nat} {l : List Tsk} {w0 A : World} {L : List Res} (i : Nat) (h : Bun w0 L A) (hi_ : L[i]? = some (rafs lo hi l)) : Afs 0 A.heap.size A l := fun t ht => by
  have hP : Afs lo hi A l := h.at i hi_
  have hb := fun g hx => (h.ltAt i hi_ g hx).1
  obtain ⟨⟨hm, a, c, hv, h2⟩, hc⟩ := hP t ht
  refine ⟨⟨hm, a, c, hv, ?_⟩, hc⟩
  rcases h2 with h2 | ⟨b, off, ha, h3, h4, h5⟩
  · exact .inl h2
  · exact .inr ⟨b, off, ha, Nat.zero_le _, hb b ⟨h3, h4⟩, h5⟩
theorem has_yes {a : Sp} {n : Int} (h1 : a.lo ≤ n) (h2 : n ≤ a.hi) (w : World) : Calls Try.prog 26 #[.agg #[.int .i64 a.lo, .int .i64 a.hi], .int .i64 n] w (Ret (.bool true) w) := by
  have h := has_c a n w
  rw [hasB_t h1 h2] at h
  exact h
theorem built_k (lo hi : Nat) (vm vt : Value) (ms : List Mch) (ts : List Tsk) (dl : List Wea) (lo3 hi3 : Nat) (vh vw vf vk : Value) (lh lw lf : List Int) (rows : List (Value × List Bool)) (c : Cs) (w : World) (hj : JobAt lo hi w vm vt ms ts) (h2 : hi ≤ w.heap.size) (hca : CaseAt lo3 hi3 w vh vw vf vk lh lw lf rows) (h4 : hi3 ≤ w.heap.size)
    (hcs : KCase c ms ts dl lh lw lf (rows.map (·.2)) ∧ ∀ r ∈ rows, sliceB r.1 = true) (hok : JobOk ms ts) :
    Calls Try.prog 24 #[.agg #[vm, vt], .int .i64 (dl.length : Int), .agg #[vh, vw, vf, vk]] w (BuiltR c ts.length w) := by
  have := hok.nt
  have := hok.nm
  exact built_c lo hi vm vt ms ts dl.length lo3 hi3 vh vw vf vk lh lw lf rows c w hj h2 hca h4 hcs.1.lo.nd.symm hcs.1.is hcs.2 hcs.1.ok (by omega) (by omega) (fun k t hk => (hok.to_ k t hk).m) (fun k t hk => (hok.to_ k t hk).af)
set_option maxHeartbeats 32000000 in
theorem truth_walk (vn : Value) (zs : List Int) (w : World) (hn : Sl intEnc 1 0 w.heap.size w vn zs) :
    Calls Try.prog 4 #[vn] w (Ret (.bool true) w) := by
  have F1 : Bun w [] w := Bun.nil _
  obtain ⟨na, nc, rfl⟩ := hn.any
  have hm_nums := hn.len
  unfold maxLen at hm_nums
  have F2 := F1.sl0 hn (Nat.le_refl _) rfl
  clear F1
  go_enter Try.func4, Try.ntmps4
  go_wp2_with fail
  refine (newSeed_c 0 w.heap.size _ zs _ (F2.at 0 rfl : Sl intEnc 1 0 w.heap.size _ (.slice na zs.length nc) zs)).mono ?_
  rintro e w5 ⟨sb, rfl, hsb, hsbs, hg3⟩
  have hsbl := hsbs.lt
  have hg3s := hg3.size
  (try simp at hg3s)
  have F6 := F2.add (rseed sb) hg3 (hsbs) (fun g e => by cases e; exact ⟨hsb, hsbs.lt⟩)
  clear F2
  clear hg3
  go_wp2_with fail
  refine (jobOf_c sb 8 _ (F6.at 0 rfl : SeedAt _ sb) (by omega)).mono ?_
  rintro e w9 ⟨ms, ts, a1J, a2J, c1J, c2J, loJ, hiJ, rfl, ⟨hxJ, hyJ⟩, hjJ, ⟨hjeJ, hmaJ, hmbJ, htaJ⟩, hs8, hg7⟩
  have HJEJ := Lib.hid hjeJ
  clear hjeJ
  have hg7s := hg7.size
  (try simp at hg7s)
  have F10 := F6.seedAdd (rafs loJ hiJ ts) hg7 hs8 (hjJ.af) (fun g e => ⟨Nat.le_trans hxJ e.1, Nat.lt_of_lt_of_le e.2 hyJ⟩)
  clear F6
  clear hg7
  have F11 := F10.more 0 (rsl tskEnc 8 loJ hiJ (.slice a2J ts.length c2J) ts) rfl rfl rfl (fun _ h_ => h_) (Sl.gb hjJ.t (gb_refl _ none) (fun _ e => by cases e))
  clear F10
  have hm_tsJ := (F11.at 0 rfl : Sl tskEnc 8 loJ hiJ _ (.slice a2J ts.length c2J) ts).len
  unfold maxLen at hm_tsJ
  have F12 := F11.more 1 (rsl mchEnc 3 loJ hiJ (.slice a1J ms.length c1J) ms) rfl rfl rfl (fun _ h_ => h_) (Sl.gb hjJ.m (gb_refl _ none) (fun _ e => by cases e))
  clear F11
  have hm_msJ := (F12.at 0 rfl : Sl mchEnc 3 loJ hiJ _ (.slice a1J ms.length c1J) ms).len
  unfold maxLen at hm_msJ
  go_wp2_with fail
  refine (weekOf_c sb 6 _ ((F12.front 3 rfl rfl).at 0 rfl : SeedAt _ sb) (by omega)).mono ?_
  rintro e w15 ⟨dl, aw_dl, cw_dl, lw_dl, hw_dl, rfl, ⟨hwx_dl, hwy_dl⟩, hwz_dl, ⟨hwl_dl, hwe_dl⟩, hs14, hg13⟩
  have HWE_dl := Lib.hid hwe_dl
  clear hwe_dl
  have hg13s := hg13.size
  (try simp at hg13s)
  have F16 := (F12.front 3 rfl rfl).seedAdd (rsl weaEnc 6 lw_dl hw_dl (.slice aw_dl dl.length cw_dl) dl) hg13 hs14 (hwz_dl) (fun g e => ⟨Nat.le_trans hwx_dl e.1, Nat.lt_of_lt_of_le e.2 hwy_dl⟩)
  clear F12
  clear hg13
  have HBE1 := Lib.hid (bothErr_of HJEJ.out HWE_dl.out (by omega))
  have HOK := Lib.hid (bothOk HBE1.out)
  have hnt := HOK.out.1.nt
  have hnd := HOK.out.2
  go_wp2_with fail
  have F17 := F16.new 25 #[.slice a1J ms.length c1J, .slice a2J ts.length c2J] (n := w15.heap.size) (by simp)
  clear F16
  refine (btimes_ok loJ hiJ _ _ ms ts lw_dl hw_dl _ dl _ (JobAt.mk (F17.at 3 rfl : Sl mchEnc 3 loJ hiJ _ (.slice a1J ms.length c1J) ms) (F17.at 4 rfl : Sl tskEnc 8 loJ hiJ _ (.slice a2J ts.length c2J) ts) (F17.at 5 rfl : Afs loJ hiJ _ ts)) (by first | omega | (simp; omega)) (F17.at 1 rfl : Sl weaEnc 6 lw_dl hw_dl _ (.slice aw_dl dl.length cw_dl) dl) (by first | omega | (simp; omega)) HBE1.out _ _ rfl rfl).mono ?_
  rintro e w20 ⟨at_t1, ct_t1, lt_t1, ht_t1, rfl, ⟨htx_t1, hty_t1⟩, htz_t1, hg18⟩
  have hg18s := hg18.size
  (try simp at hg18s)
  have F21 := F17.add (rsl timEnc 4 lt_t1 ht_t1 (.slice at_t1 ts.length ct_t1) (timN (caseOf false ms ts dl) (caseOf true ms ts dl) ts.length ts.length)) hg18 (htz_t1) (fun g e => ⟨Nat.le_trans htx_t1 e.1, Nat.lt_of_lt_of_le e.2 hty_t1⟩)
  clear F17
  clear hg18
  have b22 := F21.bx2 1 rfl
  go_wp2_with fail
  clear b22
  have F23 := F21.new 39 #[.int .i64 ((caseOf false ms ts dl).opn ts.length), .int .i64 ((caseOf true ms ts dl).opn ts.length)] (n := w20.heap.size) (by simp)
  clear F21
  obtain ⟨w24, hx25, F27, hxs26⟩ := (show Bun w [rbox w20.heap.size 39 #[.int .i64 ((caseOf false ms ts dl).opn ts.length), .int .i64 ((caseOf true ms ts dl).opn ts.length)], rsl timEnc 4 lt_t1 ht_t1 (.slice at_t1 ts.length ct_t1) (timN (caseOf false ms ts dl) (caseOf true ms ts dl) ts.length ts.length), rbox w15.heap.size 25 #[.slice a1J ms.length c1J, .slice a2J ts.length c2J], rsl weaEnc 6 lw_dl hw_dl (.slice aw_dl dl.length cw_dl) dl, rseed sb, rsl mchEnc 3 loJ hiJ (.slice a1J ms.length c1J) ms, rsl tskEnc 8 loJ hiJ (.slice a2J ts.length c2J) ts, rafs loJ hiJ ts, rsl intEnc 1 0 w.heap.size (.slice na zs.length nc) zs] _ from F23).name
  (try simp at hxs26)
  rw [hx25]
  clear hx25 F23
  have F28 := F27.drew
  clear F27
  refine ru_begin (fun W => W.cell? ⟨w15.heap.size, 0, none⟩ = some (.slice a1J ms.length c1J) ∧ W.cell? ⟨w15.heap.size, 1, none⟩ = some (.slice a2J ts.length c2J)) 12 (by kernel_rfl) ?_ ?_
  · exact ⟨F28.cl 2 0 rfl rfl, F28.cl 2 1 rfl rfl⟩
  obtain ⟨wd30, hwd_⟩ : ∃ x : World, w24.drew = x := ⟨_, rfl⟩
  rw [hwd_] at F28 ⊢
  have wd30s : w24.heap.size ≤ wd30.heap.size := by rw [← hwd_]; exact Nat.le_refl _
  clear hwd_
  have hS29 := (And.intro (F28.cl 2 0 rfl rfl) (F28.cl 2 1 rfl rfl))
  refine ru_t 0 [] ?_
  refine ru_t 1 [] ?_
  refine ru_t 2 [] ?_
  refine ru_t 3 [] ?_
  refine ru_t 4 [] ?_
  refine ru_t 5 [] ?_
  (try simp only [Act.put, List.setIfInBounds_toArray, List.set_cons_zero, List.set_cons_succ])
  clear hS29
  refine ru_one 6 rfl (by kernel_rfl) (fun K hK => ?_)
  go_simp
  have F31 : Bun w [rseed sb, rsl weaEnc 6 lw_dl hw_dl (.slice aw_dl dl.length cw_dl) dl, rsl mchEnc 3 loJ hiJ (.slice a1J ms.length c1J) ms, rsl tskEnc 8 loJ hiJ (.slice a2J ts.length c2J) ts, rafs loJ hiJ ts, rbox w20.heap.size 39 #[.int .i64 ((caseOf false ms ts dl).opn ts.length), .int .i64 ((caseOf true ms ts dl).opn ts.length)], rsl timEnc 4 lt_t1 ht_t1 (.slice at_t1 ts.length ct_t1) (timN (caseOf false ms ts dl) (caseOf true ms ts dl) ts.length ts.length), rbox w15.heap.size 25 #[.slice a1J ms.length c1J, .slice a2J ts.length c2J], rsl intEnc 1 0 w.heap.size (.slice na zs.length nc) zs] _ := F28.pick [4, 3, 5, 6, 7, 0, 1, 2, 8] (by decide) rfl
  clear F28
  have Fh_ := Bun.hide (K := [rseed sb, rsl weaEnc 6 lw_dl hw_dl (.slice aw_dl dl.length cw_dl) dl, rsl mchEnc 3 loJ hiJ (.slice a1J ms.length c1J) ms, rsl tskEnc 8 loJ hiJ (.slice a2J ts.length c2J) ts, rafs loJ hiJ ts]) (l := [rbox w20.heap.size 39 #[.int .i64 ((caseOf false ms ts dl).opn ts.length), .int .i64 ((caseOf true ms ts dl).opn ts.length)], rsl timEnc 4 lt_t1 ht_t1 (.slice at_t1 ts.length ct_t1) (timN (caseOf false ms ts dl) (caseOf true ms ts dl) ts.length ts.length), rbox w15.heap.size 25 #[.slice a1J ms.length c1J, .slice a2J ts.length c2J], rsl intEnc 1 0 w.heap.size (.slice na zs.length nc) zs]) F31
  refine (kcaseOf_c w sb loJ hiJ lw_dl hw_dl ms ts dl _ _ _ _ _ _ [rbox w20.heap.size 39 #[.int .i64 ((caseOf false ms ts dl).opn ts.length), .int .i64 ((caseOf true ms ts dl).opn ts.length)], rsl timEnc 4 lt_t1 ht_t1 (.slice at_t1 ts.length ct_t1) (timN (caseOf false ms ts dl) (caseOf true ms ts dl) ts.length ts.length), rbox w15.heap.size 25 #[.slice a1J ms.length c1J, .slice a2J ts.length c2J], rsl intEnc 1 0 w.heap.size (.slice na zs.length nc) zs] _ Fh_ (by first | omega | (simp; done) | (simp; omega)) (by first | omega | (simp; done) | (simp; omega)) HBE1.out).mono ?_
  rintro e w32 ⟨v1K, v2K, v3K, v4K, lhK, lwK, lfK, rowsK, cK, rfl, hkc_, Fr_⟩
  have HKC := Lib.hid hkc_
  clear hkc_
  have F33 : Bun w [rown intEnc 3 1 w.heap.size v1K lhK, rown intEnc 3 1 w.heap.size v2K lwK, rown intEnc 3 1 w.heap.size v3K lfK, rown vEncS 56 1 w.heap.size v4K (rowsK.map (fun (x_ : Value × List Bool) => x_.1)), rrws w.heap.size rowsK, rseed sb, rsl weaEnc 6 lw_dl hw_dl (.slice aw_dl dl.length cw_dl) dl, rsl mchEnc 3 loJ hiJ (.slice a1J ms.length c1J) ms, rsl tskEnc 8 loJ hiJ (.slice a2J ts.length c2J) ts, rafs loJ hiJ ts, rbox w20.heap.size 39 #[.int .i64 ((caseOf false ms ts dl).opn ts.length), .int .i64 ((caseOf true ms ts dl).opn ts.length)], rsl timEnc 4 lt_t1 ht_t1 (.slice at_t1 ts.length ct_t1) (timN (caseOf false ms ts dl) (caseOf true ms ts dl) ts.length ts.length), rbox w15.heap.size 25 #[.slice a1J ms.length c1J, .slice a2J ts.length c2J], rsl intEnc 1 0 w.heap.size (.slice na zs.length nc) zs] w32 := Bun.show (K := [rseed sb, rsl weaEnc 6 lw_dl hw_dl (.slice aw_dl dl.length cw_dl) dl, rsl mchEnc 3 loJ hiJ (.slice a1J ms.length c1J) ms, rsl tskEnc 8 loJ hiJ (.slice a2J ts.length c2J) ts, rafs loJ hiJ ts]) (l := [rbox w20.heap.size 39 #[.int .i64 ((caseOf false ms ts dl).opn ts.length), .int .i64 ((caseOf true ms ts dl).opn ts.length)], rsl timEnc 4 lt_t1 ht_t1 (.slice at_t1 ts.length ct_t1) (timN (caseOf false ms ts dl) (caseOf true ms ts dl) ts.length ts.length), rbox w15.heap.size 25 #[.slice a1J ms.length c1J, .slice a2J ts.length c2J], rsl intEnc 1 0 w.heap.size (.slice na zs.length nc) zs]) (N := [rown intEnc 3 1 w.heap.size v1K lhK, rown intEnc 3 1 w.heap.size v2K lwK, rown intEnc 3 1 w.heap.size v3K lfK, rown vEncS 56 1 w.heap.size v4K (rowsK.map (fun (x_ : Value × List Bool) => x_.1)), rrws w.heap.size rowsK]) F31 Fr_ rfl
  have hwsF33 := F33.gb.size
  clear Fr_ Fh_ F31
  refine ru_back hK (by exact ⟨F33.cl 12 0 rfl rfl, F33.cl 12 1 rfl rfl⟩) (fun hHeld => ?_)
  clear hK K
  (try simp only [Act.put, List.setIfInBounds_toArray, List.set_cons_zero, List.set_cons_succ])
  refine ru_one 7 rfl (by kernel_rfl) (fun K hK => ?_)
  go_simp
  refine (built_k 0 _ _ _ ms ts dl 0 _ _ _ _ _ lhK lwK lfK rowsK cK _ (JobAt.mk (F33.slX 7 rfl) (F33.slX 8 rfl) (F33.afW 9 rfl)) (Nat.le_refl _) (caseAt_own (F33.at 0 rfl : Own intEnc 3 1 w.heap.size _ v1K lhK) (F33.at 1 rfl : Own intEnc 3 1 w.heap.size _ v2K lwK) (F33.at 2 rfl : Own intEnc 3 1 w.heap.size _ v3K lfK) (F33.at 3 rfl : Own vEncS 56 1 w.heap.size _ v4K (rowsK.map (fun (x_ : Value × List Bool) => x_.1))) (F33.at 4 rfl : ∀ t ∈ rowsK, Own boEnc 4 1 w.heap.size _ t.1 t.2)) (Nat.le_refl _) HKC.out HOK.out.1).mono ?_
  rintro e w36 ⟨gK, lSK, hhK, u0K, u1K, u2K, u3K, u4K, u5K, u6K, u7K, u8K, abK, aeK, cbK, ceK, rfl, hSxK, hSK, hg34⟩
  have hg34s := hg34.size
  (try simp at hg34s)
  have F37 := F33.add (rsl intEnc 1 lSK hhK (.slice abK ts.length cbK) (rowF (cK.bgI ts.length) ts.length)) hg34 (hSK.2.1) (fun g e => ⟨Nat.le_trans hSxK.1 e.1, Nat.lt_of_lt_of_le e.2 hSxK.2.1⟩)
  clear F33
  have F38 := F37.more 0 (rsl intEnc 1 lSK hhK (.slice aeK ts.length ceK) (rowF (cK.enI ts.length) ts.length)) rfl rfl rfl (fun _ h_ => h_) (Sl.gb hSK.2.2 (gb_refl _ none) (fun _ e => by cases e))
  clear F37
  have F39 := F38.fixMore 1 rfl rfl ⟨hSxK.2.2.1, hSxK.2.2.2⟩ hSK.1
  clear F38
  refine ru_back hK (by exact ⟨F39.cl 15 0 rfl rfl, F39.cl 15 1 rfl rfl⟩) (fun hHeld => ?_)
  clear hK K
  (try simp only [Act.put, List.setIfInBounds_toArray, List.set_cons_zero, List.set_cons_succ])
  refine ru_p 8 ?_
  (try simp only [Act.put, List.setIfInBounds_toArray, List.set_cons_zero, List.set_cons_succ])
  refine ru_p 9 ?_
  refine ru_p 10 ?_
  (try simp only [Act.put, List.setIfInBounds_toArray, List.set_cons_zero, List.set_cons_succ])
  refine ru_p 11 ?_
  (try simp only [Act.put, List.setIfInBounds_toArray, List.set_cons_zero, List.set_cons_succ])
  refine ru_one 12 rfl (by kernel_rfl) (fun K hK => ?_)
  go_simp
  refine ru_back_late hK (by kernel_rfl) ?_
  clear hK K
  (try simp only [Act.put, List.setIfInBounds_toArray, List.set_cons_zero, List.set_cons_succ])
  refine ru_done (by kernel_rfl) ?_
  obtain ⟨w40, hx41, F43, hxs42⟩ := (show Bun w [rfix gK 58 #[u0K, u1K, u2K, u3K, u4K, u5K, u6K, .slice abK ts.length cbK, .slice aeK ts.length ceK, u7K, u8K], rsl intEnc 1 lSK hhK (.slice aeK ts.length ceK) (rowF (cK.enI ts.length) ts.length), rsl intEnc 1 lSK hhK (.slice abK ts.length cbK) (rowF (cK.bgI ts.length) ts.length), rown intEnc 3 1 w.heap.size v1K lhK, rown intEnc 3 1 w.heap.size v2K lwK, rown intEnc 3 1 w.heap.size v3K lfK, rown vEncS 56 1 w.heap.size v4K (rowsK.map (fun (x_ : Value × List Bool) => x_.1)), rrws w.heap.size rowsK, rseed sb, rsl weaEnc 6 lw_dl hw_dl (.slice aw_dl dl.length cw_dl) dl, rsl mchEnc 3 loJ hiJ (.slice a1J ms.length c1J) ms, rsl tskEnc 8 loJ hiJ (.slice a2J ts.length c2J) ts, rafs loJ hiJ ts, rbox w20.heap.size 39 #[.int .i64 ((caseOf false ms ts dl).opn ts.length), .int .i64 ((caseOf true ms ts dl).opn ts.length)], rsl timEnc 4 lt_t1 ht_t1 (.slice at_t1 ts.length ct_t1) (timN (caseOf false ms ts dl) (caseOf true ms ts dl) ts.length ts.length), rsl intEnc 1 0 w.heap.size (.slice na zs.length nc) zs] _ from (F39.drop 15 rfl)).name
  (try simp at hxs42)
  rw [hx41]
  clear hx41 F39
  go_wp2_with fail
  obtain ⟨HI44_, HI440⟩ : ∃ I : (Nat → Value) → List Deferred → World → Prop, I = (fun t ds wr => ∃ (k : Nat), t 6 = .slice at_t1 ts.length ct_t1 ∧ t 7 = .pointer (some ⟨w20.heap.size, 0, none⟩) ∧ t 9 = .pointer (some ⟨gK, 0, none⟩) ∧ t 10 = .int .i64 (cK.opn ts.length) ∧ t 11 = .int .i64 (k : Int) ∧ k ≤ ts.length ∧ ds = [] ∧ w40.heap.size ≤ wr.heap.size ∧ Bun w [rfix gK 58 #[u0K, u1K, u2K, u3K, u4K, u5K, u6K, .slice abK ts.length cbK, .slice aeK ts.length ceK, u7K, u8K], rsl intEnc 1 lSK hhK (.slice aeK ts.length ceK) (rowF (cK.enI ts.length) ts.length), rsl intEnc 1 lSK hhK (.slice abK ts.length cbK) (rowF (cK.bgI ts.length) ts.length), rown intEnc 3 1 w.heap.size v1K lhK, rown intEnc 3 1 w.heap.size v2K lwK, rown intEnc 3 1 w.heap.size v3K lfK, rown vEncS 56 1 w.heap.size v4K (rowsK.map (fun (x_ : Value × List Bool) => x_.1)), rrws w.heap.size rowsK, rseed sb, rsl weaEnc 6 lw_dl hw_dl (.slice aw_dl dl.length cw_dl) dl, rsl mchEnc 3 loJ hiJ (.slice a1J ms.length c1J) ms, rsl tskEnc 8 loJ hiJ (.slice a2J ts.length c2J) ts, rafs loJ hiJ ts, rbox w20.heap.size 39 #[.int .i64 ((caseOf false ms ts dl).opn ts.length), .int .i64 ((caseOf true ms ts dl).opn ts.length)], rsl timEnc 4 lt_t1 ht_t1 (.slice at_t1 ts.length ct_t1) (timN (caseOf false ms ts dl) (caseOf true ms ts dl) ts.length ts.length), rsl intEnc 1 0 w.heap.size (.slice na zs.length nc) zs] wr) := ⟨_, rfl⟩
  have HI44 := Lib.hid HI440
  clear HI440
  refine wp_loopS 88 rfl HI44_ (fun t wr => ts.length - (intOf (t 11)).toNat) ?atStart1 ?round1
  case round1 =>
    intro t ds wr hHid
    rw [HI44.out] at hHid
    obtain ⟨k, e6, e7, e9, e10, e11, hrel⟩ := hHid
    have e : ((List.range 88).map t).toArray = #[t 0, t 1, t 2, t 3, t 4, t 5, t 6, t 7, t 8, t 9, t 10, t 11, t 12, t 13, t 14, t 15, t 16, t 17, t 18, t 19, t 20, t 21, t 22, t 23, t 24, t 25, t 26, t 27, t 28, t 29, t 30, t 31, t 32, t 33, t 34, t 35, t 36, t 37, t 38, t 39, t 40, t 41, t 42, t 43, t 44, t 45, t 46, t 47, t 48, t 49, t 50, t 51, t 52, t 53, t 54, t 55, t 56, t 57, t 58, t 59, t 60, t 61, t 62, t 63, t 64, t 65, t 66, t 67, t 68, t 69, t 70, t 71, t 72, t 73, t 74, t 75, t 76, t 77, t 78, t 79, t 80, t 81, t 82, t 83, t 84, t 85, t 86, t 87] := rfl
    (try dsimp only at e)
    rw [e6, e7, e9, e10, e11] at e
    rw [e]
    simp only [e11]
    clear e e6 e7 e9 e10 e11
    obtain ⟨hk, rfl, hs46, hF45⟩ := hrel
    clear F43
    obtain ⟨w47, rfl⟩ : ∃ x_ : World, x_ = wr := ⟨_, rfl⟩
    by_cases c48 : (k : Int) < (ts.length : Int)
    · skip
      have c48H := Lib.hid c48
      obtain ⟨x49, o50, e_⟩ := Sl.addr (hF45.at 14 rfl : Sl timEnc 4 lt_t1 ht_t1 _ (.slice at_t1 ts.length ct_t1) (timN (caseOf false ms ts dl) (caseOf true ms ts dl) ts.length ts.length)) (by rw [timN_len]; omega)
      subst e_
      have hz51 : Hid ((timN (caseOf false ms ts dl) (caseOf true ms ts dl) ts.length ts.length)[k]? = some (timAt (caseOf false ms ts dl) (caseOf true ms ts dl) ts.length k)) := Lib.hid (timN_get (by omega))
      obtain ⟨x52, o53, e_⟩ := Sl.addr (hF45.at 2 rfl : Sl intEnc 1 lSK hhK _ (.slice abK ts.length cbK) (rowF (cK.bgI ts.length) ts.length)) (by rw [rowF_len]; omega)
      subst e_
      have hz54 : Hid ((rowF (cK.bgI ts.length) ts.length)[k]? = some (bgAt (cK.plan ts.length) k)) := Lib.hid (rowF_get (f := cK.bgI ts.length) (by omega))
      obtain ⟨x55, o56, e_⟩ := Sl.addr (hF45.at 1 rfl : Sl intEnc 1 lSK hhK _ (.slice aeK ts.length ceK) (rowF (cK.enI ts.length) ts.length)) (by rw [rowF_len]; omega)
      subst e_
      have hz57 : Hid ((rowF (cK.enI ts.length) ts.length)[k]? = some (enAt (cK.plan ts.length) k)) := Lib.hid (rowF_get (f := cK.enI ts.length) (by omega))
      have HP1 := Lib.hid (HKC.out.1.lo.plan ts.length k (by omega))
      have HP2 := Lib.hid (HKC.out.1.hi.plan ts.length k (by omega))
      go_wp2_with fail
      have F58 := hF45.drew
      clear hF45
      refine ru_begin (fun W => W.cell? ⟨x49, o50 + k * 4, none⟩ = some (.int .i64 (bgAt ((caseOf false ms ts dl).plan ts.length) k)) ∧ W.cell? ⟨x49, o50 + k * 4 + 1, none⟩ = some (.int .i64 (bgAt ((caseOf true ms ts dl).plan ts.length) k)) ∧ W.cell? ⟨gK, 7, none⟩ = some (.slice (some ⟨x52, o53, none⟩) ts.length cbK) ∧ W.cell? ⟨x52, o53 + k, none⟩ = some (.int .i64 (bgAt (cK.plan ts.length) k)) ∧ W.cell? ⟨x49, o50 + k * 4 + 2, none⟩ = some (.int .i64 (enAt ((caseOf false ms ts dl).plan ts.length) k)) ∧ W.cell? ⟨x49, o50 + k * 4 + 2 + 1, none⟩ = some (.int .i64 (enAt ((caseOf true ms ts dl).plan ts.length) k)) ∧ W.cell? ⟨gK, 8, none⟩ = some (.slice (some ⟨x55, o56, none⟩) ts.length ceK) ∧ W.cell? ⟨x55, o56 + k, none⟩ = some (.int .i64 (enAt (cK.plan ts.length) k))) 29 (by kernel_rfl) ?_ ?_
      · exact ⟨(((F58.at 14 rfl : Sl timEnc 4 lt_t1 ht_t1 _ (.slice (some ⟨x49, o50, none⟩) ts.length ct_t1) (timN (caseOf false ms ts dl) (caseOf true ms ts dl) ts.length ts.length))).cells hz51.out 0 _ rfl), (((F58.at 14 rfl : Sl timEnc 4 lt_t1 ht_t1 _ (.slice (some ⟨x49, o50, none⟩) ts.length ct_t1) (timN (caseOf false ms ts dl) (caseOf true ms ts dl) ts.length ts.length))).cells hz51.out 1 _ rfl), ((F58.at 0 rfl : Bk _ gK 58 #[u0K, u1K, u2K, u3K, u4K, u5K, u6K, .slice (some ⟨x52, o53, none⟩) ts.length cbK, .slice (some ⟨x55, o56, none⟩) ts.length ceK, u7K, u8K])).cell 7, (by have h_ := ((F58.at 2 rfl : Sl intEnc 1 lSK hhK _ (.slice (some ⟨x52, o53, none⟩) ts.length cbK) (rowF (cK.bgI ts.length) ts.length))).cells hz54.out 0 _ rfl; simpa using h_), (((F58.at 14 rfl : Sl timEnc 4 lt_t1 ht_t1 _ (.slice (some ⟨x49, o50, none⟩) ts.length ct_t1) (timN (caseOf false ms ts dl) (caseOf true ms ts dl) ts.length ts.length))).cells hz51.out 2 _ rfl), (((F58.at 14 rfl : Sl timEnc 4 lt_t1 ht_t1 _ (.slice (some ⟨x49, o50, none⟩) ts.length ct_t1) (timN (caseOf false ms ts dl) (caseOf true ms ts dl) ts.length ts.length))).cells hz51.out 3 _ rfl), ((F58.at 0 rfl : Bk _ gK 58 #[u0K, u1K, u2K, u3K, u4K, u5K, u6K, .slice (some ⟨x52, o53, none⟩) ts.length cbK, .slice (some ⟨x55, o56, none⟩) ts.length ceK, u7K, u8K])).cell 8, (by have h_ := ((F58.at 1 rfl : Sl intEnc 1 lSK hhK _ (.slice (some ⟨x55, o56, none⟩) ts.length ceK) (rowF (cK.enI ts.length) ts.length))).cells hz57.out 0 _ rfl; simpa using h_)⟩
      obtain ⟨wd60, hwd_⟩ : ∃ x : World, w47.drew = x := ⟨_, rfl⟩
      rw [hwd_] at F58 ⊢
      have wd60s : w47.heap.size ≤ wd60.heap.size := by rw [← hwd_]; exact Nat.le_refl _
      clear hwd_
      have hS59 := (And.intro ((((F58.at 14 rfl : Sl timEnc 4 lt_t1 ht_t1 _ (.slice (some ⟨x49, o50, none⟩) ts.length ct_t1) (timN (caseOf false ms ts dl) (caseOf true ms ts dl) ts.length ts.length))).cells hz51.out 0 _ rfl)) (And.intro ((((F58.at 14 rfl : Sl timEnc 4 lt_t1 ht_t1 _ (.slice (some ⟨x49, o50, none⟩) ts.length ct_t1) (timN (caseOf false ms ts dl) (caseOf true ms ts dl) ts.length ts.length))).cells hz51.out 1 _ rfl)) (And.intro (((F58.at 0 rfl : Bk _ gK 58 #[u0K, u1K, u2K, u3K, u4K, u5K, u6K, .slice (some ⟨x52, o53, none⟩) ts.length cbK, .slice (some ⟨x55, o56, none⟩) ts.length ceK, u7K, u8K])).cell 7) (And.intro ((by have h_ := ((F58.at 2 rfl : Sl intEnc 1 lSK hhK _ (.slice (some ⟨x52, o53, none⟩) ts.length cbK) (rowF (cK.bgI ts.length) ts.length))).cells hz54.out 0 _ rfl; simpa using h_)) (And.intro ((((F58.at 14 rfl : Sl timEnc 4 lt_t1 ht_t1 _ (.slice (some ⟨x49, o50, none⟩) ts.length ct_t1) (timN (caseOf false ms ts dl) (caseOf true ms ts dl) ts.length ts.length))).cells hz51.out 2 _ rfl)) (And.intro ((((F58.at 14 rfl : Sl timEnc 4 lt_t1 ht_t1 _ (.slice (some ⟨x49, o50, none⟩) ts.length ct_t1) (timN (caseOf false ms ts dl) (caseOf true ms ts dl) ts.length ts.length))).cells hz51.out 3 _ rfl)) (And.intro (((F58.at 0 rfl : Bk _ gK 58 #[u0K, u1K, u2K, u3K, u4K, u5K, u6K, .slice (some ⟨x52, o53, none⟩) ts.length cbK, .slice (some ⟨x55, o56, none⟩) ts.length ceK, u7K, u8K])).cell 8) ((by have h_ := ((F58.at 1 rfl : Sl intEnc 1 lSK hhK _ (.slice (some ⟨x55, o56, none⟩) ts.length ceK) (rowF (cK.enI ts.length) ts.length))).cells hz57.out 0 _ rfl; simpa using h_)))))))))
      refine ru_t 0 [14, 12, 4, 3, 2] ?_
      refine ru_t 1 [14, 12, 4, 3, 2] ?_
      refine ru_t 2 [14, 12, 4, 3] ?_
      refine ru_t 3 [14, 12, 4] ?_
      refine ru_t 4 [14, 12] ?_
      refine ru_t 5 [14, 12, 11, 10, 8, 7, 6] ?_
      refine ru_t 6 [14, 12, 11, 10, 8, 7] ?_
      refine ru_t 7 [14, 12, 11, 10, 8] ?_
      refine ru_t 8 [14, 12, 11, 10] ?_
      refine ru_t 9 [14, 12, 11, 10] ?_
      refine ru_t 10 [14, 12, 11] ?_
      refine ru_t 11 [14, 12] ?_
      (try simp only [Act.put, List.setIfInBounds_toArray, List.set_cons_zero, List.set_cons_succ])
      clear hS59
      refine ru_one 12 rfl (by kernel_rfl) (fun K hK => ?_)
      go_simp
      refine (has_yes (a := ⟨bgAt ((caseOf false ms ts dl).plan ts.length) k, bgAt ((caseOf true ms ts dl).plan ts.length) k⟩) (n := bgAt (cK.plan ts.length) k) HP1.out.1 HP2.out.1 _).mono ?_
      rintro e w63 ⟨rfl, hg61⟩
      have hg61s := hg61.size
      (try simp at hg61s)
      have F64 := F58.gn hg61
      clear F58
      refine ru_back hK (by exact ⟨(((F64.at 14 rfl : Sl timEnc 4 lt_t1 ht_t1 _ (.slice (some ⟨x49, o50, none⟩) ts.length ct_t1) (timN (caseOf false ms ts dl) (caseOf true ms ts dl) ts.length ts.length))).cells hz51.out 0 _ rfl), (((F64.at 14 rfl : Sl timEnc 4 lt_t1 ht_t1 _ (.slice (some ⟨x49, o50, none⟩) ts.length ct_t1) (timN (caseOf false ms ts dl) (caseOf true ms ts dl) ts.length ts.length))).cells hz51.out 1 _ rfl), ((F64.at 0 rfl : Bk _ gK 58 #[u0K, u1K, u2K, u3K, u4K, u5K, u6K, .slice (some ⟨x52, o53, none⟩) ts.length cbK, .slice (some ⟨x55, o56, none⟩) ts.length ceK, u7K, u8K])).cell 7, (by have h_ := ((F64.at 2 rfl : Sl intEnc 1 lSK hhK _ (.slice (some ⟨x52, o53, none⟩) ts.length cbK) (rowF (cK.bgI ts.length) ts.length))).cells hz54.out 0 _ rfl; simpa using h_), (((F64.at 14 rfl : Sl timEnc 4 lt_t1 ht_t1 _ (.slice (some ⟨x49, o50, none⟩) ts.length ct_t1) (timN (caseOf false ms ts dl) (caseOf true ms ts dl) ts.length ts.length))).cells hz51.out 2 _ rfl), (((F64.at 14 rfl : Sl timEnc 4 lt_t1 ht_t1 _ (.slice (some ⟨x49, o50, none⟩) ts.length ct_t1) (timN (caseOf false ms ts dl) (caseOf true ms ts dl) ts.length ts.length))).cells hz51.out 3 _ rfl), ((F64.at 0 rfl : Bk _ gK 58 #[u0K, u1K, u2K, u3K, u4K, u5K, u6K, .slice (some ⟨x52, o53, none⟩) ts.length cbK, .slice (some ⟨x55, o56, none⟩) ts.length ceK, u7K, u8K])).cell 8, (by have h_ := ((F64.at 1 rfl : Sl intEnc 1 lSK hhK _ (.slice (some ⟨x55, o56, none⟩) ts.length ceK) (rowF (cK.enI ts.length) ts.length))).cells hz57.out 0 _ rfl; simpa using h_)⟩) (fun hHeld => ?_)
      clear hK K
      (try simp only [Act.put, List.setIfInBounds_toArray, List.set_cons_zero, List.set_cons_succ])
      refine ru_p 13 ?_
      (try simp only [Act.put, List.setIfInBounds_toArray, List.set_cons_zero, List.set_cons_succ])
      refine ru_p 14 ?_
      (try simp only [Act.put, List.setIfInBounds_toArray, List.set_cons_zero, List.set_cons_succ])
      refine ru_p 15 ?_
      refine ru_p 16 ?_
      refine ru_p 20 ?_
      refine ru_p 24 ?_
      (try simp only [Act.put, List.setIfInBounds_toArray, List.set_cons_zero, List.set_cons_succ])
      refine ru_p 17 ?_
      refine ru_p 21 ?_
      (try simp only [Act.put, List.setIfInBounds_toArray, List.set_cons_zero, List.set_cons_succ])
      refine ru_p 18 ?_
      refine ru_p 22 ?_
      (try simp only [Act.put, List.setIfInBounds_toArray, List.set_cons_zero, List.set_cons_succ])
      refine ru_t 19 [28, 27] ?_
      refine ru_t 23 [28, 27, 26, 25] ?_
      (try simp only [Act.put, List.setIfInBounds_toArray, List.set_cons_zero, List.set_cons_succ])
      refine ru_p 25 ?_
      (try simp only [Act.put, List.setIfInBounds_toArray, List.set_cons_zero, List.set_cons_succ])
      refine ru_t 26 [28, 27] ?_
      (try simp only [Act.put, List.setIfInBounds_toArray, List.set_cons_zero, List.set_cons_succ])
      refine ru_one 27 rfl (by kernel_rfl) (fun K hK => ?_)
      go_simp
      refine (has_yes (a := ⟨enAt ((caseOf false ms ts dl).plan ts.length) k, enAt ((caseOf true ms ts dl).plan ts.length) k⟩) (n := enAt (cK.plan ts.length) k) HP1.out.2 HP2.out.2 _).mono ?_
      rintro e w67 ⟨rfl, hg65⟩
      have hg65s := hg65.size
      (try simp at hg65s)
      have F68 := F64.gn hg65
      clear F64
      refine ru_back hK (by exact ⟨(((F68.at 14 rfl : Sl timEnc 4 lt_t1 ht_t1 _ (.slice (some ⟨x49, o50, none⟩) ts.length ct_t1) (timN (caseOf false ms ts dl) (caseOf true ms ts dl) ts.length ts.length))).cells hz51.out 0 _ rfl), (((F68.at 14 rfl : Sl timEnc 4 lt_t1 ht_t1 _ (.slice (some ⟨x49, o50, none⟩) ts.length ct_t1) (timN (caseOf false ms ts dl) (caseOf true ms ts dl) ts.length ts.length))).cells hz51.out 1 _ rfl), ((F68.at 0 rfl : Bk _ gK 58 #[u0K, u1K, u2K, u3K, u4K, u5K, u6K, .slice (some ⟨x52, o53, none⟩) ts.length cbK, .slice (some ⟨x55, o56, none⟩) ts.length ceK, u7K, u8K])).cell 7, (by have h_ := ((F68.at 2 rfl : Sl intEnc 1 lSK hhK _ (.slice (some ⟨x52, o53, none⟩) ts.length cbK) (rowF (cK.bgI ts.length) ts.length))).cells hz54.out 0 _ rfl; simpa using h_), (((F68.at 14 rfl : Sl timEnc 4 lt_t1 ht_t1 _ (.slice (some ⟨x49, o50, none⟩) ts.length ct_t1) (timN (caseOf false ms ts dl) (caseOf true ms ts dl) ts.length ts.length))).cells hz51.out 2 _ rfl), (((F68.at 14 rfl : Sl timEnc 4 lt_t1 ht_t1 _ (.slice (some ⟨x49, o50, none⟩) ts.length ct_t1) (timN (caseOf false ms ts dl) (caseOf true ms ts dl) ts.length ts.length))).cells hz51.out 3 _ rfl), ((F68.at 0 rfl : Bk _ gK 58 #[u0K, u1K, u2K, u3K, u4K, u5K, u6K, .slice (some ⟨x52, o53, none⟩) ts.length cbK, .slice (some ⟨x55, o56, none⟩) ts.length ceK, u7K, u8K])).cell 8, (by have h_ := ((F68.at 1 rfl : Sl intEnc 1 lSK hhK _ (.slice (some ⟨x55, o56, none⟩) ts.length ceK) (rowF (cK.enI ts.length) ts.length))).cells hz57.out 0 _ rfl; simpa using h_)⟩) (fun hHeld => ?_)
      clear hK K
      (try simp only [Act.put, List.setIfInBounds_toArray, List.set_cons_zero, List.set_cons_succ])
      refine ru_p 28 ?_
      (try simp only [Act.put, List.setIfInBounds_toArray, List.set_cons_zero, List.set_cons_succ])
      refine ru_one 29 rfl (by kernel_rfl) (fun K hK => ?_)
      go_simp
      refine ru_back_late hK (by kernel_rfl) ?_
      clear hK K
      (try simp only [Act.put, List.setIfInBounds_toArray, List.set_cons_zero, List.set_cons_succ])
      refine ru_done (by kernel_rfl) ?_
      obtain ⟨w69, hx70, F72, hxs71⟩ := (show Bun w [rfix gK 58 #[u0K, u1K, u2K, u3K, u4K, u5K, u6K, .slice (some ⟨x52, o53, none⟩) ts.length cbK, .slice (some ⟨x55, o56, none⟩) ts.length ceK, u7K, u8K], rsl intEnc 1 lSK hhK (.slice (some ⟨x55, o56, none⟩) ts.length ceK) (rowF (cK.enI ts.length) ts.length), rsl intEnc 1 lSK hhK (.slice (some ⟨x52, o53, none⟩) ts.length cbK) (rowF (cK.bgI ts.length) ts.length), rown intEnc 3 1 w.heap.size v1K lhK, rown intEnc 3 1 w.heap.size v2K lwK, rown intEnc 3 1 w.heap.size v3K lfK, rown vEncS 56 1 w.heap.size v4K (rowsK.map (fun (x_ : Value × List Bool) => x_.1)), rrws w.heap.size rowsK, rseed sb, rsl weaEnc 6 lw_dl hw_dl (.slice aw_dl dl.length cw_dl) dl, rsl mchEnc 3 loJ hiJ (.slice a1J ms.length c1J) ms, rsl tskEnc 8 loJ hiJ (.slice a2J ts.length c2J) ts, rafs loJ hiJ ts, rbox w20.heap.size 39 #[.int .i64 ((caseOf false ms ts dl).opn ts.length), .int .i64 ((caseOf true ms ts dl).opn ts.length)], rsl timEnc 4 lt_t1 ht_t1 (.slice (some ⟨x49, o50, none⟩) ts.length ct_t1) (timN (caseOf false ms ts dl) (caseOf true ms ts dl) ts.length ts.length), rsl intEnc 1 0 w.heap.size (.slice na zs.length nc) zs] _ from F68).name
      (try simp at hxs71)
      rw [hx70]
      clear hx70 F68
      go_wp2_with fail
      (first | refine ⟨by kernel_rfl, ?_, ?_⟩ | refine ⟨rfl, ?_, ?_⟩ | refine ⟨?_, ?_⟩)
      · rw [HI44.out]; exact ⟨k + 1, (by first | kernel_rfl | rfl), (by first | kernel_rfl | rfl), (by first | kernel_rfl | rfl), (by first | kernel_rfl | rfl), (by show Value.int .i64 ((k : Int) + 1) = _; simp), (by omega), (by first | rfl | simp), (by first | omega | (simp; done) | (simp; omega)), F72⟩
      · simp [slot, intOf]; omega
    · skip
      have c48H := Lib.hid c48
      have c48a : decide ((k : Int) < (ts.length : Int)) = false := dec_f c48
      have b73 := hF45.bx2 13 rfl
      go_wp2_with fail
      clear b73
      refine (has_yes (a := ⟨(caseOf false ms ts dl).opn ts.length, (caseOf true ms ts dl).opn ts.length⟩) (n := cK.opn ts.length) (HKC.out.1.lo.opn _) (HKC.out.1.hi.opn _) _).mono ?_
      rintro e w76 ⟨rfl, hg74⟩
      have hg74s := hg74.size
      (try simp at hg74s)
      have F77 := hF45.gn hg74
      clear hF45
      clear hg74
      go_wp2_with fail
      refine (awake_c _).mono ?_
      rintro e w80 ⟨rfl, hg78⟩
      have hg78s := hg78.size
      (try simp at hg78s)
      have F81 := F77.gn hg78
      clear F77
      clear hg78
      go_wp2_with fail
      go_ret
      exact ⟨rfl, F81.gb⟩
  case atStart1 =>
    rw [HI44.out]
    exact ⟨0, (by first | kernel_rfl | rfl), (by first | kernel_rfl | rfl), (by first | kernel_rfl | rfl), (by first | kernel_rfl | rfl), rfl, Nat.zero_le _, rfl, (by first | exact Nat.le_refl _ | omega | (simp; done) | (simp; omega)), F43⟩

end Go.Proofs.Ytokelpmngahnoaa
