/- build: BuildIdle walked. -/
import Derived.Test.YtokelpmngahnoaaZL0
import Derived.Test.YtokelpmngahnoaaZE2
import Derived.Test.YtokelpmngahnoaaZG3
import Derived.Test.YtokelpmngahnoaaZI2
import Derived.Test.YtokelpmngahnoaaZJK2
import Derived.Test.YtokelpmngahnoaaZJK3
import Derived.Test.YtokelpmngahnoaaZW2
set_option linter.unusedVariables false
set_option linter.unusedSimpArgs false
set_option linter.unnecessarySimpa false
namespace Go.Proofs.Ytokelpmngahnoaa
open Go.RowKit
set_option maxRecDepth 100000
attribute [local go_sem] Oper.semAt_some
theorem af_len {i : Nat} {l : List Int} (h : l.Nodup) (hl : ∀ a ∈ l, 0 ≤ a ∧ a < (i : Int)) : l.length ≤ i := by
  have h2 := List.Nodup.length_le_of_subset (l₂ := (List.range i).map (fun (x : Nat) => (x : Int))) h (fun a ha => by
    have := hl a ha
    exact List.mem_map.2 ⟨a.toNat, by simp; omega, by omega⟩)
  simpa using h2
/-- Small enough to be copied. -/
structure JSmall (ms : List Mch) (ts : List Tsk) : Prop where
  m : ms.length ≤ 100000
  t : ts.length ≤ 100000
  a : ∀ t ∈ ts, t.af.length ≤ 100000
theorem jsmall_ok {ms : List Mch} {ts : List Tsk} (h : JobOk ms ts) : JSmall ms ts := by
  have h1 := h.nm
  have h2 := h.nt
  refine ⟨by omega, by omega, fun t ht => ?_⟩
  obtain ⟨k, hk, e⟩ := List.getElem_of_mem ht
  have h3 := h.to_ k t (by rw [List.getElem?_eq_getElem hk, e])
  have := af_len h3.nd h3.af
  omega
theorem jobAt_more {base k : Nat} {w : World} {v1 v2 : Value} {lm : List Mch} {lt : List Tsk} {x : Tsk} {d : Int} (hm : Own mchEnc 77 3 base w v1 lm) (ht : Own tskEncS 79 8 base w v2 (lt.set k (moreT x d))) (ha : ∀ t ∈ lt, Own intEnc 3 1 base w t.av t.af) (hs : ∀ t ∈ lt, sliceB t.av = true) (hx : lt[k]? = some x) : JobAt 0 w.heap.size w v1 v2 lm (lt.set k (moreT x d)) :=
  jobAt_own hm ht (fun t h => by
    rcases List.mem_or_eq_of_mem_set h with h2 | rfl
    · exact ha t h2
    · exact ha x (List.mem_of_getElem? hx)) (fun t h => by
    rcases List.mem_or_eq_of_mem_set h with h2 | rfl
    · exact hs t h2
    · exact hs x (List.mem_of_getElem? hx))
theorem wrapG_c (x n : Int) (w : World) (hn : 1 ≤ n ∧ n ≤ 1000000000000) : Calls Try.prog 45 #[.int .i64 x, .int .i64 n] w (fun e w' => ∃ r, e = .returned (.int .i64 r) ∧ (0 ≤ r ∧ r < n) ∧ w.grownBy w' none) := by
  obtain ⟨m, hm⟩ : ∃ m, Int.tmod x n = m := ⟨_, rfl⟩
  have h1 := Int.tmod_lt_of_pos x (show 0 < n by omega)
  have h2 : -n < Int.tmod x n := by
    have h := Int.tmod_lt_of_pos (-x) (show 0 < n by omega)
    rw [Int.neg_tmod] at h
    omega
  rw [hm] at h1 h2
  obtain ⟨r, hr⟩ : ∃ r, Int.tmod (m + n) n = r := ⟨_, rfl⟩
  have h3 := Int.tmod_lt_of_pos (m + n) (show 0 < n by omega)
  have h4 := Int.tmod_nonneg (a := m + n) n (by omega)
  rw [hr] at h3 h4
  have e0 : (n == 0) = false := by simp; omega
  have hw1 : IntKind.i64.wrap m = m := IntWalk.i64_in _ (by omega)
  have hw2 : IntKind.i64.wrap (m + n) = m + n := IntWalk.i64_in _ (by omega)
  have hw3 : IntKind.i64.wrap r = r := IntWalk.i64_in _ (by omega)
  by_cases hn2 : n < 2
  · go_enter Try.func45, Try.ntmps45
    go_wp2_with fail
    go_ret
    exact ⟨_, rfl, ⟨by omega, by omega⟩, gb_refl _ _⟩
  · go_enter Try.func45, Try.ntmps45
    go_wp2_with fail
    go_ret
    exact ⟨_, rfl, ⟨by omega, by omega⟩, gb_refl _ _⟩
theorem wrapN_c (x n : Int) (w : World) (hn : 1 ≤ n ∧ n ≤ 1000000000000) : Calls Try.prog 45 #[.int .i64 x, .int .i64 n] w (fun e w' => ∃ r : Nat, e = .returned (.int .i64 (r : Int)) ∧ (r : Int) < n ∧ w.grownBy w' none) := by
  refine (wrapG_c x n w hn).mono ?_
  rintro e w' ⟨r, rfl, ⟨h1, h2⟩, hg⟩
  exact ⟨r.toNat, by rw [Int.toNat_of_nonneg h1], by omega, hg⟩
theorem slkE_two {ms : List Mch} {ts : List Tsk} {dl : List Wea} {k : Nat} (h : bothErr ms ts dl = 0) (hk : (k : Int) < ts.length) : (slkE ms ts dl (k : Int) = 13 ∧ (caseOf true ms ts dl).opn ts.length = 24 * (dl.length : Int) + 1) ∨ slkE ms ts dl (k : Int) = 0 := by
  have hw : ¬ wth (k : Int) 0 ((ts.length : Int) - 1) = false := by unfold wth; simp; omega
  unfold slkE
  rw [if_neg (not_not_intro h), if_neg hw]
  by_cases h2 : (caseOf true ms ts dl).opn ts.length = 24 * (dl.length : Int) + 1
  · rw [if_pos h2]; exact .inl ⟨rfl, h2⟩
  · rw [if_neg h2]; exact .inr rfl
theorem slkE_none {ms : List Mch} {ts : List Tsk} {dl : List Wea} {k : Int} (h : bothErr ms ts dl = 0) (hk : ts.length = 0) : slkE ms ts dl k = 7 := by
  have hw : wth k 0 ((ts.length : Int) - 1) = false := by unfold wth; simp; omega
  unfold slkE
  rw [if_neg (not_not_intro h), if_pos hw]
/-- What is so of a slack. -/
structure SlOk (ms : List Mch) (ts : List Tsk) (dl : List Wea) (k : Nat) (z : Tsk) (n : Int) : Prop where
  bd : 0 ≤ n ∧ n ≤ 1000
  same : (caseOf true ms (ts.set k (moreT z n)) dl).opn ts.length = (caseOf true ms ts dl).opn ts.length
  later : n = 1000 ∨ (caseOf true ms ts dl).opn ts.length < (caseOf true ms (ts.set k (moreT z (n + 1))) dl).opn ts.length
theorem slOk_of {ms : List Mch} {ts : List Tsk} {dl : List Wea} {k : Nat} {z : Tsk} (h : JobOk ms ts) (hz : ts[k]? = some z) (he : slkE ms ts dl (k : Int) = 0) : SlOk ms ts dl k z (slkN ms ts dl (k : Int)) := by
  have e : slkN ms ts dl (k : Int) = ((fndN (slkQ ms ts dl k) 0 1000 : Nat) : Int) := by rw [slkN, if_pos he, Int.toNat_natCast]
  have hb := fndN_bd (slkQ ms ts dl k) 1000 0
  have hq : ∀ q : Nat, slkQ ms ts dl k q = latB ms ts dl k z ((caseOf true ms ts dl).opn ts.length) ((q : Int) + 1) := fun q => by unfold slkQ; rw [tk_get hz]
  rw [e]
  generalize hr : fndN (slkQ ms ts dl k) 0 1000 = r at hb ⊢
  have hl : latB ms ts dl k z ((caseOf true ms ts dl).opn ts.length) (r : Int) = false := by
    rcases Nat.eq_zero_or_pos r with h0 | h0
    · rw [h0]; exact lat_zero hz
    · have h1 := fndN_no (f := slkQ ms ts dl k) 1000 0 (r - 1) (Nat.zero_le _) (by omega)
      rw [hq] at h1
      rwa [show (((r - 1 : Nat) : Int) + 1) = (r : Int) by omega] at h1
  refine ⟨by omega, ?_, ?_⟩
  · have h1 := (more_le (dl := dl) (d := 0) (e := (r : Int)) h hz (by decide) (by omega)).opn ts.length
    rw [more_zero hz] at h1
    unfold latB at hl
    rw [decide_eq_false_iff_not] at hl
    omega
  · by_cases h3 : r = 1000
    · left; omega
    · right
      have h1 := fndN_yes (f := slkQ ms ts dl k) 1000 0 (by omega)
      rw [hr, hq] at h1
      unfold latB at h1
      exact of_decide_eq_true h1
theorem set_more1 {ts : List Tsk} {k : Nat} {z : Tsk} {d : Int} : (ts.set k (moreT z d)).set k (moreT (moreT z d) 1) = ts.set k (moreT z (d + 1)) := by
  have e : moreT (moreT z d) 1 = moreT z (d + 1) := by unfold moreT; simp only [Int.add_assoc]
  rw [e, List.set_set]
set_option maxHeartbeats 64000000 in
theorem idle_walk (vn : Value) (zs : List Int) (wh : Int) (w : World) (hn : Sl intEnc 1 0 w.heap.size w vn zs) :
    Calls Try.prog 10 #[vn, .int .i64 wh] w (Ret (.bool true) w) := by
  have F1 : Bun w [] w := Bun.nil _
  obtain ⟨na, nc, rfl⟩ := hn.any
  have hm_nums := hn.len
  unfold maxLen at hm_nums
  have F2 := F1.sl0 hn (Nat.le_refl _) rfl
  clear F1
  go_enter Try.func10, Try.ntmps10
  go_wp2_with fail
  refine (newSeed_c 0 w.heap.size _ zs _ (F2.at 0 rfl : Sl intEnc 1 0 w.heap.size _ (.slice na zs.length nc) zs)).mono ?_
  rintro e w5 ⟨sb, rfl, hsb, hsbs, hg3⟩
  have hsbl := hsbs.lt
  have hg3s := hg3.size
  (try simp at hg3s)
  have F6 := F2.add (rseed sb) hg3 (hsbs) (fun g e => by cases e; exact ⟨hsb, hsbs.lt⟩)
  clear F2
  clear hg3
  go_wp2_with fail
  refine (jobOf_h sb 6 _ (F6.at 0 rfl : SeedAt _ sb) (by omega)).mono ?_
  rintro e w9 ⟨ms, ts, a1J, a2J, c1J, c2J, loJ, hiJ, rfl, ⟨hxJ, hyJ⟩, hjJ, ⟨hjeJ, hmaJ, hmbJ, htaJ⟩, hthJ, hs8, hg7⟩
  have HJEJ := Lib.hid hjeJ
  have HTHJ := Lib.hid hthJ
  clear hjeJ hthJ
  have hg7s := hg7.size
  (try simp at hg7s)
  have F10 := F6.seedAdd (rafs loJ hiJ ts) hg7 hs8 (hjJ.af) (fun g e => ⟨Nat.le_trans hxJ e.1, Nat.lt_of_lt_of_le e.2 hyJ⟩)
  clear F6
  clear hg7
  have F11 := F10.more 0 (rsl tskEnc 8 loJ hiJ (.slice a2J ts.length c2J) ts) rfl rfl rfl (fun _ h_ => h_) (Sl.gb hjJ.t (gb_refl _ none) (fun _ e => by cases e))
  clear F10
  have hm_tsJ := (F11.at 0 rfl : Sl tskEnc 8 loJ hiJ _ (.slice a2J ts.length c2J) ts).len
  unfold maxLen at hm_tsJ
  have F12 := F11.more 1 (rsl mchEnc 3 loJ hiJ (.slice a1J ms.length c1J) ms) rfl rfl rfl (fun _ h_ => h_) (Sl.gb hjJ.m (gb_refl _ none) (fun _ e => by cases e))
  clear F11
  have hm_msJ := (F12.at 0 rfl : Sl mchEnc 3 loJ hiJ _ (.slice a1J ms.length c1J) ms).len
  unfold maxLen at hm_msJ
  go_wp2_with fail
  refine (weekOf_c sb 6 _ ((F12.front 3 rfl rfl).at 0 rfl : SeedAt _ sb) (by omega)).mono ?_
  rintro e w15 ⟨dl, aw_dl, cw_dl, lw_dl, hw_dl, rfl, ⟨hwx_dl, hwy_dl⟩, hwz_dl, ⟨hwl_dl, hwe_dl⟩, hs14, hg13⟩
  have HWE_dl := Lib.hid hwe_dl
  clear hwe_dl
  have hg13s := hg13.size
  (try simp at hg13s)
  have F16 := (F12.front 3 rfl rfl).seedAdd (rsl weaEnc 6 lw_dl hw_dl (.slice aw_dl dl.length cw_dl) dl) hg13 hs14 (hwz_dl) (fun g e => ⟨Nat.le_trans hwx_dl e.1, Nat.lt_of_lt_of_le e.2 hwy_dl⟩)
  clear F12
  clear hg13
  have HBE1 := Lib.hid (bothErr_of HJEJ.out HWE_dl.out (by omega))
  have HOK := Lib.hid (bothOk HBE1.out)
  have hnt := HOK.out.1.nt
  have hnd := HOK.out.2
  go_wp2_with fail
  have F17 := F16.new 25 #[.slice a1J ms.length c1J, .slice a2J ts.length c2J] (n := w15.heap.size) (by simp)
  clear F16
  refine (btimes_ok loJ hiJ _ _ ms ts lw_dl hw_dl _ dl _ (JobAt.mk (F17.at 3 rfl : Sl mchEnc 3 loJ hiJ _ (.slice a1J ms.length c1J) ms) (F17.at 4 rfl : Sl tskEnc 8 loJ hiJ _ (.slice a2J ts.length c2J) ts) (F17.at 5 rfl : Afs loJ hiJ _ ts)) (by first | omega | (simp; omega)) (F17.at 1 rfl : Sl weaEnc 6 lw_dl hw_dl _ (.slice aw_dl dl.length cw_dl) dl) (by first | omega | (simp; omega)) HBE1.out _ _ rfl rfl).mono ?_
  rintro e w20 ⟨at_t1, ct_t1, lt_t1, ht_t1, rfl, ⟨htx_t1, hty_t1⟩, htz_t1, hg18⟩
  have hg18s := hg18.size
  (try simp at hg18s)
  have F21 := F17.add (rsl timEnc 4 lt_t1 ht_t1 (.slice at_t1 ts.length ct_t1) (timN (caseOf false ms ts dl) (caseOf true ms ts dl) ts.length ts.length)) hg18 (htz_t1) (fun g e => ⟨Nat.le_trans htx_t1 e.1, Nat.lt_of_lt_of_le e.2 hty_t1⟩)
  clear F17
  clear hg18
  by_cases c22 : (ts.length : Int) = 0
  · skip
    have c22a : ((ts.length : Int) == 0) = true := beq_t c22
    have c22b : ((ts.length : Int) != 0) = false := bne_f c22
    have c22H := Lib.hid c22
    clear c22
    have b23 := F21.bx2 1 rfl
    go_wp2_with fail
    clear b23
    have F24 := F21.new 39 #[.int .i64 ((caseOf false ms ts dl).opn ts.length), .int .i64 ((caseOf true ms ts dl).opn ts.length)] (n := w20.heap.size) (by simp)
    clear F21
    refine (slack_c 0 _ _ _ ms ts 0 _ _ dl wh _ (JobAt.mk (F24.slY 5 rfl) (F24.slY 6 rfl) (F24.afY 7 rfl)) (Nat.le_refl _) (F24.slY 3 rfl) (Nat.le_refl _)).mono ?_
    rintro e w27 ⟨rfl, hg25⟩
    have hg25s := hg25.size
    (try simp at hg25s)
    have F28 := F24.gn hg25
    clear F24
    clear hg25
    have kn29 : slkE ms ts dl wh = 7 := (slkE_none HBE1.out (by have h_ := c22H.out; omega))
    have kn29H := Lib.hid kn29
    have kn29a : ((slkE ms ts dl wh) == 7) = true := beq_t kn29
    have kn29b : ((slkE ms ts dl wh) != 7) = false := bne_f kn29
    clear kn29
    go_wp2_with fail
    refine (awake_c _).mono ?_
    rintro e w32 ⟨rfl, hg30⟩
    have hg30s := hg30.size
    (try simp at hg30s)
    have F33 := F28.gn hg30
    clear F28
    clear hg30
    go_wp2_with fail
    go_ret
    exact ⟨rfl, F33.gb⟩
  · skip
    have c22a : ((ts.length : Int) == 0) = false := beq_f c22
    have c22b : ((ts.length : Int) != 0) = true := bne_t c22
    have c22H := Lib.hid c22
    clear c22
    have b34 := F21.bx2 1 rfl
    go_wp2_with fail
    clear b34
    have F35 := F21.new 39 #[.int .i64 ((caseOf false ms ts dl).opn ts.length), .int .i64 ((caseOf true ms ts dl).opn ts.length)] (n := w20.heap.size) (by simp)
    clear F21
    refine (wrapN_c wh (ts.length : Int) _ (by have h_ := c22H.out; omega)).mono ?_
    rintro e w38 ⟨k, rfl, hkl, hg36⟩
    have hg36s := hg36.size
    (try simp at hg36s)
    have F39 := F35.gn hg36
    clear F35
    clear hg36
    have b40 := F39.bx2 2 rfl
    go_wp2_with fail
    clear b40
    refine (slack_c 0 _ _ _ ms ts 0 _ _ dl (k : Int) _ (JobAt.mk (F39.slY 5 rfl) (F39.slY 6 rfl) (F39.afY 7 rfl)) (Nat.le_refl _) (F39.slY 3 rfl) (Nat.le_refl _)).mono ?_
    rintro e w43 ⟨rfl, hg41⟩
    have hg41s := hg41.size
    (try simp at hg41s)
    have F44 := F39.gn hg41
    clear F39
    clear hg41
    rcases slkE_two HBE1.out hkl with ⟨hz1_, hz2_⟩ | hz1_
    · skip
      have kn45 : slkE ms ts dl (k : Int) = 13 := hz1_
      have kn45H := Lib.hid kn45
      have kn45a : ((slkE ms ts dl (k : Int)) == 13) = true := beq_t kn45
      have kn45b : ((slkE ms ts dl (k : Int)) != 13) = false := bne_f kn45
      clear kn45
      have kn46 : ¬ (slkE ms ts dl (k : Int) = 0) := (by rw [hz1_]; decide)
      have kn46H := Lib.hid kn46
      have kn46a : ((slkE ms ts dl (k : Int)) == 0) = false := beq_f kn46
      have kn46b : ((slkE ms ts dl (k : Int)) != 0) = true := bne_t kn46
      clear kn46
      have kn47 : (caseOf true ms ts dl).opn ts.length = 24 * (dl.length : Int) + 1 := hz2_
      have kn47H := Lib.hid kn47
      have kn47a : (((caseOf true ms ts dl).opn ts.length) == (24 * (dl.length : Int) + 1)) = true := beq_t kn47
      have kn47b : (((caseOf true ms ts dl).opn ts.length) != (24 * (dl.length : Int) + 1)) = false := bne_f kn47
      clear kn47
      clear hz1_ hz2_
      have b48 := F44.bx2 0 rfl
      go_wp2_with fail
      clear b48
      refine (awake_c _).mono ?_
      rintro e w51 ⟨rfl, hg49⟩
      have hg49s := hg49.size
      (try simp at hg49s)
      have F52 := F44.gn hg49
      clear F44
      clear hg49
      go_wp2_with fail
      go_ret
      exact ⟨rfl, F52.gb⟩
    · skip
      have kn53 : slkE ms ts dl (k : Int) = 0 := hz1_
      have kn53H := Lib.hid kn53
      have kn53a : ((slkE ms ts dl (k : Int)) == 0) = true := beq_t kn53
      have kn53b : ((slkE ms ts dl (k : Int)) != 0) = false := bne_f kn53
      clear kn53
      obtain ⟨zk, hzk_⟩ : ∃ z_, ts[k]? = some z_ := ⟨_, List.getElem?_eq_getElem (by omega)⟩
      have HZK := Lib.hid hzk_
      have HSL := Lib.hid (slOk_of HOK.out.1 hzk_ hz1_)
      obtain ⟨n, hn_⟩ : ∃ n_, slkN ms ts dl (k : Int) = n_ := ⟨_, rfl⟩
      have hnb := HSL.out.bd
      rw [hn_] at hnb HSL ⊢
      clear hn_ hzk_ hz1_
      have kn54 : ¬ (n < 0) := (by omega)
      have kn54H := Lib.hid kn54
      have kn54a : decide (n < 0) = false := dec_f kn54
      have kn55 : ¬ (1000 < n) := (by omega)
      have kn55H := Lib.hid kn55
      have kn55a : decide (1000 < n) = false := dec_f kn55
      have HSM := Lib.hid (jsmall_ok HOK.out.1)
      have b56 := F44.bx2 2 rfl
      go_wp2_with fail
      clear b56
      obtain ⟨w57, hx58, F60, hxs59⟩ := (show Bun w [rbox w20.heap.size 39 #[.int .i64 ((caseOf false ms ts dl).opn ts.length), .int .i64 ((caseOf true ms ts dl).opn ts.length)], rsl timEnc 4 lt_t1 ht_t1 (.slice at_t1 ts.length ct_t1) (timN (caseOf false ms ts dl) (caseOf true ms ts dl) ts.length ts.length), rbox w15.heap.size 25 #[.slice a1J ms.length c1J, .slice a2J ts.length c2J], rsl weaEnc 6 lw_dl hw_dl (.slice aw_dl dl.length cw_dl) dl, rseed sb, rsl mchEnc 3 loJ hiJ (.slice a1J ms.length c1J) ms, rsl tskEnc 8 loJ hiJ (.slice a2J ts.length c2J) ts, rafs loJ hiJ ts, rsl intEnc 1 0 w.heap.size (.slice na zs.length nc) zs] _ from F44).name
      (try simp at hxs59)
      rw [hx58]
      clear hx58 F44
      refine (ownJob_c 0 _ _ _ ms ts _ (JobAt.mk (F60.slY 5 rfl) (F60.slY 6 rfl) (F60.afY 7 rfl)) (Nat.le_refl _) HSM.out.m HSM.out.t HSM.out.a).mono ?_
      rintro e w62 ⟨ov1j61, ov2j61, ltj61, rfl, hmx_, hB63⟩
      have hB63s := hB63.gb.size
      (try simp at hB63s)
      have F64 := F60.joinV (L2 := [rown mchEnc 77 3 w57.heap.size ov1j61 ms, rown tskEncS 79 8 w57.heap.size ov2j61 ltj61, rafo w57.heap.size ltj61]) hB63 (List.forall_mem_cons.2 ⟨fun g hx => ((hB63.ltAt 0 rfl g hx).2 rfl), List.forall_mem_cons.2 ⟨fun g hx => ((hB63.ltAt 1 rfl g hx).2 rfl), List.forall_mem_cons.2 ⟨fun g hx => ((hB63.ltAt 2 rfl g hx).2 rfl), fun _ h => by cases h⟩⟩⟩)
      clear F60
      clear hB63
      (try dsimp only [List.cons_append, List.nil_append] at F64)
      have HMXj61 := Lib.hid hmx_
      have hltj61 : ltj61.length ≤ ts.length ∧ ts.length ≤ ltj61.length := ⟨Nat.le_of_eq hmx_.1, Nat.le_of_eq hmx_.1.symm⟩
      clear hmx_
      obtain ⟨oa65, oc66, e_⟩ := (Own.sl (F64.at 0 rfl : Own mchEnc 77 3 w57.heap.size _ ov1j61 ms) (fun _ => rfl)).any
      subst e_
      obtain ⟨oa67, oc68, e_⟩ := (Own.sl (F64.at 1 rfl : Own tskEncS 79 8 w57.heap.size _ ov2j61 ltj61) (fun _ => rfl)).any
      subst e_
      (skip)
      have F69 := F64.new 25 #[.slice oa65 ms.length oc66, .slice oa67 ltj61.length oc68] (n := w62.heap.size) (by simp)
      clear F64
      obtain ⟨gT70, cT71, e_⟩ := Own.opn (F69.at 2 rfl : Own tskEncS 79 8 w57.heap.size _ (.slice oa67 ltj61.length oc68) ltj61) (by omega)
      injection e_ with e1_ _ e2_
      subst e1_ e2_
      have gT70l := (F69.ltAt 2 rfl _ rfl).1
      have hkl2 : (k : Int) < (ltj61.length : Int) := by omega
      obtain ⟨xk, hxk_⟩ : ∃ z_, ltj61[k]? = some z_ := ⟨_, List.getElem?_eq_getElem (by omega)⟩
      have HXA := Lib.hid hxk_
      clear hxk_
      have HXK := Lib.hid (HMXj61.out.2.1 k xk zk HXA.out HZK.out).1
      have hxh : 0 ≤ xk.ho.hi ∧ xk.ho.hi ≤ 30 := by rw [HXK.out.2.1]; have h_ := HTHJ.out zk (List.mem_of_getElem? HZK.out); have h2_ := (HOK.out.1.to_ k zk HZK.out).ho; omega
      have hz72 : Hid (ltj61[k]? = some xk) := Lib.hid (HXA.out)
      go_wp2_with fail
      obtain ⟨w74, hx75, F77, hxs76⟩ := (show Bun w [rbox w62.heap.size 25 #[.slice oa65 ms.length oc66, .slice (some ⟨gT70, 0, none⟩) ltj61.length oc68], rown mchEnc 77 3 w57.heap.size (.slice oa65 ms.length oc66) ms, rown tskEncS 79 8 w57.heap.size (.slice (some ⟨gT70, 0, none⟩) ltj61.length oc68) ltj61, rafo w57.heap.size ltj61, rbox w20.heap.size 39 #[.int .i64 ((caseOf false ms ts dl).opn ts.length), .int .i64 ((caseOf true ms ts dl).opn ts.length)], rsl timEnc 4 lt_t1 ht_t1 (.slice at_t1 ts.length ct_t1) (timN (caseOf false ms ts dl) (caseOf true ms ts dl) ts.length ts.length), rbox w15.heap.size 25 #[.slice a1J ms.length c1J, .slice a2J ts.length c2J], rsl weaEnc 6 lw_dl hw_dl (.slice aw_dl dl.length cw_dl) dl, rseed sb, rsl mchEnc 3 loJ hiJ (.slice a1J ms.length c1J) ms, rsl tskEnc 8 loJ hiJ (.slice a2J ts.length c2J) ts, rafs loJ hiJ ts, rsl intEnc 1 0 w.heap.size (.slice na zs.length nc) zs] _ from F69).name
      (try simp at hxs76)
      rw [hx75]
      clear hx75 F69
      have hw73 : IntKind.i64.wrap (xk.ho.hi + n) = xk.ho.hi + n := IntWalk.i64_in _ (by omega)
      have F78 := F77.drew
      clear F77
      refine ru_begin (fun W => W.cell? ⟨w62.heap.size, 1, none⟩ = some (.slice (some ⟨gT70, 0, none⟩) ltj61.length oc68) ∧ W.cell? ⟨gT70, k * 8 + 1 + 1, none⟩ = some (.int .i64 xk.ho.hi)) 15 (by kernel_rfl) ?_ ?_
      · exact ⟨F78.cl 0 1 rfl rfl, (by simpa using (Own.sl (F78.at 2 rfl : Own tskEncS 79 8 w57.heap.size _ (.slice (some ⟨gT70, 0, none⟩) ltj61.length oc68) ltj61) (fun _ => rfl)).cells hz72.out 2 _ rfl)⟩
      obtain ⟨wd80, hwd_⟩ : ∃ x : World, w74.drew = x := ⟨_, rfl⟩
      rw [hwd_] at F78 ⊢
      have wd80s : w74.heap.size ≤ wd80.heap.size := by rw [← hwd_]; exact Nat.le_refl _
      clear hwd_
      have hS79 := (And.intro (F78.cl 0 1 rfl rfl) ((by simpa using (Own.sl (F78.at 2 rfl : Own tskEncS 79 8 w57.heap.size _ (.slice (some ⟨gT70, 0, none⟩) ltj61.length oc68) ltj61) (fun _ => rfl)).cells hz72.out 2 _ rfl)))
      refine ru_t 0 [] ?_
      refine ru_t 1 [] ?_
      refine ru_t 2 [] ?_
      refine ru_t 3 [] ?_
      refine ru_t 4 [] ?_
      refine ru_t 5 [] ?_
      refine ru_t 6 [] ?_
      refine ru_t 7 [] ?_
      refine ru_t 8 [] ?_
      refine ru_t 9 [] ?_
      refine ru_t 10 [] ?_
      refine ru_t 11 [] ?_
      refine ru_t 12 [14, 13] ?_
      refine ru_t 13 [14] ?_
      refine ru_t 14 [] ?_
      (try simp only [Act.put, List.setIfInBounds_toArray, List.set_cons_zero, List.set_cons_succ])
      clear hS79
      refine ru_one 15 rfl (by kernel_rfl) (fun K hK => ?_)
      have kc_ : World.cell? _ ⟨gT70, k * 8 + 1 + 1, none⟩ = some (.int .i64 xk.ho.hi) := (by simpa using (Own.sl (F78.at 2 rfl : Own tskEncS 79 8 w57.heap.size _ (.slice (some ⟨gT70, 0, none⟩) ltj61.length oc68) ltj61) (fun _ => rfl)).cells hz72.out 2 _ rfl)
      have kf_ : World.frozen? _ ⟨gT70, k * 8 + 1 + 1, none⟩ = false := Own.live (F78.at 2 rfl : Own tskEncS 79 8 w57.heap.size _ (.slice (some ⟨gT70, 0, none⟩) ltj61.length oc68) ltj61) _
      go_simp
      clear kc_ kf_
      have F81 := Bun.setOwn (sz := 8) (fun _ => rfl) (F78.front 2 rfl rfl) hz72.out (y := (moreT xk n)) (j := 2) (u := (.int .i64 (xk.ho.hi + n))) (k := (k * 8 + 1 + 1)) (by decide) rfl rfl
      clear F78
      refine ru_back_late hK (by kernel_rfl) ?_
      clear hK K
      (try simp only [Act.put, List.setIfInBounds_toArray, List.set_cons_zero, List.set_cons_succ])
      refine ru_done (by kernel_rfl) ?_
      (try clear hw73)
      obtain ⟨w82, hx83, F85, hxs84⟩ := (show Bun w [rown tskEncS 79 8 w57.heap.size (.slice (some ⟨gT70, 0, none⟩) ltj61.length oc68) (ltj61.set k (moreT xk n)), rbox w62.heap.size 25 #[.slice oa65 ms.length oc66, .slice (some ⟨gT70, 0, none⟩) ltj61.length oc68], rown mchEnc 77 3 w57.heap.size (.slice oa65 ms.length oc66) ms, rafo w57.heap.size ltj61, rbox w20.heap.size 39 #[.int .i64 ((caseOf false ms ts dl).opn ts.length), .int .i64 ((caseOf true ms ts dl).opn ts.length)], rsl timEnc 4 lt_t1 ht_t1 (.slice at_t1 ts.length ct_t1) (timN (caseOf false ms ts dl) (caseOf true ms ts dl) ts.length ts.length), rbox w15.heap.size 25 #[.slice a1J ms.length c1J, .slice a2J ts.length c2J], rsl weaEnc 6 lw_dl hw_dl (.slice aw_dl dl.length cw_dl) dl, rseed sb, rsl mchEnc 3 loJ hiJ (.slice a1J ms.length c1J) ms, rsl tskEnc 8 loJ hiJ (.slice a2J ts.length c2J) ts, rafs loJ hiJ ts, rsl intEnc 1 0 w.heap.size (.slice na zs.length nc) zs] _ from F81).name
      (try simp at hxs84)
      rw [hx83]
      clear hx83 F81
      have b86 := F85.bx2 1 rfl
      go_wp2_with fail
      clear b86
      have HMSt2 := Lib.hid (mixT_set (d := n) HMXj61.out HXA.out HZK.out (Nat.le_refl _))
      have HBEt2 : Hid (bothErr ms (ltj61.set k (moreT xk n)) dl = 0) := Lib.hid (by rw [bothErr_same HMSt2.out]; exact more_err HBE1.out HZK.out (by omega) (by have h_ := HXK.out.2.1; rw [← h_]; omega))
      have HOPt2 : Hid ((caseOf true ms (ltj61.set k (moreT xk n)) dl).opn ltj61.length = (caseOf true ms (ts.set k (moreT zk n)) dl).opn ts.length) := Lib.hid (by rw [caseOf_same HMSt2.out]; have e_ := HMSt2.out.1; rw [List.length_set, List.length_set] at e_; rw [e_])
      refine (btimes_ok 0 _ _ _ ms (ltj61.set k (moreT xk n)) 0 _ _ dl _ (jobAt_more (F85.at 2 rfl : Own mchEnc 77 3 w57.heap.size _ (.slice oa65 ms.length oc66) ms) (F85.at 0 rfl : Own tskEncS 79 8 w57.heap.size _ (.slice (some ⟨gT70, 0, none⟩) ltj61.length oc68) (ltj61.set k (moreT xk n))) (F85.at 3 rfl : ∀ t ∈ ltj61, Own intEnc 3 1 w57.heap.size _ t.av t.af) HMXj61.out.2.2 HXA.out) (Nat.le_refl _) (F85.slY 7 rfl) (Nat.le_refl _) HBEt2.out _ _ rfl rfl).mono ?_
      rintro e w89 ⟨at_t2, ct_t2, lt_t2, ht_t2, rfl, ⟨htx_t2, hty_t2⟩, htz_t2, hg87⟩
      have hg87s := hg87.size
      (try simp at hg87s)
      have F90 := F85.add (rsl timEnc 4 lt_t2 ht_t2 (.slice at_t2 (ltj61.set k (moreT xk n)).length ct_t2) (timN (caseOf false ms (ltj61.set k (moreT xk n)) dl) (caseOf true ms (ltj61.set k (moreT xk n)) dl) (ltj61.set k (moreT xk n)).length (ltj61.set k (moreT xk n)).length)) hg87 (htz_t2) (fun g e => ⟨Nat.le_trans htx_t2 e.1, Nat.lt_of_lt_of_le e.2 hty_t2⟩)
      clear F85
      clear hg87
      have F91 := F90.new 39 #[.int .i64 ((caseOf false ms (ltj61.set k (moreT xk n)) dl).opn ltj61.length), .int .i64 ((caseOf true ms (ltj61.set k (moreT xk n)) dl).opn ltj61.length)] (n := w89.heap.size) (by simp)
      clear F90
      have hz92 : Hid ((ltj61.set k (moreT xk n))[k]? = some (moreT xk n)) := Lib.hid (set_more_at HXA.out)
      have hxh2 : 0 ≤ (moreT xk n).ho.hi ∧ (moreT xk n).ho.hi ≤ 1030 := by show 0 ≤ xk.ho.hi + n ∧ xk.ho.hi + n ≤ 1030; omega
      have b93 := F91.bx2 3 rfl
      have ge94 : World.cell? _ ⟨gT70, k * 8 + 1 + 1, none⟩ = some (.int .i64 (moreT xk n).ho.hi) := (by simpa using (Own.sl (F91.at 2 rfl : Own tskEncS 79 8 w57.heap.size _ (.slice (some ⟨gT70, 0, none⟩) ltj61.length oc68) (ltj61.set k (moreT xk n))) (fun _ => rfl)).cells hz92.out 2 _ rfl)
      have gl95 := cell_lt ge94
      have ge96 : World.cell? _ ⟨gT70, k * 8 + 1 + 1, none⟩ = some (.int .i64 (moreT xk n).ho.hi) := (by simpa using (Own.sl (F91.at 2 rfl : Own tskEncS 79 8 w57.heap.size _ (.slice (some ⟨gT70, 0, none⟩) ltj61.length oc68) (ltj61.set k (moreT xk n))) (fun _ => rfl)).cells hz92.out 2 _ rfl)
      have gl97 := cell_lt ge96
      have ge98 : World.frozen? _ ⟨gT70, k * 8 + 1 + 1, none⟩ = false := Own.live (F91.at 2 rfl : Own tskEncS 79 8 w57.heap.size _ (.slice (some ⟨gT70, 0, none⟩) ltj61.length oc68) (ltj61.set k (moreT xk n))) _
      have hne99 : ¬ gT70 = w62.heap.size := F91.neAt 2 3 rfl rfl (by decide) (.inl rfl) gT70 rfl
      have hne99s : ¬ w62.heap.size = gT70 := fun e => hne99 e.symm
      go_wp2_with fail
      clear b93 ge94 gl95 ge96 gl97 ge98 hne99 hne99s
      have F100 := Bun.setOwn (sz := 8) (fun _ => rfl) (F91.front 2 rfl rfl) hz92.out (y := (moreT (moreT xk n) 1)) (j := 2) (u := (.int .i64 ((moreT xk n).ho.hi + 1))) (by decide) rfl rfl
      clear F91
      rw [set_more1] at F100
      have HMSt3 := Lib.hid (mixT_set (d := (n + 1)) HMXj61.out HXA.out HZK.out (Nat.le_refl _))
      have HBEt3 : Hid (bothErr ms (ltj61.set k (moreT xk (n + 1))) dl = 0) := Lib.hid (by rw [bothErr_same HMSt3.out]; exact more_err HBE1.out HZK.out (by omega) (by have h_ := HXK.out.2.1; rw [← h_]; omega))
      have HOPt3 : Hid ((caseOf true ms (ltj61.set k (moreT xk (n + 1))) dl).opn ltj61.length = (caseOf true ms (ts.set k (moreT zk (n + 1))) dl).opn ts.length) := Lib.hid (by rw [caseOf_same HMSt3.out]; have e_ := HMSt3.out.1; rw [List.length_set, List.length_set] at e_; rw [e_])
      refine (btimes_ok 0 _ _ _ ms (ltj61.set k (moreT xk (n + 1))) 0 _ _ dl _ (jobAt_more (F100.at 4 rfl : Own mchEnc 77 3 w57.heap.size _ (.slice oa65 ms.length oc66) ms) (F100.at 0 rfl : Own tskEncS 79 8 w57.heap.size _ (.slice (some ⟨gT70, 0, none⟩) ltj61.length oc68) (ltj61.set k (moreT xk (n + 1)))) (F100.at 5 rfl : ∀ t ∈ ltj61, Own intEnc 3 1 w57.heap.size _ t.av t.af) HMXj61.out.2.2 HXA.out) (Nat.le_refl _) (F100.slY 9 rfl) (Nat.le_refl _) HBEt3.out _ _ rfl rfl).mono ?_
      rintro e w103 ⟨at_t3, ct_t3, lt_t3, ht_t3, rfl, ⟨htx_t3, hty_t3⟩, htz_t3, hg101⟩
      have hg101s := hg101.size
      (try simp at hg101s)
      have F104 := F100.add (rsl timEnc 4 lt_t3 ht_t3 (.slice at_t3 (ltj61.set k (moreT xk (n + 1))).length ct_t3) (timN (caseOf false ms (ltj61.set k (moreT xk (n + 1))) dl) (caseOf true ms (ltj61.set k (moreT xk (n + 1))) dl) (ltj61.set k (moreT xk (n + 1))).length (ltj61.set k (moreT xk (n + 1))).length)) hg101 (htz_t3) (fun g e => ⟨Nat.le_trans htx_t3 e.1, Nat.lt_of_lt_of_le e.2 hty_t3⟩)
      clear F100
      clear hg101
      have F105 := F104.new 39 #[.int .i64 ((caseOf false ms (ltj61.set k (moreT xk (n + 1))) dl).opn ltj61.length), .int .i64 ((caseOf true ms (ltj61.set k (moreT xk (n + 1))) dl).opn ltj61.length)] (n := w103.heap.size) (by simp)
      clear F104
      have kn106 : (caseOf true ms (ltj61.set k (moreT xk n)) dl).opn ltj61.length = (caseOf true ms ts dl).opn ts.length := (by rw [HOPt2.out]; exact HSL.out.same)
      have kn106H := Lib.hid kn106
      have kn106a : (((caseOf true ms (ltj61.set k (moreT xk n)) dl).opn ltj61.length) == ((caseOf true ms ts dl).opn ts.length)) = true := beq_t kn106
      have kn106b : (((caseOf true ms (ltj61.set k (moreT xk n)) dl).opn ltj61.length) != ((caseOf true ms ts dl).opn ts.length)) = false := bne_f kn106
      clear kn106
      by_cases hnq_ : n = 1000
      · skip
        have kn107 : n = 1000 := hnq_
        have kn107H := Lib.hid kn107
        have kn107a : (n == 1000) = true := beq_t kn107
        have kn107b : (n != 1000) = false := bne_f kn107
        clear kn107
        clear hnq_
        have b108 := F105.bx2 3 rfl
        have b109 := F105.bx2 8 rfl
        go_wp2_with fail
        clear b108 b109
        refine (awake_c _).mono ?_
        rintro e w112 ⟨rfl, hg110⟩
        have hg110s := hg110.size
        (try simp at hg110s)
        have F113 := F105.gn hg110
        clear F105
        clear hg110
        go_wp2_with fail
        go_ret
        exact ⟨rfl, F113.gb⟩
      · skip
        have kn114 : ¬ (n = 1000) := hnq_
        have kn114H := Lib.hid kn114
        have kn114a : (n == 1000) = false := beq_f kn114
        have kn114b : (n != 1000) = true := bne_t kn114
        clear kn114
        have kn115 : (caseOf true ms ts dl).opn ts.length < (caseOf true ms (ltj61.set k (moreT xk (n + 1))) dl).opn ltj61.length := (by rw [HOPt3.out]; exact HSL.out.later.resolve_left hnq_)
        have kn115H := Lib.hid kn115
        have kn115a : decide ((caseOf true ms ts dl).opn ts.length < (caseOf true ms (ltj61.set k (moreT xk (n + 1))) dl).opn ltj61.length) = true := decide_eq_true kn115
        clear hnq_
        have b116 := F105.bx2 0 rfl
        have b117 := F105.bx2 3 rfl
        have b118 := F105.bx2 8 rfl
        go_wp2_with fail
        clear b116 b117 b118
        refine (awake_c _).mono ?_
        rintro e w121 ⟨rfl, hg119⟩
        have hg119s := hg119.size
        (try simp at hg119s)
        have F122 := F105.gn hg119
        clear F105
        clear hg119
        go_wp2_with fail
        go_ret
        exact ⟨rfl, F122.gb⟩

end Go.Proofs.Ytokelpmngahnoaa
