/- build and its reference: whether a task can be begun. -/
import Derived.Test.YtokelpmngahnoaaZS1
set_option linter.unusedVariables false
set_option linter.unusedSimpArgs false
set_option linter.unnecessarySimpa false
namespace Go.Proofs.Ytokelpmngahnoaa
open Go.RowKit
set_option maxRecDepth 100000
attribute [local go_sem] Oper.semAt_some
theorem SiteOk.no {c : Cs} {N i h : Nat} (H : SiteOk c N) (hi : i < N) (hh : h ≤ 24 * c.nd) (hn : ¬ (c.fr i ≤ (h : Int) ∧ (∀ k, k < i → c.m k = c.m i → c.enI N k ≤ (h : Int)) ∧ ∀ a ∈ c.af i, c.enI N a.toNat + c.wa a.toNat ≤ (h : Int))) : decide (c.bgI N i ≤ (h : Int)) = false :=
  decide_eq_false (fun hb => hn ((H.ready hi (by unfold Cs.past; omega)).1 hb))
theorem SiteOk.fr_iff {c : Cs} {N i h : Nat} (H : SiteOk c N) (hi : i < N) (hh : h ≤ 24 * c.nd) (h1 : ∀ k, k < i → c.m k = c.m i → c.enI N k ≤ (h : Int)) (h2 : ∀ a ∈ c.af i, c.enI N a.toNat + c.wa a.toNat ≤ (h : Int)) : decide (c.bgI N i ≤ (h : Int)) = decide (c.fr i ≤ (h : Int)) := by
  rw [decide_eq_decide, H.ready hi (by unfold Cs.past; omega)]
  exact ⟨fun h_ => h_.1, fun h_ => ⟨h_, h1, h2⟩⟩
theorem sD_t {c : Cs} {N h k : Nat} (h1 : c.sD N (h + 1) k = true) : c.enI N k ≤ (h : Int) := by
  have := of_decide_eq_true h1
  omega
theorem sD_f {c : Cs} {N h k : Nat} (h1 : c.sD N (h + 1) k = false) : ¬ c.enI N k ≤ (h : Int) := by
  have := of_decide_eq_false h1
  omega
theorem se_t {c : Cs} {N h k : Nat} (h1 : c.sD N (h + 1) k = true) : c.se N (h + 1) k = c.enI N k := by
  have := of_decide_eq_true h1
  unfold Cs.se
  rw [if_pos this]

set_option maxHeartbeats 16000000 in
theorem ready5_c (lo hi : Nat) (vm vt : Value) (ms : List Mch) (ts : List Tsk) (lo3 hi3 : Nat) (vh vw vf vk : Value) (lh lw lf : List Int) (rows : List (Value × List Bool)) (c : Cs) (lo5 hi5 g h i : Nat) (vl vb ve vB vD : Value) (w : World) (hj : JobAt lo hi w vm vt ms ts) (h2 : hi ≤ w.heap.size) (hca : CaseAt lo3 hi3 w vh vw vf vk lh lw lf rows) (h4 : hi3 ≤ w.heap.size) (hD : Sl boEnc 1 lo5 hi5 w vD (mixF (c.sD ts.length h) (c.sD ts.length (h + 1)) ts.length i)) (he : Sl intEnc 1 lo5 hi5 w ve (mixF (c.se ts.length h) (c.se ts.length (h + 1)) ts.length i)) (h5 : hi5 ≤ w.heap.size) (hg : Bk w g 58 #[vm, vt, vh, vw, vf, vk, vl, vb, ve, vB, vD]) (hi_ : i < ts.length) (hh : h ≤ 24 * c.nd) (hcs : CsIs c ms ts lh lw lf (rows.map (·.2))) (hrs : ∀ r ∈ rows, sliceB r.1 = true) (hco : CsOk c) (hnts : ts.length ≤ 1000) (hnms : ms.length ≤ 1000) (htm : ∀ (k : Nat) (t : Tsk), ts[k]? = some t → 0 ≤ t.m ∧ t.m < (ms.length : Int)) (hta : ∀ (k : Nat) (t : Tsk), ts[k]? = some t → ∀ a ∈ t.af, 0 ≤ a ∧ a < (k : Int)) :
    Calls Try.prog 108 #[.pointer (some ⟨g, 0, none⟩), .int .i64 (i : Int), .int .i64 (h : Int)] w (Ret (.bool (decide (c.bgI ts.length i ≤ (h : Int)))) w) := by
  have F1 : Bun w [] w := Bun.nil _
  obtain ⟨hms, hts, haf⟩ := hj
  have hm_ms := hms.len
  unfold maxLen at hm_ms
  obtain ⟨aM, cM, rfl⟩ := hms.any
  have F2 := F1.sl0 hms h2 rfl
  clear F1
  clear hms
  have hm_ts := hts.len
  unfold maxLen at hm_ts
  obtain ⟨aT, cT, rfl⟩ := hts.any
  have F3 := F2.sl0 hts h2 rfl
  clear F2
  clear hts
  have F4 := F3.non0 (rafs lo hi ts) haf (fun _ h_ => Nat.lt_of_lt_of_le h_.2 h2) rfl rfl
  clear F3
  clear haf
  obtain ⟨hch, hcw, hcf, hck, hcr⟩ := hca
  have hm_cho := hch.len
  unfold maxLen at hm_cho
  obtain ⟨ah, cah, rfl⟩ := hch.any
  have F5 := F4.sl0 hch h4 rfl
  clear F4
  clear hch
  have hm_cwa := hcw.len
  unfold maxLen at hm_cwa
  obtain ⟨aw, caw, rfl⟩ := hcw.any
  have F6 := F5.sl0 hcw h4 rfl
  clear F5
  clear hcw
  have hm_cfr := hcf.len
  unfold maxLen at hm_cfr
  obtain ⟨af, caf, rfl⟩ := hcf.any
  have F7 := F6.sl0 hcf h4 rfl
  clear F6
  clear hcf
  obtain ⟨ak, cak, rfl⟩ := hck.any
  simp only [List.length_map] at hck ⊢
  have hm_cwk : rows.length ≤ 2 ^ 63 - 1 := by have h_ := hck.len; unfold maxLen at h_; simpa using h_
  have F8 := F7.sl0 hck h4 rfl
  clear F7
  clear hck
  have F9 := F8.non0 (rrwsl lo3 hi3 rows) hcr (fun _ h_ => Nat.lt_of_lt_of_le h_.2 h4) rfl rfl
  clear F8
  clear hcr
  have hm_sD := hD.len
  unfold maxLen at hm_sD
  obtain ⟨aD, cD, rfl⟩ := hD.any
  have F10 := F9.sl0 hD h5 rfl
  clear F9
  clear hD
  have hm_se := he.len
  unfold maxLen at hm_se
  obtain ⟨aE, cE, rfl⟩ := he.any
  have F11 := F10.sl0 he h5 rfl
  clear F10
  clear he
  simp only [List.length_map, mixF_len] at hg F11
  have F12 := F11.non0 (rfix g 58 #[.slice aM ms.length cM, .slice aT ts.length cT, .slice ah lh.length cah, .slice aw lw.length caw, .slice af lf.length caf, .slice ak rows.length cak, vl, vb, .slice aE ts.length cE, vB, .slice aD ts.length cD]) hg (fun _ h_ => h_ ▸ hg.lt) rfl rfl
  clear F11
  have HCS := Lib.hid hcs
  have HCO := Lib.hid hco
  have HFR := Lib.hid (fun i => (HCO.out.fr i).1)
  have hnd4 := hco.nd
  have HTM := Lib.hid htm
  have HAF := Lib.hid hta
  have HRS := Lib.hid hrs
  have HSO : Hid (SiteOk c ts.length) := Lib.hid (SiteOk.of hco (fun i hi a ha => by rw [hcs.af] at ha; exact hta i _ (tk_at hi) a ha))
  have hlh : lh.length = ts.length := by rw [HCS.out.ho]; simp
  have hlw : lw.length = ts.length := by rw [HCS.out.wa]; simp
  have hlf : lf.length = ts.length := by rw [HCS.out.fr]; simp
  have hlk : rows.length = ms.length := by have h_ := HCS.out.rn; simpa using h_
  have HL := Lib.hid (And.intro hlh (And.intro hlw (And.intro hlf hlk)))
  clear hcs hco htm hta hrs hlh hlw hlf hlk
  go_enter Try.func108, Try.ntmps108
  obtain ⟨x13, o14, e_⟩ := Sl.addr (F12.at 9 rfl : Sl tskEnc 8 lo hi _ (.slice aT ts.length cT) ts) (by omega)
  subst e_
  obtain ⟨z, hz15_⟩ : ∃ z_, ts[i]? = some z_ := ⟨_, List.getElem?_eq_getElem (by omega)⟩
  have hz15 := Lib.hid hz15_
  clear hz15_
  obtain ⟨a_z, c_z, hav_z, hcap_z, hsl_z⟩ := Afs.open (F12.at 8 rfl : Afs lo hi _ ts) hz15.out
  have HAV_z := Lib.hid hav_z
  clear hav_z
  have F16 := F12.more 8 (rsl intEnc 1 lo hi (.slice a_z z.af.length c_z) z.af) rfl rfl rfl (fun _ h_ => h_) hsl_z
  clear F12
  have hm_z := (F16.at 0 rfl : Sl intEnc 1 lo hi _ (.slice a_z z.af.length c_z) z.af).len
  unfold maxLen at hm_z
  have HZM : Hid (z.m = c.m i ∧ z.af = c.af i) := Lib.hid (by rw [HCS.out.m, HCS.out.af, tk_get hz15.out]; exact ⟨rfl, rfl⟩)
  have HZA := Lib.hid (HAF.out i z hz15.out)
  have hit : (i : Int) < (ts.length : Int) := by omega
  have b17 := Bk.bx11 (F16.at 1 rfl : Bk _ g 58 #[.slice aM ms.length cM, .slice (some ⟨x13, o14, none⟩) ts.length cT, .slice ah lh.length cah, .slice aw lw.length caw, .slice af lf.length caf, .slice ak rows.length cak, vl, vb, .slice aE ts.length cE, vB, .slice aD ts.length cD])
  have ge18 : World.cell? _ ⟨x13, o14 + i * 8, none⟩ = some (.int .i64 z.m) := (((F16.at 10 rfl : Sl tskEnc 8 lo hi _ (.slice (some ⟨x13, o14, none⟩) ts.length cT) ts)).cells hz15.out 0 _ rfl)
  have gl19 := cell_lt ge18
  have ge20 : World.cell? _ ⟨x13, o14 + i * 8 + 1, none⟩ = some (.int .i64 z.ho.lo) := (((F16.at 10 rfl : Sl tskEnc 8 lo hi _ (.slice (some ⟨x13, o14, none⟩) ts.length cT) ts)).cells hz15.out 1 _ rfl)
  have ge21 : World.cell? _ ⟨x13, o14 + i * 8 + 2, none⟩ = some (.int .i64 z.ho.hi) := (((F16.at 10 rfl : Sl tskEnc 8 lo hi _ (.slice (some ⟨x13, o14, none⟩) ts.length cT) ts)).cells hz15.out 2 _ rfl)
  have ge22 : World.cell? _ ⟨x13, o14 + i * 8 + 3, none⟩ = some (.int .i64 z.wa.lo) := (((F16.at 10 rfl : Sl tskEnc 8 lo hi _ (.slice (some ⟨x13, o14, none⟩) ts.length cT) ts)).cells hz15.out 3 _ rfl)
  have ge23 : World.cell? _ ⟨x13, o14 + i * 8 + 4, none⟩ = some (.int .i64 z.wa.hi) := (((F16.at 10 rfl : Sl tskEnc 8 lo hi _ (.slice (some ⟨x13, o14, none⟩) ts.length cT) ts)).cells hz15.out 4 _ rfl)
  have ge24 : World.cell? _ ⟨x13, o14 + i * 8 + 5, none⟩ = some (.int .i64 z.fr.lo) := (((F16.at 10 rfl : Sl tskEnc 8 lo hi _ (.slice (some ⟨x13, o14, none⟩) ts.length cT) ts)).cells hz15.out 5 _ rfl)
  have ge25 : World.cell? _ ⟨x13, o14 + i * 8 + 6, none⟩ = some (.int .i64 z.fr.hi) := (((F16.at 10 rfl : Sl tskEnc 8 lo hi _ (.slice (some ⟨x13, o14, none⟩) ts.length cT) ts)).cells hz15.out 6 _ rfl)
  have ge26 : World.cell? _ ⟨x13, o14 + i * 8 + 7, none⟩ = some (.slice a_z z.af.length c_z) := (HAV_z.out ▸ (((F16.at 10 rfl : Sl tskEnc 8 lo hi _ (.slice (some ⟨x13, o14, none⟩) ts.length cT) ts)).cells hz15.out 7 _ rfl))
  go_wp2_with fail
  clear b17 ge18 gl19 ge20 ge21 ge22 ge23 ge24 ge25 ge26
  have F27 := F16.new 79 #[.int .i64 z.m, .int .i64 z.ho.lo, .int .i64 z.ho.hi, .int .i64 z.wa.lo, .int .i64 z.wa.hi, .int .i64 z.fr.lo, .int .i64 z.fr.hi, .slice a_z z.af.length c_z] (n := w.heap.size) (by simp)
  clear F16
  obtain ⟨HI28_, HI280⟩ : ∃ I : (Nat → Value) → List Deferred → World → Prop, I = (fun t ds wr => ∃ (k : Nat), t 0 = .pointer (some ⟨g, 0, none⟩) ∧ t 1 = .int .i64 (i : Int) ∧ t 2 = .int .i64 (h : Int) ∧ t 7 = .pointer (some ⟨w.heap.size, 0, none⟩) ∧ t 8 = .int .i64 (k : Int) ∧ k ≤ i ∧ Hid (∀ q, q < k → c.m q = c.m i → c.enI ts.length q ≤ (h : Int)) ∧ ds = [] ∧ w.heap.size ≤ wr.heap.size ∧ Bun w [rbox w.heap.size 79 #[.int .i64 z.m, .int .i64 z.ho.lo, .int .i64 z.ho.hi, .int .i64 z.wa.lo, .int .i64 z.wa.hi, .int .i64 z.fr.lo, .int .i64 z.fr.hi, .slice a_z z.af.length c_z], rsl intEnc 1 lo hi (.slice a_z z.af.length c_z) z.af, rfix g 58 #[.slice aM ms.length cM, .slice (some ⟨x13, o14, none⟩) ts.length cT, .slice ah lh.length cah, .slice aw lw.length caw, .slice af lf.length caf, .slice ak rows.length cak, vl, vb, .slice aE ts.length cE, vB, .slice aD ts.length cD], rsl intEnc 1 lo5 hi5 (.slice aE ts.length cE) (mixF (c.se ts.length h) (c.se ts.length (h + 1)) ts.length i), rsl boEnc 1 lo5 hi5 (.slice aD ts.length cD) (mixF (c.sD ts.length h) (c.sD ts.length (h + 1)) ts.length i), rrwsl lo3 hi3 rows, rsl vEncS 1 lo3 hi3 (.slice ak rows.length cak) (rows.map (·.1)), rsl intEnc 1 lo3 hi3 (.slice af lf.length caf) lf, rsl intEnc 1 lo3 hi3 (.slice aw lw.length caw) lw, rsl intEnc 1 lo3 hi3 (.slice ah lh.length cah) lh, rafs lo hi ts, rsl tskEnc 8 lo hi (.slice (some ⟨x13, o14, none⟩) ts.length cT) ts, rsl mchEnc 3 lo hi (.slice aM ms.length cM) ms] wr) := ⟨_, rfl⟩
  have HI28 := Lib.hid HI280
  clear HI280
  refine wp_loopS 96 rfl HI28_ (fun t wr => i - (intOf (t 8)).toNat) ?atStart1 ?round1
  case round1 =>
    intro t ds wr hHid
    rw [HI28.out] at hHid
    obtain ⟨k, e0, e1, e2, e7, e8, hrel⟩ := hHid
    have e : ((List.range 96).map t).toArray = #[t 0, t 1, t 2, t 3, t 4, t 5, t 6, t 7, t 8, t 9, t 10, t 11, t 12, t 13, t 14, t 15, t 16, t 17, t 18, t 19, t 20, t 21, t 22, t 23, t 24, t 25, t 26, t 27, t 28, t 29, t 30, t 31, t 32, t 33, t 34, t 35, t 36, t 37, t 38, t 39, t 40, t 41, t 42, t 43, t 44, t 45, t 46, t 47, t 48, t 49, t 50, t 51, t 52, t 53, t 54, t 55, t 56, t 57, t 58, t 59, t 60, t 61, t 62, t 63, t 64, t 65, t 66, t 67, t 68, t 69, t 70, t 71, t 72, t 73, t 74, t 75, t 76, t 77, t 78, t 79, t 80, t 81, t 82, t 83, t 84, t 85, t 86, t 87, t 88, t 89, t 90, t 91, t 92, t 93, t 94, t 95] := rfl
    (try dsimp only at e)
    rw [e0, e1, e2, e7, e8] at e
    rw [e]
    simp only [e8]
    clear e e0 e1 e2 e7 e8
    obtain ⟨hk, HQ, rfl, hs30, hF29⟩ := hrel
    clear F27
    obtain ⟨w31, rfl⟩ : ∃ x_ : World, x_ = wr := ⟨_, rfl⟩
    by_cases c32 : (k : Int) < (i : Int)
    · skip
      have c32H := Lib.hid c32
      obtain ⟨y, hz33_⟩ : ∃ z_, ts[k]? = some z_ := ⟨_, List.getElem?_eq_getElem (by omega)⟩
      have hz33 := Lib.hid hz33_
      clear hz33_
      obtain ⟨a_y, c_y, hav_y, hcap_y, hsl_y⟩ := Afs.open (hF29.at 10 rfl : Afs lo hi _ ts) hz33.out
      have HAV_y := Lib.hid hav_y
      clear hav_y
      have HYM : Hid (y.m = c.m k) := Lib.hid (by rw [HCS.out.m, tk_get hz33.out])
      have hkt : (k : Int) < (ts.length : Int) := by omega
      obtain ⟨x34, o35, e_⟩ := Sl.addr (hF29.at 4 rfl : Sl boEnc 1 lo5 hi5 _ (.slice aD ts.length cD) (mixF (c.sD ts.length h) (c.sD ts.length (h + 1)) ts.length i)) (by rw [mixF_len]; omega)
      subst e_
      have hz36 : Hid ((mixF (c.sD ts.length h) (c.sD ts.length (h + 1)) ts.length i)[k]? = some (c.sD ts.length (h + 1) k)) := Lib.hid (mixF_lt (by omega) (by omega))
      by_cases c37 : y.m = z.m
      · skip
        have c37a : (y.m == z.m) = true := beq_t c37
        have c37b : (y.m != z.m) = false := bne_f c37
        have c37H := Lib.hid c37
        clear c37
        go_wp2_with fail
        have b38 := hF29.bx8 0 rfl
        have b39 := Bk.bx11 (hF29.at 2 rfl : Bk _ g 58 #[.slice aM ms.length cM, .slice (some ⟨x13, o14, none⟩) ts.length cT, .slice ah lh.length cah, .slice aw lw.length caw, .slice af lf.length caf, .slice ak rows.length cak, vl, vb, .slice aE ts.length cE, vB, .slice (some ⟨x34, o35, none⟩) ts.length cD])
        have ge40 : World.cell? _ ⟨x13, o14 + k * 8, none⟩ = some (.int .i64 y.m) := (((hF29.at 11 rfl : Sl tskEnc 8 lo hi _ (.slice (some ⟨x13, o14, none⟩) ts.length cT) ts)).cells hz33.out 0 _ rfl)
        have ge41 : World.cell? _ ⟨x34, o35 + k, none⟩ = some (.bool (c.sD ts.length (h + 1) k)) := (by have h_ := ((hF29.at 4 rfl : Sl boEnc 1 lo5 hi5 _ (.slice (some ⟨x34, o35, none⟩) ts.length cD) (mixF (c.sD ts.length h) (c.sD ts.length (h + 1)) ts.length i))).cells hz36.out 0 _ rfl; simpa using h_)
        go_quiet (fail)
        clear b38 b39 ge40 ge41
        have F42 := hF29.drewN nq
        clear hF29
        obtain ⟨w43, hx44, F46, hxs45⟩ := (show Bun w [rbox w.heap.size 79 #[.int .i64 z.m, .int .i64 z.ho.lo, .int .i64 z.ho.hi, .int .i64 z.wa.lo, .int .i64 z.wa.hi, .int .i64 z.fr.lo, .int .i64 z.fr.hi, .slice a_z z.af.length c_z], rsl intEnc 1 lo hi (.slice a_z z.af.length c_z) z.af, rfix g 58 #[.slice aM ms.length cM, .slice (some ⟨x13, o14, none⟩) ts.length cT, .slice ah lh.length cah, .slice aw lw.length caw, .slice af lf.length caf, .slice ak rows.length cak, vl, vb, .slice aE ts.length cE, vB, .slice (some ⟨x34, o35, none⟩) ts.length cD], rsl intEnc 1 lo5 hi5 (.slice aE ts.length cE) (mixF (c.se ts.length h) (c.se ts.length (h + 1)) ts.length i), rsl boEnc 1 lo5 hi5 (.slice (some ⟨x34, o35, none⟩) ts.length cD) (mixF (c.sD ts.length h) (c.sD ts.length (h + 1)) ts.length i), rrwsl lo3 hi3 rows, rsl vEncS 1 lo3 hi3 (.slice ak rows.length cak) (rows.map (·.1)), rsl intEnc 1 lo3 hi3 (.slice af lf.length caf) lf, rsl intEnc 1 lo3 hi3 (.slice aw lw.length caw) lw, rsl intEnc 1 lo3 hi3 (.slice ah lh.length cah) lh, rafs lo hi ts, rsl tskEnc 8 lo hi (.slice (some ⟨x13, o14, none⟩) ts.length cT) ts, rsl mchEnc 3 lo hi (.slice aM ms.length cM) ms] _ from F42).name
        (try simp at hxs45)
        rw [hx44]
        clear hx44 F42
        cases c47 : (c.sD ts.length (h + 1) k)
        · skip
          have c47H := Lib.hid c47
          have Hx48 := Lib.hid (show ((decide (c.bgI ts.length i ≤ (h : Int)) : Bool)) = false by exact HSO.out.no (by omega) hh (fun h_ => sD_f c47H.out (h_.2.1 k (by omega) (by rw [← HYM.out, ← HZM.out.1]; exact c37H.out))))
          go_wp2_with fail
          go_ret
          exact ⟨by rw [Hx48.out] <;> rfl, F46.gb⟩
        · skip
          have c47H := Lib.hid c47
          go_wp2_with fail
          (first | refine ⟨by kernel_rfl, ?_, ?_⟩ | refine ⟨rfl, ?_, ?_⟩ | refine ⟨?_, ?_⟩)
          · rw [HI28.out]; exact ⟨k + 1, (by first | kernel_rfl | rfl), (by first | kernel_rfl | rfl), (by first | kernel_rfl | rfl), (by first | kernel_rfl | rfl), (by show Value.int .i64 ((k : Int) + 1) = _; simp), (by omega), (Lib.hid (fun q_ hq_ e_ => by rcases Nat.lt_succ_iff_lt_or_eq.1 hq_ with h_ | rfl; exact HQ.out q_ h_ e_; exact sD_t c47H.out)), (by first | rfl | simp), (by first | omega | (simp; done) | (simp; omega)), F46⟩
          · simp [slot, intOf]; omega
      · skip
        have c37a : (y.m == z.m) = false := beq_f c37
        have c37b : (y.m != z.m) = true := bne_t c37
        have c37H := Lib.hid c37
        clear c37
        go_wp2_with fail
        have b49 := hF29.bx8 0 rfl
        have b50 := Bk.bx11 (hF29.at 2 rfl : Bk _ g 58 #[.slice aM ms.length cM, .slice (some ⟨x13, o14, none⟩) ts.length cT, .slice ah lh.length cah, .slice aw lw.length caw, .slice af lf.length caf, .slice ak rows.length cak, vl, vb, .slice aE ts.length cE, vB, .slice (some ⟨x34, o35, none⟩) ts.length cD])
        have ge51 : World.cell? _ ⟨x13, o14 + k * 8, none⟩ = some (.int .i64 y.m) := (((hF29.at 11 rfl : Sl tskEnc 8 lo hi _ (.slice (some ⟨x13, o14, none⟩) ts.length cT) ts)).cells hz33.out 0 _ rfl)
        go_quiet (fail)
        clear b49 b50 ge51
        have F52 := hF29.drewN nq
        clear hF29
        obtain ⟨w53, hx54, F56, hxs55⟩ := (show Bun w [rbox w.heap.size 79 #[.int .i64 z.m, .int .i64 z.ho.lo, .int .i64 z.ho.hi, .int .i64 z.wa.lo, .int .i64 z.wa.hi, .int .i64 z.fr.lo, .int .i64 z.fr.hi, .slice a_z z.af.length c_z], rsl intEnc 1 lo hi (.slice a_z z.af.length c_z) z.af, rfix g 58 #[.slice aM ms.length cM, .slice (some ⟨x13, o14, none⟩) ts.length cT, .slice ah lh.length cah, .slice aw lw.length caw, .slice af lf.length caf, .slice ak rows.length cak, vl, vb, .slice aE ts.length cE, vB, .slice (some ⟨x34, o35, none⟩) ts.length cD], rsl intEnc 1 lo5 hi5 (.slice aE ts.length cE) (mixF (c.se ts.length h) (c.se ts.length (h + 1)) ts.length i), rsl boEnc 1 lo5 hi5 (.slice (some ⟨x34, o35, none⟩) ts.length cD) (mixF (c.sD ts.length h) (c.sD ts.length (h + 1)) ts.length i), rrwsl lo3 hi3 rows, rsl vEncS 1 lo3 hi3 (.slice ak rows.length cak) (rows.map (·.1)), rsl intEnc 1 lo3 hi3 (.slice af lf.length caf) lf, rsl intEnc 1 lo3 hi3 (.slice aw lw.length caw) lw, rsl intEnc 1 lo3 hi3 (.slice ah lh.length cah) lh, rafs lo hi ts, rsl tskEnc 8 lo hi (.slice (some ⟨x13, o14, none⟩) ts.length cT) ts, rsl mchEnc 3 lo hi (.slice aM ms.length cM) ms] _ from F52).name
        (try simp at hxs55)
        rw [hx54]
        clear hx54 F52
        go_wp2_with fail
        (first | refine ⟨by kernel_rfl, ?_, ?_⟩ | refine ⟨rfl, ?_, ?_⟩ | refine ⟨?_, ?_⟩)
        · rw [HI28.out]; exact ⟨k + 1, (by first | kernel_rfl | rfl), (by first | kernel_rfl | rfl), (by first | kernel_rfl | rfl), (by first | kernel_rfl | rfl), (by show Value.int .i64 ((k : Int) + 1) = _; simp), (by omega), (Lib.hid (fun q_ hq_ e_ => by rcases Nat.lt_succ_iff_lt_or_eq.1 hq_ with h_ | rfl; exact HQ.out q_ h_ e_; exact absurd (by rw [HYM.out, HZM.out.1]; exact e_) c37H.out)), (by first | rfl | simp), (by first | omega | (simp; done) | (simp; omega)), F56⟩
        · simp [slot, intOf]; omega
    · skip
      have c32H := Lib.hid c32
      have c32a : decide ((k : Int) < (i : Int)) = false := dec_f c32
      go_wp2_with fail
      have HM := HQ
      obtain ⟨HI57_, HI570⟩ : ∃ I : (Nat → Value) → List Deferred → World → Prop, I = (fun t ds wr => ∃ (j : Nat), t 0 = .pointer (some ⟨g, 0, none⟩) ∧ t 1 = .int .i64 (i : Int) ∧ t 2 = .int .i64 (h : Int) ∧ t 7 = .pointer (some ⟨w.heap.size, 0, none⟩) ∧ t 9 = .int .i64 (j : Int) ∧ j ≤ z.af.length ∧ Hid (∀ a ∈ z.af.take j, c.enI ts.length a.toNat + c.wa a.toNat ≤ (h : Int)) ∧ ds = [] ∧ w31.heap.size ≤ wr.heap.size ∧ Bun w [rbox w.heap.size 79 #[.int .i64 z.m, .int .i64 z.ho.lo, .int .i64 z.ho.hi, .int .i64 z.wa.lo, .int .i64 z.wa.hi, .int .i64 z.fr.lo, .int .i64 z.fr.hi, .slice a_z z.af.length c_z], rsl intEnc 1 lo hi (.slice a_z z.af.length c_z) z.af, rfix g 58 #[.slice aM ms.length cM, .slice (some ⟨x13, o14, none⟩) ts.length cT, .slice ah lh.length cah, .slice aw lw.length caw, .slice af lf.length caf, .slice ak rows.length cak, vl, vb, .slice aE ts.length cE, vB, .slice aD ts.length cD], rsl intEnc 1 lo5 hi5 (.slice aE ts.length cE) (mixF (c.se ts.length h) (c.se ts.length (h + 1)) ts.length i), rsl boEnc 1 lo5 hi5 (.slice aD ts.length cD) (mixF (c.sD ts.length h) (c.sD ts.length (h + 1)) ts.length i), rrwsl lo3 hi3 rows, rsl vEncS 1 lo3 hi3 (.slice ak rows.length cak) (rows.map (·.1)), rsl intEnc 1 lo3 hi3 (.slice af lf.length caf) lf, rsl intEnc 1 lo3 hi3 (.slice aw lw.length caw) lw, rsl intEnc 1 lo3 hi3 (.slice ah lh.length cah) lh, rafs lo hi ts, rsl tskEnc 8 lo hi (.slice (some ⟨x13, o14, none⟩) ts.length cT) ts, rsl mchEnc 3 lo hi (.slice aM ms.length cM) ms] wr) := ⟨_, rfl⟩
      have HI57 := Lib.hid HI570
      clear HI570
      refine wp_loopS 96 rfl HI57_ (fun t wr => z.af.length - (intOf (t 9)).toNat) ?atStart2 ?round2
      case round2 =>
        intro t ds wr hHid
        rw [HI57.out] at hHid
        obtain ⟨j, e0, e1, e2, e7, e9, hrel⟩ := hHid
        have e : ((List.range 96).map t).toArray = #[t 0, t 1, t 2, t 3, t 4, t 5, t 6, t 7, t 8, t 9, t 10, t 11, t 12, t 13, t 14, t 15, t 16, t 17, t 18, t 19, t 20, t 21, t 22, t 23, t 24, t 25, t 26, t 27, t 28, t 29, t 30, t 31, t 32, t 33, t 34, t 35, t 36, t 37, t 38, t 39, t 40, t 41, t 42, t 43, t 44, t 45, t 46, t 47, t 48, t 49, t 50, t 51, t 52, t 53, t 54, t 55, t 56, t 57, t 58, t 59, t 60, t 61, t 62, t 63, t 64, t 65, t 66, t 67, t 68, t 69, t 70, t 71, t 72, t 73, t 74, t 75, t 76, t 77, t 78, t 79, t 80, t 81, t 82, t 83, t 84, t 85, t 86, t 87, t 88, t 89, t 90, t 91, t 92, t 93, t 94, t 95] := rfl
        (try dsimp only at e)
        rw [e0, e1, e2, e7, e9] at e
        rw [e]
        simp only [e9]
        clear e e0 e1 e2 e7 e9
        obtain ⟨hj2, HB, rfl, hs59, hF58⟩ := hrel
        clear hF29
        obtain ⟨w60, rfl⟩ : ∃ x_ : World, x_ = wr := ⟨_, rfl⟩
        by_cases c61 : (j : Int) < (z.af.length : Int)
        · skip
          have c61H := Lib.hid c61
          obtain ⟨x62, o63, e_⟩ := Sl.addr (hF58.at 1 rfl : Sl intEnc 1 lo hi _ (.slice a_z z.af.length c_z) z.af) (by omega)
          subst e_
          obtain ⟨y, hz64_⟩ : ∃ z_, z.af[j]? = some z_ := ⟨_, List.getElem?_eq_getElem (by omega)⟩
          have hz64 := Lib.hid hz64_
          clear hz64_
          have hya := HZA.out y (List.mem_of_getElem? hz64.out)
          obtain ⟨yn, rfl⟩ : ∃ n : Nat, y = (n : Int) := ⟨y.toNat, by omega⟩
          have hyt : (yn : Int) < (ts.length : Int) := by omega
          have hyw : (yn : Int) < (lw.length : Int) := by have h_ := HL.out; omega
          have heb := HSO.out.en_bd (i := yn) (by omega)
          have hbb := HSO.out.bg_bd (i := yn) (by omega)
          unfold Cs.past at heb
          have hwy := HCO.out.wa yn
          have hseb : 0 ≤ c.se ts.length (h + 1) yn ∧ c.se ts.length (h + 1) yn ≤ 24 * (c.nd : Int) + 1 := by unfold Cs.se Cs.past; split <;> omega
          obtain ⟨x65, o66, e_⟩ := Sl.addr (hF58.at 4 rfl : Sl boEnc 1 lo5 hi5 _ (.slice aD ts.length cD) (mixF (c.sD ts.length h) (c.sD ts.length (h + 1)) ts.length i)) (by rw [mixF_len]; omega)
          subst e_
          obtain ⟨x67, o68, e_⟩ := Sl.addr (hF58.at 3 rfl : Sl intEnc 1 lo5 hi5 _ (.slice aE ts.length cE) (mixF (c.se ts.length h) (c.se ts.length (h + 1)) ts.length i)) (by rw [mixF_len]; omega)
          subst e_
          obtain ⟨x69, o70, e_⟩ := Sl.addr (hF58.at 8 rfl : Sl intEnc 1 lo3 hi3 _ (.slice aw lw.length caw) lw) (by have h_ := HL.out; omega)
          subst e_
          have hz71 : Hid ((mixF (c.sD ts.length h) (c.sD ts.length (h + 1)) ts.length i)[yn]? = some (c.sD ts.length (h + 1) yn)) := Lib.hid (mixF_lt (by omega) (by omega))
          have hz72 : Hid ((mixF (c.se ts.length h) (c.se ts.length (h + 1)) ts.length i)[yn]? = some (c.se ts.length (h + 1) yn)) := Lib.hid (mixF_lt (by omega) (by omega))
          have hz73 : Hid (lw[yn]? = some (c.wa yn)) := Lib.hid (rng_at HCS.out.wa (by omega))
          cases c74 : (c.sD ts.length (h + 1) yn)
          · skip
            have c74H := Lib.hid c74
            have b75 := hF58.bx8 0 rfl
            have ge76 : World.cell? _ ⟨x62, o63 + j, none⟩ = some (.int .i64 (yn : Int)) := (by have h_ := ((hF58.at 1 rfl : Sl intEnc 1 lo hi _ (.slice (some ⟨x62, o63, none⟩) z.af.length c_z) z.af)).cells hz64.out 0 _ rfl; simpa using h_)
            have gl77 := cell_lt ge76
            go_wp2_with fail
            clear b75 ge76 gl77
            have b78 := Bk.bx11 (hF58.at 2 rfl : Bk _ g 58 #[.slice aM ms.length cM, .slice (some ⟨x13, o14, none⟩) ts.length cT, .slice ah lh.length cah, .slice (some ⟨x69, o70, none⟩) lw.length caw, .slice af lf.length caf, .slice ak rows.length cak, vl, vb, .slice (some ⟨x67, o68, none⟩) ts.length cE, vB, .slice (some ⟨x65, o66, none⟩) ts.length cD])
            have ge79 : World.cell? _ ⟨x65, o66 + yn, none⟩ = some (.bool (c.sD ts.length (h + 1) yn)) := (by have h_ := ((hF58.at 4 rfl : Sl boEnc 1 lo5 hi5 _ (.slice (some ⟨x65, o66, none⟩) ts.length cD) (mixF (c.sD ts.length h) (c.sD ts.length (h + 1)) ts.length i))).cells hz71.out 0 _ rfl; simpa using h_)
            go_quiet (fail)
            clear b78 ge79
            have F80 := hF58.drewN nq
            clear hF58
            obtain ⟨w81, hx82, F84, hxs83⟩ := (show Bun w [rbox w.heap.size 79 #[.int .i64 z.m, .int .i64 z.ho.lo, .int .i64 z.ho.hi, .int .i64 z.wa.lo, .int .i64 z.wa.hi, .int .i64 z.fr.lo, .int .i64 z.fr.hi, .slice (some ⟨x62, o63, none⟩) z.af.length c_z], rsl intEnc 1 lo hi (.slice (some ⟨x62, o63, none⟩) z.af.length c_z) z.af, rfix g 58 #[.slice aM ms.length cM, .slice (some ⟨x13, o14, none⟩) ts.length cT, .slice ah lh.length cah, .slice (some ⟨x69, o70, none⟩) lw.length caw, .slice af lf.length caf, .slice ak rows.length cak, vl, vb, .slice (some ⟨x67, o68, none⟩) ts.length cE, vB, .slice (some ⟨x65, o66, none⟩) ts.length cD], rsl intEnc 1 lo5 hi5 (.slice (some ⟨x67, o68, none⟩) ts.length cE) (mixF (c.se ts.length h) (c.se ts.length (h + 1)) ts.length i), rsl boEnc 1 lo5 hi5 (.slice (some ⟨x65, o66, none⟩) ts.length cD) (mixF (c.sD ts.length h) (c.sD ts.length (h + 1)) ts.length i), rrwsl lo3 hi3 rows, rsl vEncS 1 lo3 hi3 (.slice ak rows.length cak) (rows.map (·.1)), rsl intEnc 1 lo3 hi3 (.slice af lf.length caf) lf, rsl intEnc 1 lo3 hi3 (.slice (some ⟨x69, o70, none⟩) lw.length caw) lw, rsl intEnc 1 lo3 hi3 (.slice ah lh.length cah) lh, rafs lo hi ts, rsl tskEnc 8 lo hi (.slice (some ⟨x13, o14, none⟩) ts.length cT) ts, rsl mchEnc 3 lo hi (.slice aM ms.length cM) ms] _ from F80).name
            (try simp at hxs83)
            rw [hx82]
            clear hx82 F80
            have Hx85 := Lib.hid (show ((decide (c.bgI ts.length i ≤ (h : Int)) : Bool)) = false by exact HSO.out.no (by omega) hh (fun h_ => by have h3_ := h_.2.2 (yn : Int) (by rw [← HZM.out.2]; exact List.mem_of_getElem? hz64.out); rw [Int.toNat_natCast] at h3_; have h4_ := sD_f c74H.out; omega))
            go_wp2_with fail
            go_ret
            exact ⟨by rw [Hx85.out] <;> rfl, F84.gb⟩
          · skip
            have c74H := Lib.hid c74
            have b87 := hF58.bx8 0 rfl
            have ge88 : World.cell? _ ⟨x62, o63 + j, none⟩ = some (.int .i64 (yn : Int)) := (by have h_ := ((hF58.at 1 rfl : Sl intEnc 1 lo hi _ (.slice (some ⟨x62, o63, none⟩) z.af.length c_z) z.af)).cells hz64.out 0 _ rfl; simpa using h_)
            have gl89 := cell_lt ge88
            go_wp2_with fail
            clear b87 ge88 gl89
            have b91 := Bk.bx11 (hF58.at 2 rfl : Bk _ g 58 #[.slice aM ms.length cM, .slice (some ⟨x13, o14, none⟩) ts.length cT, .slice ah lh.length cah, .slice (some ⟨x69, o70, none⟩) lw.length caw, .slice af lf.length caf, .slice ak rows.length cak, vl, vb, .slice (some ⟨x67, o68, none⟩) ts.length cE, vB, .slice (some ⟨x65, o66, none⟩) ts.length cD])
            have ge92 : World.cell? _ ⟨x65, o66 + yn, none⟩ = some (.bool (c.sD ts.length (h + 1) yn)) := (by have h_ := ((hF58.at 4 rfl : Sl boEnc 1 lo5 hi5 _ (.slice (some ⟨x65, o66, none⟩) ts.length cD) (mixF (c.sD ts.length h) (c.sD ts.length (h + 1)) ts.length i))).cells hz71.out 0 _ rfl; simpa using h_)
            have ge93 : World.cell? _ ⟨x67, o68 + yn, none⟩ = some (.int .i64 (c.se ts.length (h + 1) yn)) := (by have h_ := ((hF58.at 3 rfl : Sl intEnc 1 lo5 hi5 _ (.slice (some ⟨x67, o68, none⟩) ts.length cE) (mixF (c.se ts.length h) (c.se ts.length (h + 1)) ts.length i))).cells hz72.out 0 _ rfl; simpa using h_)
            have ge94 : World.cell? _ ⟨x69, o70 + yn, none⟩ = some (.int .i64 (c.wa yn)) := (by have h_ := ((hF58.at 8 rfl : Sl intEnc 1 lo3 hi3 _ (.slice (some ⟨x69, o70, none⟩) lw.length caw) lw)).cells hz73.out 0 _ rfl; simpa using h_)
            have hw90 : IntKind.i64.wrap (c.se ts.length (h + 1) yn + (c.wa yn)) = c.se ts.length (h + 1) yn + (c.wa yn) := IntWalk.i64_in _ (by omega)
            go_quiet (fail)
            clear b91 ge92 ge93 ge94 hw90
            have F95 := hF58.drewN nq
            clear hF58
            obtain ⟨w96, hx97, F99, hxs98⟩ := (show Bun w [rbox w.heap.size 79 #[.int .i64 z.m, .int .i64 z.ho.lo, .int .i64 z.ho.hi, .int .i64 z.wa.lo, .int .i64 z.wa.hi, .int .i64 z.fr.lo, .int .i64 z.fr.hi, .slice (some ⟨x62, o63, none⟩) z.af.length c_z], rsl intEnc 1 lo hi (.slice (some ⟨x62, o63, none⟩) z.af.length c_z) z.af, rfix g 58 #[.slice aM ms.length cM, .slice (some ⟨x13, o14, none⟩) ts.length cT, .slice ah lh.length cah, .slice (some ⟨x69, o70, none⟩) lw.length caw, .slice af lf.length caf, .slice ak rows.length cak, vl, vb, .slice (some ⟨x67, o68, none⟩) ts.length cE, vB, .slice (some ⟨x65, o66, none⟩) ts.length cD], rsl intEnc 1 lo5 hi5 (.slice (some ⟨x67, o68, none⟩) ts.length cE) (mixF (c.se ts.length h) (c.se ts.length (h + 1)) ts.length i), rsl boEnc 1 lo5 hi5 (.slice (some ⟨x65, o66, none⟩) ts.length cD) (mixF (c.sD ts.length h) (c.sD ts.length (h + 1)) ts.length i), rrwsl lo3 hi3 rows, rsl vEncS 1 lo3 hi3 (.slice ak rows.length cak) (rows.map (·.1)), rsl intEnc 1 lo3 hi3 (.slice af lf.length caf) lf, rsl intEnc 1 lo3 hi3 (.slice (some ⟨x69, o70, none⟩) lw.length caw) lw, rsl intEnc 1 lo3 hi3 (.slice ah lh.length cah) lh, rafs lo hi ts, rsl tskEnc 8 lo hi (.slice (some ⟨x13, o14, none⟩) ts.length cT) ts, rsl mchEnc 3 lo hi (.slice aM ms.length cM) ms] _ from F95).name
            (try simp at hxs98)
            rw [hx97]
            clear hx97 F95
            by_cases c100 : (h : Int) < c.se ts.length (h + 1) yn + (c.wa yn)
            · skip
              have c100H := Lib.hid c100
              have Hx101 := Lib.hid (show ((decide (c.bgI ts.length i ≤ (h : Int)) : Bool)) = false by exact HSO.out.no (by omega) hh (fun h_ => by have h3_ := h_.2.2 (yn : Int) (by rw [← HZM.out.2]; exact List.mem_of_getElem? hz64.out); rw [Int.toNat_natCast] at h3_; have h4_ := se_t c74H.out; have h5_ := c100H.out; omega))
              go_wp2_with fail
              go_ret
              exact ⟨by rw [Hx101.out] <;> rfl, F99.gb⟩
            · skip
              have c100H := Lib.hid c100
              have c100a : decide ((h : Int) < c.se ts.length (h + 1) yn + (c.wa yn)) = false := dec_f c100
              go_wp2_with fail
              (first | refine ⟨by kernel_rfl, ?_, ?_⟩ | refine ⟨rfl, ?_, ?_⟩ | refine ⟨?_, ?_⟩)
              · rw [HI57.out]; exact ⟨j + 1, (by first | kernel_rfl | rfl), (by first | kernel_rfl | rfl), (by first | kernel_rfl | rfl), (by first | kernel_rfl | rfl), (by show Value.int .i64 ((j : Int) + 1) = _; simp), (by omega), (Lib.hid (fun q_ hq_ => by rw [← take_snoc hz64.out] at hq_; rcases List.mem_append.1 hq_ with h_ | h_; exact HB.out q_ h_; obtain rfl := List.mem_singleton.1 h_; have h3_ := se_t c74H.out; have h4_ := c100H.out; rw [Int.toNat_natCast]; omega)), (by first | rfl | simp), (by first | omega | (simp; done) | (simp; omega)), F99⟩
              · simp [slot, intOf]; omega
        · skip
          have c61H := Lib.hid c61
          have c61a : decide ((j : Int) < (z.af.length : Int)) = false := dec_f c61
          obtain ⟨x102, o103, e_⟩ := Sl.addr (hF58.at 7 rfl : Sl intEnc 1 lo3 hi3 _ (.slice af lf.length caf) lf) (by have h_ := HL.out; omega)
          subst e_
          have hz104 : Hid (lf[i]? = some (c.fr i)) := Lib.hid (rng_at HCS.out.fr (by omega))
          have hif : (i : Int) < (lf.length : Int) := by have h_ := HL.out; omega
          have Hx105 := Lib.hid (show ((decide (c.bgI ts.length i ≤ (h : Int)) : Bool)) = (decide (c.fr i ≤ (h : Int))) by exact HSO.out.fr_iff (by omega) hh (fun k hk e => HM.out k (by omega) e) (fun a ha => HB.out a (by rw [List.take_of_length_le (by omega)]; rw [HZM.out.2]; exact ha)))
          have b106 := hF58.bx8 0 rfl
          have b107 := Bk.bx11 (hF58.at 2 rfl : Bk _ g 58 #[.slice aM ms.length cM, .slice (some ⟨x13, o14, none⟩) ts.length cT, .slice ah lh.length cah, .slice aw lw.length caw, .slice (some ⟨x102, o103, none⟩) lf.length caf, .slice ak rows.length cak, vl, vb, .slice aE ts.length cE, vB, .slice aD ts.length cD])
          have ge108 : World.cell? _ ⟨x102, o103 + i, none⟩ = some (.int .i64 (c.fr i)) := (by have h_ := ((hF58.at 7 rfl : Sl intEnc 1 lo3 hi3 _ (.slice (some ⟨x102, o103, none⟩) lf.length caf) lf)).cells hz104.out 0 _ rfl; simpa using h_)
          have gl109 := cell_lt ge108
          go_wp2_with fail
          clear b106 b107 ge108 gl109
          go_ret
          exact ⟨by rw [Hx105.out] <;> rfl, hF58.gb⟩
      case atStart2 =>
        rw [HI57.out]
        exact ⟨0, (by first | kernel_rfl | rfl), (by first | kernel_rfl | rfl), (by first | kernel_rfl | rfl), (by first | kernel_rfl | rfl), rfl, Nat.zero_le _, Lib.hid (fun a ha => by cases ha), rfl, (by first | exact Nat.le_refl _ | omega | (simp; done) | (simp; omega)), hF29⟩
  case atStart1 =>
    rw [HI28.out]
    exact ⟨0, (by first | kernel_rfl | rfl), (by first | kernel_rfl | rfl), (by first | kernel_rfl | rfl), (by first | kernel_rfl | rfl), rfl, Nat.zero_le _, Lib.hid (fun q hq => absurd hq (Nat.not_lt_zero _)), rfl, (by first | exact Nat.le_refl _ | omega | (simp; done) | (simp; omega)), F27⟩

end Go.Proofs.Ytokelpmngahnoaa
