/- build and its reference: a site after all days. -/
import Derived.Test.YtokelpmngahnoaaZS3
set_option linter.unusedVariables false
set_option linter.unusedSimpArgs false
set_option linter.unnecessarySimpa false
namespace Go.Proofs.Ytokelpmngahnoaa
open Go.RowKit
set_option maxRecDepth 100000
attribute [local go_sem] Oper.semAt_some
/-- A site after all days, and when its road opens. -/
def BuiltR (c : Cs) (N : Nat) (w : World) : Ending → World → Prop := fun e w' => ∃ (g lo hi : Nat) (vm vt vh vw vf vk vl vB vD : Value) (ab ae : Option Addr) (cb ce : Nat), e = .returned (.tuple #[.pointer (some ⟨g, 0, none⟩), .int .i64 (c.opn N)]) ∧ (w.heap.size ≤ lo ∧ hi ≤ w'.heap.size ∧ lo ≤ g ∧ g < hi) ∧
  (Bk w' g 58 #[vm, vt, vh, vw, vf, vk, vl, .slice ab N cb, .slice ae N ce, vB, vD] ∧ Sl intEnc 1 lo hi w' (.slice ab N cb) (rowF (c.bgI N) N) ∧ Sl intEnc 1 lo hi w' (.slice ae N ce) (rowF (c.enI N) N)) ∧ w.grownBy w' none
theorem Cs.opn_succ (c : Cs) {N k : Nat} (h : k < N) : c.opn (k + 1) = max (c.opn k) (min c.past (c.enI N k + c.wa k)) := by
  rw [Cs.opn]
  unfold Cs.enI
  rw [c.en_le (n := N) h]

set_option maxHeartbeats 16000000 in
theorem built_c (lo hi : Nat) (vm vt : Value) (ms : List Mch) (ts : List Tsk) (nd : Nat) (lo3 hi3 : Nat) (vh vw vf vk : Value) (lh lw lf : List Int) (rows : List (Value × List Bool)) (c : Cs) (w : World) (hj : JobAt lo hi w vm vt ms ts) (h2 : hi ≤ w.heap.size) (hca : CaseAt lo3 hi3 w vh vw vf vk lh lw lf rows) (h4 : hi3 ≤ w.heap.size) (hndc : c.nd = nd) (hcs : CsIs c ms ts lh lw lf (rows.map (·.2))) (hrs : ∀ r ∈ rows, sliceB r.1 = true) (hco : CsOk c) (hnts : ts.length ≤ 1000) (hnms : ms.length ≤ 1000) (htm : ∀ (k : Nat) (t : Tsk), ts[k]? = some t → 0 ≤ t.m ∧ t.m < (ms.length : Int)) (hta : ∀ (k : Nat) (t : Tsk), ts[k]? = some t → ∀ a ∈ t.af, 0 ≤ a ∧ a < (k : Int)) :
    Calls Try.prog 24 #[.agg #[vm, vt], .int .i64 (nd : Int), .agg #[vh, vw, vf, vk]] w (BuiltR c ts.length w) := by
  subst hndc
  have F1 : Bun w [] w := Bun.nil _
  obtain ⟨hms, hts, haf⟩ := hj
  have hm_ms := hms.len
  unfold maxLen at hm_ms
  obtain ⟨aM, cM, rfl⟩ := hms.any
  have F2 := F1.sl0 hms h2 rfl
  clear F1
  clear hms
  have hm_ts := hts.len
  unfold maxLen at hm_ts
  obtain ⟨aT, cT, rfl⟩ := hts.any
  have F3 := F2.sl0 hts h2 rfl
  clear F2
  clear hts
  have F4 := F3.non0 (rafs lo hi ts) haf (fun _ h_ => Nat.lt_of_lt_of_le h_.2 h2) rfl rfl
  clear F3
  clear haf
  obtain ⟨hch, hcw, hcf, hck, hcr⟩ := hca
  have hm_cho := hch.len
  unfold maxLen at hm_cho
  obtain ⟨ah, cah, rfl⟩ := hch.any
  have F5 := F4.sl0 hch h4 rfl
  clear F4
  clear hch
  have hm_cwa := hcw.len
  unfold maxLen at hm_cwa
  obtain ⟨aw, caw, rfl⟩ := hcw.any
  have F6 := F5.sl0 hcw h4 rfl
  clear F5
  clear hcw
  have hm_cfr := hcf.len
  unfold maxLen at hm_cfr
  obtain ⟨af, caf, rfl⟩ := hcf.any
  have F7 := F6.sl0 hcf h4 rfl
  clear F6
  clear hcf
  obtain ⟨ak, cak, rfl⟩ := hck.any
  simp only [List.length_map] at hck ⊢
  have hm_cwk : rows.length ≤ 2 ^ 63 - 1 := by have h_ := hck.len; unfold maxLen at h_; simpa using h_
  have F8 := F7.sl0 hck h4 rfl
  clear F7
  clear hck
  have F9 := F8.non0 (rrwsl lo3 hi3 rows) hcr (fun _ h_ => Nat.lt_of_lt_of_le h_.2 h4) rfl rfl
  clear F8
  clear hcr
  have HX := Lib.hid (And.intro hcs (And.intro hrs (And.intro hco (And.intro htm hta))))
  have HCS := Lib.hid hcs
  have HCO := Lib.hid hco
  have hnd4 := hco.nd
  have HSO : Hid (SiteOk c ts.length) := Lib.hid (SiteOk.of hco (fun i hi a ha => by rw [hcs.af] at ha; exact hta i _ (tk_at hi) a ha))
  have hlw : Hid (lw.length = ts.length) := Lib.hid (by rw [hcs.wa]; simp)
  clear hcs hrs hco htm hta
  go_enter Try.func24, Try.ntmps24
  go_wp2_with fail
  have F10 := F9.new 25 #[.slice aM ms.length cM, .slice aT ts.length cT] (n := w.heap.size) (by simp)
  clear F9
  have F11 := F10.new 51 #[.slice ah lh.length cah, .slice aw lw.length caw, .slice af lf.length caf, .slice ak rows.length cak] (n := (w.heap.size + 1)) (by simp)
  clear F10
  obtain ⟨w12, hx13, F15, hxs14⟩ := (show Bun w [rbox (w.heap.size + 1) 51 #[.slice ah lh.length cah, .slice aw lw.length caw, .slice af lf.length caf, .slice ak rows.length cak], rbox w.heap.size 25 #[.slice aM ms.length cM, .slice aT ts.length cT], rrwsl lo3 hi3 rows, rsl vEncS 1 lo3 hi3 (.slice ak rows.length cak) (rows.map (·.1)), rsl intEnc 1 lo3 hi3 (.slice af lf.length caf) lf, rsl intEnc 1 lo3 hi3 (.slice aw lw.length caw) lw, rsl intEnc 1 lo3 hi3 (.slice ah lh.length cah) lh, rafs lo hi ts, rsl tskEnc 8 lo hi (.slice aT ts.length cT) ts, rsl mchEnc 3 lo hi (.slice aM ms.length cM) ms] _ from F11).name
  (try simp at hxs14)
  rw [hx13]
  clear hx13 F11
  refine (siteOf_c lo hi _ _ ms ts c.nd lo3 hi3 _ _ _ _ lh lw lf rows c _ (JobAt.mk (F15.at 9 rfl : Sl mchEnc 3 lo hi _ (.slice aM ms.length cM) ms) (F15.at 8 rfl : Sl tskEnc 8 lo hi _ (.slice aT ts.length cT) ts) (F15.at 7 rfl : Afs lo hi _ ts)) (Nat.le_trans h2 F15.gb.size) (CaseAt.mk (F15.at 6 rfl : Sl intEnc 1 lo3 hi3 _ (.slice ah lh.length cah) lh) (F15.at 5 rfl : Sl intEnc 1 lo3 hi3 _ (.slice aw lw.length caw) lw) (F15.at 4 rfl : Sl intEnc 1 lo3 hi3 _ (.slice af lf.length caf) lf) (F15.at 3 rfl : Sl vEncS 1 lo3 hi3 _ (.slice ak rows.length cak) (rows.map (·.1))) (F15.at 2 rfl : Rwsl lo3 hi3 _ rows)) (Nat.le_trans h4 F15.gb.size) rfl HX.out.1 HX.out.2.1 HX.out.2.2.1 hnts hnms HX.out.2.2.2.1 HX.out.2.2.2.2).mono ?_
  rintro e w16 ⟨g, vl, vb, ve, vB, vD, rfl, hB17⟩
  have hB17s := hB17.gb.size
  (try simp at hB17s)
  have F18 := F15.joinV (L2 := [rbox g 58 #[.slice aM ms.length cM, .slice aT ts.length cT, .slice ah lh.length cah, .slice aw lw.length caw, .slice af lf.length caf, .slice ak rows.length cak, vl, vb, ve, vB, vD], rown intEnc 3 1 w12.heap.size vl (rowF (c.sl ts.length 0) ts.length), rown intEnc 3 1 w12.heap.size vb (rowF (c.sb ts.length 0) ts.length), rown intEnc 3 1 w12.heap.size ve (rowF (c.se ts.length 0) ts.length), rown boEnc 4 1 w12.heap.size vB (rowF (c.sB ts.length 0) ts.length), rown boEnc 4 1 w12.heap.size vD (rowF (c.sD ts.length 0) ts.length)]) hB17 (List.forall_mem_cons.2 ⟨fun g_ hx => ((hB17.ltAt 0 rfl g_ hx).2 rfl), List.forall_mem_cons.2 ⟨fun g_ hx => ((hB17.ltAt 1 rfl g_ hx).2 rfl), List.forall_mem_cons.2 ⟨fun g_ hx => ((hB17.ltAt 2 rfl g_ hx).2 rfl), List.forall_mem_cons.2 ⟨fun g_ hx => ((hB17.ltAt 3 rfl g_ hx).2 rfl), List.forall_mem_cons.2 ⟨fun g_ hx => ((hB17.ltAt 4 rfl g_ hx).2 rfl), List.forall_mem_cons.2 ⟨fun g_ hx => ((hB17.ltAt 5 rfl g_ hx).2 rfl), fun _ h => by cases h⟩⟩⟩⟩⟩⟩)
  clear F15
  clear hB17
  (try dsimp only [List.cons_append, List.nil_append] at F18)
  go_wp2_with fail
  (skip)
  obtain ⟨HI19_, HI190⟩ : ∃ I : (Nat → Value) → List Deferred → World → Prop, I = (fun t ds wr => ∃ (h : Nat), t 1 = .int .i64 (c.nd : Int) ∧ t 5 = .pointer (some ⟨w.heap.size + 1, 0, none⟩) ∧ t 8 = .pointer (some ⟨g, 0, none⟩) ∧ t 9 = .int .i64 (h : Int) ∧ h ≤ 24 * c.nd + 1 ∧ ds = [] ∧ Bun w [rbox g 58 #[.slice aM ms.length cM, .slice aT ts.length cT, .slice ah lh.length cah, .slice aw lw.length caw, .slice af lf.length caf, .slice ak rows.length cak, vl, vb, ve, vB, vD], rown intEnc 3 1 w12.heap.size vl (rowF (c.sl ts.length h) ts.length), rown intEnc 3 1 w12.heap.size vb (rowF (c.sb ts.length h) ts.length), rown intEnc 3 1 w12.heap.size ve (rowF (c.se ts.length h) ts.length), rown boEnc 4 1 w12.heap.size vB (rowF (c.sB ts.length h) ts.length), rown boEnc 4 1 w12.heap.size vD (rowF (c.sD ts.length h) ts.length), rbox (w.heap.size + 1) 51 #[.slice ah lh.length cah, .slice aw lw.length caw, .slice af lf.length caf, .slice ak rows.length cak], rbox w.heap.size 25 #[.slice aM ms.length cM, .slice aT ts.length cT], rrwsl lo3 hi3 rows, rsl vEncS 1 lo3 hi3 (.slice ak rows.length cak) (rows.map (·.1)), rsl intEnc 1 lo3 hi3 (.slice af lf.length caf) lf, rsl intEnc 1 lo3 hi3 (.slice aw lw.length caw) lw, rsl intEnc 1 lo3 hi3 (.slice ah lh.length cah) lh, rafs lo hi ts, rsl tskEnc 8 lo hi (.slice aT ts.length cT) ts, rsl mchEnc 3 lo hi (.slice aM ms.length cM) ms] wr) := ⟨_, rfl⟩
  have HI19 := Lib.hid HI190
  clear HI190
  refine wp_loopS 56 rfl HI19_ (fun t wr => 24 * c.nd + 1 - (intOf (t 9)).toNat) ?atStart1 ?round1
  case round1 =>
    intro t ds wr hHid
    rw [HI19.out] at hHid
    obtain ⟨h, e1, e5, e8, e9, hrel⟩ := hHid
    have e : ((List.range 56).map t).toArray = #[t 0, t 1, t 2, t 3, t 4, t 5, t 6, t 7, t 8, t 9, t 10, t 11, t 12, t 13, t 14, t 15, t 16, t 17, t 18, t 19, t 20, t 21, t 22, t 23, t 24, t 25, t 26, t 27, t 28, t 29, t 30, t 31, t 32, t 33, t 34, t 35, t 36, t 37, t 38, t 39, t 40, t 41, t 42, t 43, t 44, t 45, t 46, t 47, t 48, t 49, t 50, t 51, t 52, t 53, t 54, t 55] := rfl
    (try dsimp only at e)
    rw [e1, e5, e8, e9] at e
    rw [e]
    simp only [e9]
    clear e e1 e5 e8 e9
    obtain ⟨hh, rfl, hF20⟩ := hrel
    clear F18
    obtain ⟨w22, rfl⟩ : ∃ x_ : World, x_ = wr := ⟨_, rfl⟩
    by_cases c23 : (h : Int) ≤ 24 * (c.nd : Int)
    · skip
      have c23H := Lib.hid c23
      go_wp2_with fail
      refine (goOn_c w w12.heap.size lo hi ms ts lo3 hi3 lh lw lf rows c g (w.heap.size + 1) w.heap.size h _ _ _ _ _ _ _ _ _ _ _ _ _ _ _ _ _ _ (hF20.pick [0, 1, 2, 3, 4, 5, 6, 7, 8, 9, 10, 11, 12, 13, 14, 15] (by decide) rfl) h2 h4 (by omega) HX.out.1 HX.out.2.1 HX.out.2.2.1 hnts hnms HX.out.2.2.2.1 HX.out.2.2.2.2).mono ?_
      rintro e w25 ⟨rfl, F24⟩
      have hwsF24 := F24.gb.size
      (try clear hF20)
      go_wp2_with fail
      (first | refine ⟨by kernel_rfl, ?_, ?_⟩ | refine ⟨rfl, ?_, ?_⟩ | refine ⟨?_, ?_⟩)
      · rw [HI19.out]; exact ⟨h + 1, (by first | kernel_rfl | rfl), (by first | kernel_rfl | rfl), (by first | kernel_rfl | rfl), (by show Value.int .i64 ((h : Int) + 1) = _; simp), (by omega), (by first | rfl | simp), F24⟩
      · simp [slot, intOf]; omega
    · skip
      have c23H := Lib.hid c23
      have c23a : decide ((h : Int) ≤ 24 * (c.nd : Int)) = false := dec_f c23
      obtain rfl : h = 24 * c.nd + 1 := by omega
      go_wp2_with fail
      obtain ⟨aR26, cR27, e_, _⟩ := Own.slN (hF20.at 2 rfl : Own intEnc 3 1 w12.heap.size _ vb (rowF (c.sb ts.length (24 * c.nd + 1)) ts.length)) (fun _ => rfl) (rowF_len _ _)
      subst e_
      obtain ⟨aR28, cR29, e_, _⟩ := Own.slN (hF20.at 3 rfl : Own intEnc 3 1 w12.heap.size _ ve (rowF (c.se ts.length (24 * c.nd + 1)) ts.length)) (fun _ => rfl) (rowF_len _ _)
      subst e_
      rw [HSO.out.endb, HSO.out.ende] at hF20
      (skip)
      obtain ⟨HI30_, HI300⟩ : ∃ I : (Nat → Value) → List Deferred → World → Prop, I = (fun t ds wr => ∃ (i : Nat) (op : Int), t 1 = .int .i64 (c.nd : Int) ∧ t 5 = .pointer (some ⟨w.heap.size + 1, 0, none⟩) ∧ t 8 = .pointer (some ⟨g, 0, none⟩) ∧ t 10 = .int .i64 op ∧ t 11 = .int .i64 (i : Int) ∧ i ≤ ts.length ∧ Hid (c.opn i = op) ∧ (0 ≤ op ∧ op ≤ 24 * (c.nd : Int) + 1) ∧ ds = [] ∧ w22.heap.size ≤ wr.heap.size ∧ Bun w [rbox g 58 #[.slice aM ms.length cM, .slice aT ts.length cT, .slice ah lh.length cah, .slice aw lw.length caw, .slice af lf.length caf, .slice ak rows.length cak, vl, .slice aR26 ts.length cR27, .slice aR28 ts.length cR29, vB, vD], rown intEnc 3 1 w12.heap.size vl (rowF (c.sl ts.length (24 * c.nd + 1)) ts.length), rown intEnc 3 1 w12.heap.size (.slice aR26 ts.length cR27) (rowF (c.bgI ts.length) ts.length), rown intEnc 3 1 w12.heap.size (.slice aR28 ts.length cR29) (rowF (c.enI ts.length) ts.length), rown boEnc 4 1 w12.heap.size vB (rowF (c.sB ts.length (24 * c.nd + 1)) ts.length), rown boEnc 4 1 w12.heap.size vD (rowF (c.sD ts.length (24 * c.nd + 1)) ts.length), rbox (w.heap.size + 1) 51 #[.slice ah lh.length cah, .slice aw lw.length caw, .slice af lf.length caf, .slice ak rows.length cak], rbox w.heap.size 25 #[.slice aM ms.length cM, .slice aT ts.length cT], rrwsl lo3 hi3 rows, rsl vEncS 1 lo3 hi3 (.slice ak rows.length cak) (rows.map (·.1)), rsl intEnc 1 lo3 hi3 (.slice af lf.length caf) lf, rsl intEnc 1 lo3 hi3 (.slice aw lw.length caw) lw, rsl intEnc 1 lo3 hi3 (.slice ah lh.length cah) lh, rafs lo hi ts, rsl tskEnc 8 lo hi (.slice aT ts.length cT) ts, rsl mchEnc 3 lo hi (.slice aM ms.length cM) ms] wr) := ⟨_, rfl⟩
      have HI30 := Lib.hid HI300
      clear HI300
      refine wp_loopS 56 rfl HI30_ (fun t wr => ts.length - (intOf (t 11)).toNat) ?atStart2 ?round2
      case round2 =>
        intro t ds wr hHid
        rw [HI30.out] at hHid
        obtain ⟨i, op, e1, e5, e8, e10, e11, hrel⟩ := hHid
        have e : ((List.range 56).map t).toArray = #[t 0, t 1, t 2, t 3, t 4, t 5, t 6, t 7, t 8, t 9, t 10, t 11, t 12, t 13, t 14, t 15, t 16, t 17, t 18, t 19, t 20, t 21, t 22, t 23, t 24, t 25, t 26, t 27, t 28, t 29, t 30, t 31, t 32, t 33, t 34, t 35, t 36, t 37, t 38, t 39, t 40, t 41, t 42, t 43, t 44, t 45, t 46, t 47, t 48, t 49, t 50, t 51, t 52, t 53, t 54, t 55] := rfl
        (try dsimp only at e)
        rw [e1, e5, e8, e10, e11] at e
        rw [e]
        simp only [e11]
        clear e e1 e5 e8 e10 e11
        obtain ⟨hi_, hop, hopb, rfl, hs32, hF31⟩ := hrel
        clear hF20
        obtain ⟨w33, rfl⟩ : ∃ x_ : World, x_ = wr := ⟨_, rfl⟩
        by_cases c34 : (i : Int) < (ts.length : Int)
        · skip
          have c34H := Lib.hid c34
          obtain ⟨gR35, cR36, e_⟩ := Own.opnN (hF31.at 3 rfl : Own intEnc 3 1 w12.heap.size _ (.slice aR28 ts.length cR29) (rowF (c.enI ts.length) ts.length)) (rowF_len _ _) (by omega)
          injection e_ with e1_ _ e2_
          subst e1_ e2_
          have gR35l := (hF31.ltAt 3 rfl _ rfl).1
          have hz37 : Hid ((rowF (c.enI ts.length) ts.length)[i]? = some (c.enI ts.length i)) := Lib.hid (rowF_get (by omega))
          obtain ⟨x38, o39, e_⟩ := Sl.addr (hF31.at 11 rfl : Sl intEnc 1 lo3 hi3 _ (.slice aw lw.length caw) lw) (by have h_ := hlw.out; omega)
          subst e_
          have hz40 : Hid (lw[i]? = some (c.wa i)) := Lib.hid (rng_at HCS.out.wa (by omega))
          have hiw : (i : Int) < (lw.length : Int) := by have h_ := hlw.out; omega
          have hei := HSO.out.en_bd (i := i) (by omega)
          have hbi := HSO.out.bg_bd (i := i) (by omega)
          unfold Cs.past at hei
          have hwi := HCO.out.wa i
          have b44 := hF31.bx11 0 rfl
          go_wp2_with fail
          clear b44
          have b48 := hF31.bx11 0 rfl
          have b49 := hF31.bx4 6 rfl
          have ge50 : World.cell? _ ⟨gR35, i, none⟩ = some (.int .i64 (c.enI ts.length i)) := (by simpa using (Own.sl (hF31.at 3 rfl : Own intEnc 3 1 w12.heap.size _ (.slice (some ⟨gR35, 0, none⟩) ts.length cR29) (rowF (c.enI ts.length) ts.length)) (fun _ => rfl)).cells hz37.out 0 _ rfl)
          have ge51 : World.cell? _ ⟨x38, o39 + i, none⟩ = some (.int .i64 (c.wa i)) := (by have h_ := ((hF31.at 11 rfl : Sl intEnc 1 lo3 hi3 _ (.slice (some ⟨x38, o39, none⟩) lw.length caw) lw)).cells hz40.out 0 _ rfl; simpa using h_)
          have hw45 : IntKind.i64.wrap (24 * (c.nd : Int)) = 24 * (c.nd : Int) := IntWalk.i64_in _ (by omega)
          have hw46 : IntKind.i64.wrap (24 * (c.nd : Int) + 1) = 24 * (c.nd : Int) + 1 := IntWalk.i64_in _ (by omega)
          have hw47 : IntKind.i64.wrap (c.enI ts.length i + (c.wa i)) = c.enI ts.length i + (c.wa i) := IntWalk.i64_in _ (by omega)
          go_quiet (fail)
          clear b48 b49 ge50 ge51 hw45 hw46 hw47
          have F52 := hF31.drewN nq
          clear hF31
          obtain ⟨w53, hx54, F56, hxs55⟩ := (show Bun w [rbox g 58 #[.slice aM ms.length cM, .slice aT ts.length cT, .slice ah lh.length cah, .slice (some ⟨x38, o39, none⟩) lw.length caw, .slice af lf.length caf, .slice ak rows.length cak, vl, .slice aR26 ts.length cR27, .slice (some ⟨gR35, 0, none⟩) ts.length cR29, vB, vD], rown intEnc 3 1 w12.heap.size vl (rowF (c.sl ts.length (24 * c.nd + 1)) ts.length), rown intEnc 3 1 w12.heap.size (.slice aR26 ts.length cR27) (rowF (c.bgI ts.length) ts.length), rown intEnc 3 1 w12.heap.size (.slice (some ⟨gR35, 0, none⟩) ts.length cR29) (rowF (c.enI ts.length) ts.length), rown boEnc 4 1 w12.heap.size vB (rowF (c.sB ts.length (24 * c.nd + 1)) ts.length), rown boEnc 4 1 w12.heap.size vD (rowF (c.sD ts.length (24 * c.nd + 1)) ts.length), rbox (w.heap.size + 1) 51 #[.slice ah lh.length cah, .slice (some ⟨x38, o39, none⟩) lw.length caw, .slice af lf.length caf, .slice ak rows.length cak], rbox w.heap.size 25 #[.slice aM ms.length cM, .slice aT ts.length cT], rrwsl lo3 hi3 rows, rsl vEncS 1 lo3 hi3 (.slice ak rows.length cak) (rows.map (·.1)), rsl intEnc 1 lo3 hi3 (.slice af lf.length caf) lf, rsl intEnc 1 lo3 hi3 (.slice (some ⟨x38, o39, none⟩) lw.length caw) lw, rsl intEnc 1 lo3 hi3 (.slice ah lh.length cah) lh, rafs lo hi ts, rsl tskEnc 8 lo hi (.slice aT ts.length cT) ts, rsl mchEnc 3 lo hi (.slice aM ms.length cM) ms] _ from F52).name
          (try simp at hxs55)
          rw [hx54]
          clear hx54 F52
          go_wp2_with fail
          (first | refine ⟨by kernel_rfl, ?_, ?_⟩ | refine ⟨rfl, ?_, ?_⟩ | refine ⟨?_, ?_⟩)
          · rw [HI30.out]; exact ⟨i + 1, max op (min (24 * (c.nd : Int) + 1) (c.enI ts.length i + (c.wa i))), (by first | kernel_rfl | rfl), (by first | kernel_rfl | rfl), (by first | kernel_rfl | rfl), (by first | kernel_rfl | rfl), (by show Value.int .i64 ((i : Int) + 1) = _; simp), (by omega), (Lib.hid (by rw [c.opn_succ (N := ts.length) (by omega), hop.out]; rfl)), (by omega), (by first | rfl | simp), (by first | omega | (simp; done) | (simp; omega)), F56⟩
          · simp [slot, intOf]; omega
        · skip
          have c34H := Lib.hid c34
          have c34a : decide ((i : Int) < (ts.length : Int)) = false := dec_f c34
          have b57 := hF31.bx11 0 rfl
          go_wp2_with fail
          clear b57
          exact bodyPost_ret (v := .tuple #[.pointer (some ⟨g, 0, none⟩), .int .i64 op]) (by simp [results, Try.results24, go_sem]) rfl ((by obtain rfl : i = ts.length := (by omega); exact ⟨_, w.heap.size, _, _, _, _, _, _, _, _, _, _, _, _, _, _, (by rw [hop.out]), ⟨Nat.le_refl _, Nat.le_refl _, (hF31.ltAt 0 rfl _ rfl).2 rfl, (hF31.ltAt 0 rfl _ rfl).1⟩, ⟨(hF31.at 0 rfl : Bk _ g 58 #[.slice aM ms.length cM, .slice aT ts.length cT, .slice ah lh.length cah, .slice aw lw.length caw, .slice af lf.length caf, .slice ak rows.length cak, vl, .slice aR26 ts.length cR27, .slice aR28 ts.length cR29, vB, vD]), Own.sl (Own.low (hF31.at 2 rfl : Own intEnc 3 1 w12.heap.size _ (.slice aR26 ts.length cR27) (rowF (c.bgI ts.length) ts.length)) (by omega)) (fun _ => rfl), Own.sl (Own.low (hF31.at 3 rfl : Own intEnc 3 1 w12.heap.size _ (.slice aR28 ts.length cR29) (rowF (c.enI ts.length) ts.length)) (by omega)) (fun _ => rfl)⟩, hF31.gb⟩))
      case atStart2 =>
        rw [HI30.out]
        exact ⟨0, 0, (by first | kernel_rfl | rfl), (by first | kernel_rfl | rfl), (by first | kernel_rfl | rfl), rfl, rfl, Nat.zero_le _, (Lib.hid rfl), (by omega), rfl, (by first | exact Nat.le_refl _ | omega | (simp; done) | (simp; omega)), hF20⟩
  case atStart1 =>
    rw [HI19.out]
    exact ⟨0, (by first | kernel_rfl | rfl), (by first | kernel_rfl | rfl), (by first | kernel_rfl | rfl), rfl, Nat.zero_le _, rfl, F18⟩

end Go.Proofs.Ytokelpmngahnoaa
