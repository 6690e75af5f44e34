/- build and its reference: a site at its first hour. -/
import Derived.Test.YtokelpmngahnoaaZT2
import Derived.Test.YtokelpmngahnoaaZKB
import Derived.Test.YtokelpmngahnoaaZJK3
set_option linter.unusedVariables false
set_option linter.unusedSimpArgs false
set_option linter.unnecessarySimpa false
namespace Go.Proofs.Ytokelpmngahnoaa
open Go.RowKit
set_option maxRecDepth 100000
attribute [local go_sem] Oper.semAt_some
theorem SiteOk.of {c : Cs} {N : Nat} (h : CsOk c) (ha : ∀ i, i < N → ∀ a ∈ c.af i, 0 ≤ a ∧ a < i) : SiteOk c N := ⟨fun i => (h.ho i).1, fun i => (h.wa i).1, fun i => (h.fr i).1, ha⟩
/-- A row of what is so of the tasks. -/
def rowF {α : Type} (f : Nat → α) (N : Nat) : List α := (List.range N).map f
theorem rowF_len {α : Type} (f : Nat → α) (N : Nat) : (rowF f N).length = N := by simp [rowF]
theorem rowF_get {α : Type} {f : Nat → α} {N k : Nat} (h : k < N) : (rowF f N)[k]? = some (f k) := by simp [rowF, h]
theorem rowF_mix {α : Type} (f g : Nat → α) (N : Nat) : rowF f N = mixF f g N 0 := (mixF_zero f g N).symm
theorem mix_rowF {α : Type} {f g : Nat → α} {N i : Nat} (h : i = N) : mixF f g N i = rowF g N := by subst h; exact mixF_all f g i
theorem mixF_same {α : Type} {f g : Nat → α} {N i : Nat} (h : ∀ k, k < N → f k = g k) : mixF f g N i = rowF g N := by
  unfold mixF rowF
  refine List.map_congr_left fun k hk => ?_
  split
  · rfl
  · exact h k (by simpa using hk)
theorem mixF_lt {α : Type} {f g : Nat → α} {N i k : Nat} (hk : k < N) (h : k < i) : (mixF f g N i)[k]? = some (g k) := by rw [mixF_get hk, if_pos h]
theorem rep_succ {α : Type} (x : α) (n : Nat) : List.replicate (n + 1) x = List.replicate n x ++ [x] := by
  rw [← List.replicate_append_replicate (n := n) (m := 1)]; rfl
section
variable {c : Cs} {N : Nat} (H : SiteOk c N)
include H
/-- At first nothing is begun. -/
theorem SiteOk.s0B : List.replicate N false = rowF (c.sB N 0) N := by
  refine List.ext_getElem? fun i => ?_
  by_cases h : i < N
  · rw [rowF_get h]
    have := H.bg_bd h
    simp only [Cs.sB, List.getElem?_replicate, if_pos h]
    rw [decide_eq_false (by omega)]
  · rw [List.getElem?_eq_none (by simp; omega), List.getElem?_eq_none (by rw [rowF_len]; omega)]
theorem SiteOk.s0D : List.replicate N false = rowF (c.sD N 0) N := by
  refine List.ext_getElem? fun i => ?_
  by_cases h : i < N
  · rw [rowF_get h]
    have := H.bg_bd h
    have := H.en_bd h
    simp only [Cs.sD, List.getElem?_replicate, if_pos h]
    rw [decide_eq_false (by omega)]
  · rw [List.getElem?_eq_none (by simp; omega), List.getElem?_eq_none (by rw [rowF_len]; omega)]
theorem SiteOk.s0b : List.replicate N c.past = rowF (c.sb N 0) N := by
  refine List.ext_getElem? fun i => ?_
  by_cases h : i < N
  · rw [rowF_get h]
    have := H.bg_bd h
    simp only [Cs.sb, List.getElem?_replicate, if_pos h]
    rw [if_neg (by omega)]
  · rw [List.getElem?_eq_none (by simp; omega), List.getElem?_eq_none (by rw [rowF_len]; omega)]
theorem SiteOk.s0e : List.replicate N c.past = rowF (c.se N 0) N := by
  refine List.ext_getElem? fun i => ?_
  by_cases h : i < N
  · rw [rowF_get h]
    have := H.bg_bd h
    have := H.en_bd h
    simp only [Cs.se, List.getElem?_replicate, if_pos h]
    rw [if_neg (by omega)]
  · rw [List.getElem?_eq_none (by simp; omega), List.getElem?_eq_none (by rw [rowF_len]; omega)]
theorem SiteOk.s0l {l : List Int} (hl : l = (List.range N).map c.ho) : l = rowF (c.sl N 0) N := by
  subst hl
  refine List.map_congr_left fun i hi => ?_
  have := H.ho i
  unfold Cs.sl
  rw [Nat.zero_min, Nat.zero_sub, lf]
  omega
/-- Behind all hours. -/
theorem SiteOk.endb : rowF (c.sb N (24 * c.nd + 1)) N = rowF (c.bgI N) N := by
  refine List.map_congr_left fun i hi => ?_
  have := H.bg_bd (by simpa using hi : i < N)
  unfold Cs.sb
  unfold Cs.past at *
  split <;> omega
theorem SiteOk.ende : rowF (c.se N (24 * c.nd + 1)) N = rowF (c.enI N) N := by
  refine List.map_congr_left fun i hi => ?_
  have := H.en_bd (by simpa using hi : i < N)
  unfold Cs.se
  unfold Cs.past at *
  split <;> omega
end
/-- A site at its first hour. -/
def SiteR (c : Cs) (N : Nat) (vm vt vh vw vf vk : Value) (w : World) : Ending → World → Prop := fun e w' => ∃ (g : Nat) (vl vb ve vB vD : Value), e = .returned (.pointer (some ⟨g, 0, none⟩)) ∧
  Bun w [rbox g 58 #[vm, vt, vh, vw, vf, vk, vl, vb, ve, vB, vD], rown intEnc 3 1 w.heap.size vl (rowF (c.sl N 0) N), rown intEnc 3 1 w.heap.size vb (rowF (c.sb N 0) N), rown intEnc 3 1 w.heap.size ve (rowF (c.se N 0) N), rown boEnc 4 1 w.heap.size vB (rowF (c.sB N 0) N), rown boEnc 4 1 w.heap.size vD (rowF (c.sD N 0) N)] w'
theorem site_post {c : Cs} {N : Nat} {lh : List Int} {vm vt vh vw vf vk vl vb ve vB vD : Value} {w w' : World} {g : Nat} (H : SiteOk c N) (hl : lh = (List.range N).map c.ho) (h : Bun w [rbox g 58 #[vm, vt, vh, vw, vf, vk, vl, vb, ve, vB, vD], rown intEnc 3 1 w.heap.size vl lh, rown intEnc 3 1 w.heap.size vb (List.replicate N (24 * (c.nd : Int) + 1)), rown intEnc 3 1 w.heap.size ve (List.replicate N (24 * (c.nd : Int) + 1)), rown boEnc 4 1 w.heap.size vB (List.replicate N false), rown boEnc 4 1 w.heap.size vD (List.replicate N false)] w') :
    SiteR c N vm vt vh vw vf vk w (.returned (.pointer (some ⟨g, 0, none⟩))) w' := by
  have e1 : List.replicate N (24 * (c.nd : Int) + 1) = rowF (c.sb N 0) N := H.s0b
  have e2 : List.replicate N (24 * (c.nd : Int) + 1) = rowF (c.se N 0) N := H.s0e
  have e3 := H.s0B
  have e4 := H.s0D
  have e5 := H.s0l hl
  refine ⟨g, vl, vb, ve, vB, vD, rfl, ?_⟩
  rw [← e1, ← e2, ← e3, ← e4, ← e5]
  exact h

theorem rng_siteOf_c (t : Nat → Value) : ((List.range 56).map t).toArray = List.toArray [t 0, t 1, t 2, t 3, t 4, t 5, t 6, t 7, t 8, t 9, t 10, t 11, t 12, t 13, t 14, t 15, t 16, t 17, t 18, t 19, t 20, t 21, t 22, t 23, t 24, t 25, t 26, t 27, t 28, t 29, t 30, t 31, t 32, t 33, t 34, t 35, t 36, t 37, t 38, t 39, t 40, t 41, t 42, t 43, t 44, t 45, t 46, t 47, t 48, t 49, t 50, t 51, t 52, t 53, t 54, t 55] := rfl
set_option maxHeartbeats 16000000 in
theorem siteOf_c (lo hi : Nat) (vm vt : Value) (ms : List Mch) (ts : List Tsk) (nd : Nat) (lo3 hi3 : Nat) (vh vw vf vk : Value) (lh lw lf : List Int) (rows : List (Value × List Bool)) (c : Cs) (w : World) (hj : JobAt lo hi w vm vt ms ts) (h2 : hi ≤ w.heap.size) (hca : CaseAt lo3 hi3 w vh vw vf vk lh lw lf rows) (h4 : hi3 ≤ w.heap.size) (hndc : c.nd = nd) (hcs : CsIs c ms ts lh lw lf (rows.map (·.2))) (hrs : ∀ r ∈ rows, sliceB r.1 = true) (hco : CsOk c) (hnts : ts.length ≤ 1000) (hnms : ms.length ≤ 1000) (htm : ∀ (k : Nat) (t : Tsk), ts[k]? = some t → 0 ≤ t.m ∧ t.m < (ms.length : Int)) (hta : ∀ (k : Nat) (t : Tsk), ts[k]? = some t → ∀ a ∈ t.af, 0 ≤ a ∧ a < (k : Int)) :
    Calls Try.prog 67 #[.agg #[vm, vt], .int .i64 (nd : Int), .agg #[vh, vw, vf, vk]] w (SiteR c ts.length vm vt vh vw vf vk w) := by
  subst hndc
  have F1 : Bun w [] w := Bun.nil _
  obtain ⟨hms, hts, haf⟩ := hj
  have hm_ms := hms.len
  unfold maxLen at hm_ms
  obtain ⟨aM, cM, rfl⟩ := hms.any
  have F2 := F1.sl0 hms h2 rfl
  clear F1
  clear hms
  have hm_ts := hts.len
  unfold maxLen at hm_ts
  obtain ⟨aT, cT, rfl⟩ := hts.any
  have F3 := F2.sl0 hts h2 rfl
  clear F2
  clear hts
  have F4 := F3.non0 (rafs lo hi ts) haf (fun _ h_ => Nat.lt_of_lt_of_le h_.2 h2) rfl rfl
  clear F3
  clear haf
  obtain ⟨hch, hcw, hcf, hck, hcr⟩ := hca
  have hm_cho := hch.len
  unfold maxLen at hm_cho
  obtain ⟨ah, cah, rfl⟩ := hch.any
  have F5 := F4.sl0 hch h4 rfl
  clear F4
  clear hch
  have hm_cwa := hcw.len
  unfold maxLen at hm_cwa
  obtain ⟨aw, caw, rfl⟩ := hcw.any
  have F6 := F5.sl0 hcw h4 rfl
  clear F5
  clear hcw
  have hm_cfr := hcf.len
  unfold maxLen at hm_cfr
  obtain ⟨af, caf, rfl⟩ := hcf.any
  have F7 := F6.sl0 hcf h4 rfl
  clear F6
  clear hcf
  obtain ⟨ak, cak, rfl⟩ := hck.any
  simp only [List.length_map] at hck ⊢
  have hm_cwk : rows.length ≤ 2 ^ 63 - 1 := by have h_ := hck.len; unfold maxLen at h_; simpa using h_
  have F8 := F7.sl0 hck h4 rfl
  clear F7
  clear hck
  have F9 := F8.non0 (rrwsl lo3 hi3 rows) hcr (fun _ h_ => Nat.lt_of_lt_of_le h_.2 h4) rfl rfl
  clear F8
  clear hcr
  have HCS := Lib.hid hcs
  have HCO := Lib.hid hco
  have HFR := Lib.hid (fun i => (HCO.out.fr i).1)
  have hnd4 := hco.nd
  have HTM := Lib.hid htm
  have HAF := Lib.hid hta
  have HRS := Lib.hid hrs
  have HSO : Hid (SiteOk c ts.length) := Lib.hid (SiteOk.of hco (fun i hi a ha => by rw [hcs.af] at ha; exact hta i _ (tk_at hi) a ha))
  have hlh : lh.length = ts.length := by rw [HCS.out.ho]; simp
  have hlw : lw.length = ts.length := by rw [HCS.out.wa]; simp
  have hlf : lf.length = ts.length := by rw [HCS.out.fr]; simp
  have hlk : rows.length = ms.length := by have h_ := HCS.out.rn; simpa using h_
  have HL := Lib.hid (And.intro hlh (And.intro hlw (And.intro hlf hlk)))
  clear hcs hco htm hta hrs hlh hlw hlf hlk
  go_enter Try.func67, Try.ntmps67
  go_wp2_with fail
  have F11 := F9.new 25 #[.slice aM ms.length cM, .slice aT ts.length cT] (n := w.heap.size) (by simp)
  clear F9
  have F12 := F11.new 51 #[.slice ah lh.length cah, .slice aw lw.length caw, .slice af lf.length caf, .slice ak rows.length cak] (n := (w.heap.size + 1)) (by simp)
  clear F11
  obtain ⟨w13, hx14, F16, hxs15⟩ := (show Bun w [rbox (w.heap.size + 1) 51 #[.slice ah lh.length cah, .slice aw lw.length caw, .slice af lf.length caf, .slice ak rows.length cak], rbox w.heap.size 25 #[.slice aM ms.length cM, .slice aT ts.length cT], rrwsl lo3 hi3 rows, rsl vEncS 1 lo3 hi3 (.slice ak rows.length cak) (rows.map (·.1)), rsl intEnc 1 lo3 hi3 (.slice af lf.length caf) lf, rsl intEnc 1 lo3 hi3 (.slice aw lw.length caw) lw, rsl intEnc 1 lo3 hi3 (.slice ah lh.length cah) lh, rafs lo hi ts, rsl tskEnc 8 lo hi (.slice aT ts.length cT) ts, rsl mchEnc 3 lo hi (.slice aM ms.length cM) ms] _ from F12).name
  (try simp at hxs15)
  rw [hx14]
  clear hx14 F12
  have F17 := F16.drew
  clear F16
  refine ru_begin (fun W => W.cell? ⟨w.heap.size, 0, none⟩ = some (.slice aM ms.length cM) ∧ W.cell? ⟨w.heap.size, 1, none⟩ = some (.slice aT ts.length cT) ∧ W.cell? ⟨(w.heap.size + 1), 0, none⟩ = some (.slice ah lh.length cah) ∧ W.cell? ⟨(w.heap.size + 1), 1, none⟩ = some (.slice aw lw.length caw) ∧ W.cell? ⟨(w.heap.size + 1), 2, none⟩ = some (.slice af lf.length caf) ∧ W.cell? ⟨(w.heap.size + 1), 3, none⟩ = some (.slice ak rows.length cak)) 15 (by kernel_rfl) ?_ ?_
  · exact ⟨F17.cl 1 0 rfl rfl, F17.cl 1 1 rfl rfl, F17.cl 0 0 rfl rfl, F17.cl 0 1 rfl rfl, F17.cl 0 2 rfl rfl, F17.cl 0 3 rfl rfl⟩
  obtain ⟨wd19, hwd_⟩ : ∃ x : World, w13.drew = x := ⟨_, rfl⟩
  rw [hwd_] at F17 ⊢
  have wd19s : w13.heap.size ≤ wd19.heap.size := by rw [← hwd_]; exact Nat.le_refl _
  clear hwd_
  have hS18 := (And.intro (F17.cl 1 0 rfl rfl) (And.intro (F17.cl 1 1 rfl rfl) (And.intro (F17.cl 0 0 rfl rfl) (And.intro (F17.cl 0 1 rfl rfl) (And.intro (F17.cl 0 2 rfl rfl) (F17.cl 0 3 rfl rfl))))))
  refine ru_t 0 [] ?_
  refine ru_t 1 [] ?_
  refine ru_t 2 [] ?_
  refine ru_t 3 [] ?_
  refine ru_t 5 [] ?_
  refine ru_t 6 [] ?_
  refine ru_t 7 [] ?_
  refine ru_t 9 [] ?_
  refine ru_t 10 [] ?_
  refine ru_t 11 [] ?_
  (try simp only [Act.put, List.setIfInBounds_toArray, List.set_cons_zero, List.set_cons_succ])
  clear hS18
  refine ru_state 56 (fun t w_ => ∃ (olq20 : Option Addr) (ocq20 : Nat) (yg8 : Nat) (yg12 : Nat) (yg14 : Nat), t 1 = .int .i64 (c.nd : Int) ∧ t 3 = .pointer (some ⟨w.heap.size, 0, none⟩) ∧ t 7 = .pointer (some ⟨yg14, 0, none⟩) ∧ w13.heap.size ≤ w_.heap.size ∧ Bun w [rbox yg14 58 #[.slice aM ms.length cM, .slice aT ts.length cT, .slice ah lh.length cah, .slice aw lw.length caw, .slice af lf.length caf, .slice ak rows.length cak, .slice olq20 lh.length ocq20, .slice none 0 0, .slice none 0 0, .slice (some ⟨yg8, 0, none⟩) ts.length ts.length, .slice (some ⟨yg12, 0, none⟩) ts.length ts.length], rown boEnc 4 1 w.heap.size (.slice (some ⟨yg12, 0, none⟩) ts.length ts.length) (List.replicate ts.length false), rown boEnc 4 1 w.heap.size (.slice (some ⟨yg8, 0, none⟩) ts.length ts.length) (List.replicate ts.length false), rown intEnc 3 1 w.heap.size (.slice olq20 lh.length ocq20) lh, rbox (w.heap.size + 1) 51 #[.slice ah lh.length cah, .slice aw lw.length caw, .slice af lf.length caf, .slice ak rows.length cak], rbox w.heap.size 25 #[.slice aM ms.length cM, .slice aT ts.length cT], rrwsl lo3 hi3 rows, rsl vEncS 1 lo3 hi3 (.slice ak rows.length cak) (rows.map (·.1)), rsl intEnc 1 lo3 hi3 (.slice af lf.length caf) lf, rsl intEnc 1 lo3 hi3 (.slice aw lw.length caw) lw, rsl intEnc 1 lo3 hi3 (.slice ah lh.length cah) lh, rafs lo hi ts, rsl tskEnc 8 lo hi (.slice aT ts.length cT) ts, rsl mchEnc 3 lo hi (.slice aM ms.length cM) ms] w_) #[true, true, true, true, true, true, true, true, true, true, true, true, true, true, true, true] 0 ?st21 ?nx21
  case st21 =>
    rintro t w22 ⟨olq20, ocq20, yg8, yg12, yg14, e1, e3, e7, hsz21, F23⟩
    clear F17
    rw [rng_siteOf_c t, e1, e3, e7]
    clear e1 e3 e7
    have hws21 := F23.gb.size
    have yg14l := F23.ltAt 0 rfl yg14 rfl
    have yg14b := yg14l.2 rfl
    have yg12l := (F23.ltAt 1 rfl _ rfl).1
    have yg8l := (F23.ltAt 2 rfl _ rfl).1
    refine ru_done (by kernel_rfl) ?_
    obtain ⟨w24, hx25, F27, hxs26⟩ := (show Bun w [rbox yg14 58 #[.slice aM ms.length cM, .slice aT ts.length cT, .slice ah lh.length cah, .slice aw lw.length caw, .slice af lf.length caf, .slice ak rows.length cak, .slice olq20 lh.length ocq20, .slice none 0 0, .slice none 0 0, .slice (some ⟨yg8, 0, none⟩) ts.length ts.length, .slice (some ⟨yg12, 0, none⟩) ts.length ts.length], rown boEnc 4 1 w.heap.size (.slice (some ⟨yg12, 0, none⟩) ts.length ts.length) (List.replicate ts.length false), rown boEnc 4 1 w.heap.size (.slice (some ⟨yg8, 0, none⟩) ts.length ts.length) (List.replicate ts.length false), rown intEnc 3 1 w.heap.size (.slice olq20 lh.length ocq20) lh, rbox w.heap.size 25 #[.slice aM ms.length cM, .slice aT ts.length cT], rrwsl lo3 hi3 rows, rsl vEncS 1 lo3 hi3 (.slice ak rows.length cak) (rows.map (·.1)), rsl intEnc 1 lo3 hi3 (.slice af lf.length caf) lf, rsl intEnc 1 lo3 hi3 (.slice aw lw.length caw) lw, rsl intEnc 1 lo3 hi3 (.slice ah lh.length cah) lh, rafs lo hi ts, rsl tskEnc 8 lo hi (.slice aT ts.length cT) ts, rsl mchEnc 3 lo hi (.slice aM ms.length cM) ms] _ from (F23.drop 4 rfl)).name
    (try simp at hxs26)
    rw [hx25]
    clear hx25 F23
    go_wp2_with fail
    have F28 := F27.nilrow intEnc 3 1
    clear F27
    have F29 := F28.nilrow intEnc 3 1
    clear F28
    (skip)
    obtain ⟨HI30_, HI300⟩ : ∃ I : (Nat → Value) → List Deferred → World → Prop, I = (fun t ds wr => ∃ (k : Nat) (vb ve : Value), t 1 = .int .i64 (c.nd : Int) ∧ t 3 = .pointer (some ⟨w.heap.size, 0, none⟩) ∧ t 7 = .pointer (some ⟨yg14, 0, none⟩) ∧ t 8 = .int .i64 (k : Int) ∧ k ≤ ts.length ∧ ds = [] ∧ w24.heap.size ≤ wr.heap.size ∧ Bun w [rown intEnc 3 1 w.heap.size vb (List.replicate k (24 * (c.nd : Int) + 1)), rown intEnc 3 1 w.heap.size ve (List.replicate k (24 * (c.nd : Int) + 1)), rbox yg14 58 #[.slice aM ms.length cM, .slice aT ts.length cT, .slice ah lh.length cah, .slice aw lw.length caw, .slice af lf.length caf, .slice ak rows.length cak, .slice olq20 lh.length ocq20, vb, ve, .slice (some ⟨yg8, 0, none⟩) ts.length ts.length, .slice (some ⟨yg12, 0, none⟩) ts.length ts.length], rown boEnc 4 1 w.heap.size (.slice (some ⟨yg12, 0, none⟩) ts.length ts.length) (List.replicate ts.length false), rown boEnc 4 1 w.heap.size (.slice (some ⟨yg8, 0, none⟩) ts.length ts.length) (List.replicate ts.length false), rown intEnc 3 1 w.heap.size (.slice olq20 lh.length ocq20) lh, rbox w.heap.size 25 #[.slice aM ms.length cM, .slice aT ts.length cT], rrwsl lo3 hi3 rows, rsl vEncS 1 lo3 hi3 (.slice ak rows.length cak) (rows.map (·.1)), rsl intEnc 1 lo3 hi3 (.slice af lf.length caf) lf, rsl intEnc 1 lo3 hi3 (.slice aw lw.length caw) lw, rsl intEnc 1 lo3 hi3 (.slice ah lh.length cah) lh, rafs lo hi ts, rsl tskEnc 8 lo hi (.slice aT ts.length cT) ts, rsl mchEnc 3 lo hi (.slice aM ms.length cM) ms] wr) := ⟨_, rfl⟩
    have HI30 := Lib.hid HI300
    clear HI300
    refine wp_loopS 56 rfl HI30_ (fun t wr => ts.length - (intOf (t 8)).toNat) ?atStart1 ?round1
    case round1 =>
      intro t ds wr hHid
      rw [HI30.out] at hHid
      obtain ⟨k, vb, ve, e1, e3, e7, e8, hrel⟩ := hHid
      have e : ((List.range 56).map t).toArray = #[t 0, t 1, t 2, t 3, t 4, t 5, t 6, t 7, t 8, t 9, t 10, t 11, t 12, t 13, t 14, t 15, t 16, t 17, t 18, t 19, t 20, t 21, t 22, t 23, t 24, t 25, t 26, t 27, t 28, t 29, t 30, t 31, t 32, t 33, t 34, t 35, t 36, t 37, t 38, t 39, t 40, t 41, t 42, t 43, t 44, t 45, t 46, t 47, t 48, t 49, t 50, t 51, t 52, t 53, t 54, t 55] := rfl
      (try dsimp only at e)
      rw [e1, e3, e7, e8] at e
      rw [e]
      simp only [e8]
      clear e e1 e3 e7 e8
      obtain ⟨hk, rfl, hs32, hF31⟩ := hrel
      clear F29
      obtain ⟨w33, rfl⟩ : ∃ x_ : World, x_ = wr := ⟨_, rfl⟩
      by_cases c34 : (k : Int) < (ts.length : Int)
      · skip
        have c34H := Lib.hid c34
        have b39 := hF31.bx2 6 rfl
        go_wp2_with fail
        clear b39
        have hw35 : IntKind.i64.wrap (24 * (c.nd : Int)) = 24 * (c.nd : Int) := IntWalk.i64_in _ (by omega)
        have hw36 : IntKind.i64.wrap (24 * (c.nd : Int) + 1) = 24 * (c.nd : Int) + 1 := IntWalk.i64_in _ (by omega)
        have hw37 : IntKind.i64.wrap (24 * (c.nd : Int)) = 24 * (c.nd : Int) := IntWalk.i64_in _ (by omega)
        have hw38 : IntKind.i64.wrap (24 * (c.nd : Int) + 1) = 24 * (c.nd : Int) + 1 := IntWalk.i64_in _ (by omega)
        have F40 := hF31.drew
        clear hF31
        refine ru_begin (fun W => W.cell? ⟨yg14, 7, none⟩ = some vb ∧ W.cell? ⟨yg14, 8, none⟩ = some ve) 22 (by kernel_rfl) ?_ ?_
        · exact ⟨F40.cl 2 7 rfl rfl, F40.cl 2 8 rfl rfl⟩
        obtain ⟨wd42, hwd_⟩ : ∃ x : World, w33.drew = x := ⟨_, rfl⟩
        rw [hwd_] at F40 ⊢
        have wd42s : w33.heap.size ≤ wd42.heap.size := by rw [← hwd_]; exact Nat.le_refl _
        clear hwd_
        have hS41 := (And.intro (F40.cl 2 7 rfl rfl) (F40.cl 2 8 rfl rfl))
        refine ru_t 0 [] ?_
        refine ru_t 2 [] ?_
        refine ru_t 3 [] ?_
        refine ru_t 4 [] ?_
        refine ru_t 5 [] ?_
        refine ru_t 6 [] ?_
        refine ru_t 7 [] ?_
        refine ru_t 8 [] ?_
        refine ru_t 11 [14, 13, 12] ?_
        refine ru_t 12 [14, 13] ?_
        refine ru_t 13 [14] ?_
        refine ru_t 14 [] ?_
        refine ru_t 15 [19, 18, 17, 16] ?_
        refine ru_t 16 [19, 18, 17] ?_
        refine ru_t 17 [19, 18] ?_
        (try simp only [Act.put, List.setIfInBounds_toArray, List.set_cons_zero, List.set_cons_succ])
        refine ru_p 1 ?_
        (try simp only [Act.put, List.setIfInBounds_toArray, List.set_cons_zero, List.set_cons_succ])
        clear hS41
        refine ru_state 56 (fun t w_ => ∃ (yg9 : Nat) (yg10 : Nat) (yc10 : Nat) (yg18 : Nat) (yg19 : Nat) (yc19 : Nat), t 1 = .int .i64 (c.nd : Int) ∧ t 3 = .pointer (some ⟨w.heap.size, 0, none⟩) ∧ t 7 = .pointer (some ⟨yg14, 0, none⟩) ∧ t 8 = .int .i64 (k : Int) ∧ w33.heap.size ≤ w_.heap.size ∧ Bun w [rbox yg14 58 #[.slice aM ms.length cM, .slice aT ts.length cT, .slice ah lh.length cah, .slice aw lw.length caw, .slice af lf.length caf, .slice ak rows.length cak, .slice olq20 lh.length ocq20, .slice (some ⟨yg10, 0, none⟩) (k + 1) yc10, .slice (some ⟨yg19, 0, none⟩) (k + 1) yc19, .slice (some ⟨yg8, 0, none⟩) ts.length ts.length, .slice (some ⟨yg12, 0, none⟩) ts.length ts.length], rown intEnc 3 1 w.heap.size (.slice (some ⟨yg19, 0, none⟩) (k + 1) yc19) (List.replicate k (24 * (c.nd : Int) + 1) ++ [24 * (c.nd : Int) + 1]), rbox yg18 3 #[.int .i64 (24 * (c.nd : Int) + 1)], rown intEnc 3 1 w.heap.size (.slice (some ⟨yg10, 0, none⟩) (k + 1) yc10) (List.replicate k (24 * (c.nd : Int) + 1) ++ [24 * (c.nd : Int) + 1]), rbox yg9 3 #[.int .i64 (24 * (c.nd : Int) + 1)], rown boEnc 4 1 w.heap.size (.slice (some ⟨yg12, 0, none⟩) ts.length ts.length) (List.replicate ts.length false), rown boEnc 4 1 w.heap.size (.slice (some ⟨yg8, 0, none⟩) ts.length ts.length) (List.replicate ts.length false), rown intEnc 3 1 w.heap.size (.slice olq20 lh.length ocq20) lh, rbox w.heap.size 25 #[.slice aM ms.length cM, .slice aT ts.length cT], rrwsl lo3 hi3 rows, rsl vEncS 1 lo3 hi3 (.slice ak rows.length cak) (rows.map (·.1)), rsl intEnc 1 lo3 hi3 (.slice af lf.length caf) lf, rsl intEnc 1 lo3 hi3 (.slice aw lw.length caw) lw, rsl intEnc 1 lo3 hi3 (.slice ah lh.length cah) lh, rafs lo hi ts, rsl tskEnc 8 lo hi (.slice aT ts.length cT) ts, rsl mchEnc 3 lo hi (.slice aM ms.length cM) ms] w_) #[true, true, true, true, true, true, true, true, true, true, true, true, true, true, true, true, true, true, true, true, true, true, true, true, true, true] 0 ?st43 ?nx43
        case st43 =>
          rintro t w44 ⟨yg9, yg10, yc10, yg18, yg19, yc19, e1, e3, e7, e8, hsz43, F45⟩
          clear F40
          rw [rng_siteOf_c t, e1, e3, e7, e8]
          clear e1 e3 e7 e8
          have hws43 := F45.gb.size
          have yg14l := F45.ltAt 0 rfl yg14 rfl
          have yg14b := yg14l.2 rfl
          have yg19l := (F45.ltAt 1 rfl _ rfl).1
          have yg18l := F45.ltAt 2 rfl yg18 rfl
          have yg18b := yg18l.2 rfl
          have yg10l := (F45.ltAt 3 rfl _ rfl).1
          have yg9l := F45.ltAt 4 rfl yg9 rfl
          have yg9b := yg9l.2 rfl
          have yg12l := (F45.ltAt 5 rfl _ rfl).1
          have yg8l := (F45.ltAt 6 rfl _ rfl).1
          refine ru_done (by kernel_rfl) ?_
          (try clear hw35 hw36 hw37 hw38)
          obtain ⟨w46, hx47, F49, hxs48⟩ := (show Bun w [rbox yg14 58 #[.slice aM ms.length cM, .slice aT ts.length cT, .slice ah lh.length cah, .slice aw lw.length caw, .slice af lf.length caf, .slice ak rows.length cak, .slice olq20 lh.length ocq20, .slice (some ⟨yg10, 0, none⟩) (k + 1) yc10, .slice (some ⟨yg19, 0, none⟩) (k + 1) yc19, .slice (some ⟨yg8, 0, none⟩) ts.length ts.length, .slice (some ⟨yg12, 0, none⟩) ts.length ts.length], rown intEnc 3 1 w.heap.size (.slice (some ⟨yg19, 0, none⟩) (k + 1) yc19) (List.replicate k (24 * (c.nd : Int) + 1) ++ [24 * (c.nd : Int) + 1]), rown intEnc 3 1 w.heap.size (.slice (some ⟨yg10, 0, none⟩) (k + 1) yc10) (List.replicate k (24 * (c.nd : Int) + 1) ++ [24 * (c.nd : Int) + 1]), rown boEnc 4 1 w.heap.size (.slice (some ⟨yg12, 0, none⟩) ts.length ts.length) (List.replicate ts.length false), rown boEnc 4 1 w.heap.size (.slice (some ⟨yg8, 0, none⟩) ts.length ts.length) (List.replicate ts.length false), rown intEnc 3 1 w.heap.size (.slice olq20 lh.length ocq20) lh, rbox w.heap.size 25 #[.slice aM ms.length cM, .slice aT ts.length cT], rrwsl lo3 hi3 rows, rsl vEncS 1 lo3 hi3 (.slice ak rows.length cak) (rows.map (·.1)), rsl intEnc 1 lo3 hi3 (.slice af lf.length caf) lf, rsl intEnc 1 lo3 hi3 (.slice aw lw.length caw) lw, rsl intEnc 1 lo3 hi3 (.slice ah lh.length cah) lh, rafs lo hi ts, rsl tskEnc 8 lo hi (.slice aT ts.length cT) ts, rsl mchEnc 3 lo hi (.slice aM ms.length cM) ms] _ from ((F45.drop 2 rfl).drop 3 rfl)).name
          (try simp at hxs48)
          rw [hx47]
          clear hx47 F45
          go_wp2_with fail
          have F50 : Bun w [rown intEnc 3 1 w.heap.size (.slice (some ⟨yg10, 0, none⟩) (k + 1) yc10) (List.replicate k (24 * (c.nd : Int) + 1) ++ [24 * (c.nd : Int) + 1]), rown intEnc 3 1 w.heap.size (.slice (some ⟨yg19, 0, none⟩) (k + 1) yc19) (List.replicate k (24 * (c.nd : Int) + 1) ++ [24 * (c.nd : Int) + 1]), rbox yg14 58 #[.slice aM ms.length cM, .slice aT ts.length cT, .slice ah lh.length cah, .slice aw lw.length caw, .slice af lf.length caf, .slice ak rows.length cak, .slice olq20 lh.length ocq20, .slice (some ⟨yg10, 0, none⟩) (k + 1) yc10, .slice (some ⟨yg19, 0, none⟩) (k + 1) yc19, .slice (some ⟨yg8, 0, none⟩) ts.length ts.length, .slice (some ⟨yg12, 0, none⟩) ts.length ts.length], rown boEnc 4 1 w.heap.size (.slice (some ⟨yg12, 0, none⟩) ts.length ts.length) (List.replicate ts.length false), rown boEnc 4 1 w.heap.size (.slice (some ⟨yg8, 0, none⟩) ts.length ts.length) (List.replicate ts.length false), rown intEnc 3 1 w.heap.size (.slice olq20 lh.length ocq20) lh, rbox w.heap.size 25 #[.slice aM ms.length cM, .slice aT ts.length cT], rrwsl lo3 hi3 rows, rsl vEncS 1 lo3 hi3 (.slice ak rows.length cak) (rows.map (·.1)), rsl intEnc 1 lo3 hi3 (.slice af lf.length caf) lf, rsl intEnc 1 lo3 hi3 (.slice aw lw.length caw) lw, rsl intEnc 1 lo3 hi3 (.slice ah lh.length cah) lh, rafs lo hi ts, rsl tskEnc 8 lo hi (.slice aT ts.length cT) ts, rsl mchEnc 3 lo hi (.slice aM ms.length cM) ms] _ := F49.pick [2, 1, 0, 3, 4, 5, 6, 7, 8, 9, 10, 11, 12, 13, 14] (by decide) rfl
          clear F49
          (first | refine ⟨by kernel_rfl, ?_, ?_⟩ | refine ⟨rfl, ?_, ?_⟩ | refine ⟨?_, ?_⟩)
          · rw [HI30.out]; exact ⟨k + 1, _, _, (by first | kernel_rfl | rfl), (by first | kernel_rfl | rfl), (by first | kernel_rfl | rfl), (by show Value.int .i64 ((k : Int) + 1) = _; simp), (by omega), (by first | rfl | simp), (by first | omega | (simp; done) | (simp; omega)), (by rw [rep_succ]; exact F50)⟩
          · simp [slot, intOf]; omega
        intro hZ43
        refine ru_state 56 (fun t w_ => ∃ (yg9 : Nat) (yg10 : Nat) (yc10 : Nat) (yg18 : Nat) (yg19 : Nat) (yc19 : Nat), t 1 = .int .i64 (c.nd : Int) ∧ t 3 = .pointer (some ⟨w.heap.size, 0, none⟩) ∧ t 7 = .pointer (some ⟨yg14, 0, none⟩) ∧ t 8 = .int .i64 (k : Int) ∧ t 50 = .slice (some ⟨yg19, 0, none⟩) (k + 1) yc19 ∧ t 54 = .pointer (some ⟨yg14, 8, none⟩) ∧ w33.heap.size ≤ w_.heap.size ∧ Bun w [rbox yg14 58 #[.slice aM ms.length cM, .slice aT ts.length cT, .slice ah lh.length cah, .slice aw lw.length caw, .slice af lf.length caf, .slice ak rows.length cak, .slice olq20 lh.length ocq20, .slice (some ⟨yg10, 0, none⟩) (k + 1) yc10, ve, .slice (some ⟨yg8, 0, none⟩) ts.length ts.length, .slice (some ⟨yg12, 0, none⟩) ts.length ts.length], rown intEnc 3 1 w.heap.size (.slice (some ⟨yg19, 0, none⟩) (k + 1) yc19) (List.replicate k (24 * (c.nd : Int) + 1) ++ [24 * (c.nd : Int) + 1]), rbox yg18 3 #[.int .i64 (24 * (c.nd : Int) + 1)], rown intEnc 3 1 w.heap.size (.slice (some ⟨yg10, 0, none⟩) (k + 1) yc10) (List.replicate k (24 * (c.nd : Int) + 1) ++ [24 * (c.nd : Int) + 1]), rbox yg9 3 #[.int .i64 (24 * (c.nd : Int) + 1)], rown boEnc 4 1 w.heap.size (.slice (some ⟨yg12, 0, none⟩) ts.length ts.length) (List.replicate ts.length false), rown boEnc 4 1 w.heap.size (.slice (some ⟨yg8, 0, none⟩) ts.length ts.length) (List.replicate ts.length false), rown intEnc 3 1 w.heap.size (.slice olq20 lh.length ocq20) lh, rbox w.heap.size 25 #[.slice aM ms.length cM, .slice aT ts.length cT], rrwsl lo3 hi3 rows, rsl vEncS 1 lo3 hi3 (.slice ak rows.length cak) (rows.map (·.1)), rsl intEnc 1 lo3 hi3 (.slice af lf.length caf) lf, rsl intEnc 1 lo3 hi3 (.slice aw lw.length caw) lw, rsl intEnc 1 lo3 hi3 (.slice ah lh.length cah) lh, rafs lo hi ts, rsl tskEnc 8 lo hi (.slice aT ts.length cT) ts, rsl mchEnc 3 lo hi (.slice aM ms.length cM) ms] w_) #[true, true, true, true, true, true, true, true, true, true, true, true, true, true, true, true, true, true, true, true, true, true, true, true, true, false] 1 ?st51 ?nx51
        case st51 =>
          rintro t w52 ⟨yg9, yg10, yc10, yg18, yg19, yc19, e1, e3, e7, e8, e50, e54, hsz51, F53⟩
          clear F40
          rw [rng_siteOf_c t, e1, e3, e7, e8, e50, e54]
          clear e1 e3 e7 e8 e50 e54
          have hws51 := F53.gb.size
          have yg14l := F53.ltAt 0 rfl yg14 rfl
          have yg14b := yg14l.2 rfl
          have yg19l := (F53.ltAt 1 rfl _ rfl).1
          have yg18l := F53.ltAt 2 rfl yg18 rfl
          have yg18b := yg18l.2 rfl
          have yg10l := (F53.ltAt 3 rfl _ rfl).1
          have yg9l := F53.ltAt 4 rfl yg9 rfl
          have yg9b := yg9l.2 rfl
          have yg12l := (F53.ltAt 5 rfl _ rfl).1
          have yg8l := (F53.ltAt 6 rfl _ rfl).1
          refine ru_one 25 rfl (by kernel_rfl) (fun K hK => ?_)
          have kb_ := F53.bx11 0 rfl
          go_simp
          clear kb_
          have F54 := (F53.set 8 (.slice (some ⟨yg19, 0, none⟩) (k + 1) yc19)).nf #[.slice aM ms.length cM, .slice aT ts.length cT, .slice ah lh.length cah, .slice aw lw.length caw, .slice af lf.length caf, .slice ak rows.length cak, .slice olq20 lh.length ocq20, .slice (some ⟨yg10, 0, none⟩) (k + 1) yc10, .slice (some ⟨yg19, 0, none⟩) (k + 1) yc19, .slice (some ⟨yg8, 0, none⟩) ts.length ts.length, .slice (some ⟨yg12, 0, none⟩) ts.length ts.length] rfl
          clear F53
          refine ru_back_late hK (by kernel_rfl) ?_
          exact hZ43.out _ _ _ (by kernel_rfl) (by kernel_rfl) rfl ⟨yg9, yg10, yc10, yg18, yg19, yc19, (by kernel_rfl), (by kernel_rfl), (by kernel_rfl), (by kernel_rfl), (by first | omega | (simp; done) | (simp; omega)), F54⟩
        intro hZ51
        refine ru_state 56 (fun t w_ => ∃ (yg9 : Nat) (yg10 : Nat) (yc10 : Nat) (yg18 : Nat) (yg19 : Nat) (yc19 : Nat), t 1 = .int .i64 (c.nd : Int) ∧ t 3 = .pointer (some ⟨w.heap.size, 0, none⟩) ∧ t 7 = .pointer (some ⟨yg14, 0, none⟩) ∧ t 8 = .int .i64 (k : Int) ∧ t 32 = .pointer (some ⟨yg14, 0, none⟩) ∧ t 41 = .slice (some ⟨yg10, 0, none⟩) (k + 1) yc10 ∧ t 50 = .slice (some ⟨yg19, 0, none⟩) (k + 1) yc19 ∧ t 52 = .pointer (some ⟨yg14, 7, none⟩) ∧ w33.heap.size ≤ w_.heap.size ∧ Bun w [rown intEnc 3 1 w.heap.size (.slice (some ⟨yg19, 0, none⟩) (k + 1) yc19) (List.replicate k (24 * (c.nd : Int) + 1) ++ [24 * (c.nd : Int) + 1]), rbox yg18 3 #[.int .i64 (24 * (c.nd : Int) + 1)], rown intEnc 3 1 w.heap.size (.slice (some ⟨yg10, 0, none⟩) (k + 1) yc10) (List.replicate k (24 * (c.nd : Int) + 1) ++ [24 * (c.nd : Int) + 1]), rbox yg9 3 #[.int .i64 (24 * (c.nd : Int) + 1)], rbox yg14 58 #[.slice aM ms.length cM, .slice aT ts.length cT, .slice ah lh.length cah, .slice aw lw.length caw, .slice af lf.length caf, .slice ak rows.length cak, .slice olq20 lh.length ocq20, vb, ve, .slice (some ⟨yg8, 0, none⟩) ts.length ts.length, .slice (some ⟨yg12, 0, none⟩) ts.length ts.length], rown boEnc 4 1 w.heap.size (.slice (some ⟨yg12, 0, none⟩) ts.length ts.length) (List.replicate ts.length false), rown boEnc 4 1 w.heap.size (.slice (some ⟨yg8, 0, none⟩) ts.length ts.length) (List.replicate ts.length false), rown intEnc 3 1 w.heap.size (.slice olq20 lh.length ocq20) lh, rbox w.heap.size 25 #[.slice aM ms.length cM, .slice aT ts.length cT], rrwsl lo3 hi3 rows, rsl vEncS 1 lo3 hi3 (.slice ak rows.length cak) (rows.map (·.1)), rsl intEnc 1 lo3 hi3 (.slice af lf.length caf) lf, rsl intEnc 1 lo3 hi3 (.slice aw lw.length caw) lw, rsl intEnc 1 lo3 hi3 (.slice ah lh.length cah) lh, rafs lo hi ts, rsl tskEnc 8 lo hi (.slice aT ts.length cT) ts, rsl mchEnc 3 lo hi (.slice aM ms.length cM) ms] w_) #[true, true, true, true, true, true, true, true, true, true, true, true, true, true, true, true, true, true, true, true, true, true, false, false, false, false] 4 ?st55 ?nx55
        case st55 =>
          rintro t w56 ⟨yg9, yg10, yc10, yg18, yg19, yc19, e1, e3, e7, e8, e32, e41, e50, e52, hsz55, F57⟩
          clear F40
          rw [rng_siteOf_c t, e1, e3, e7, e8, e32, e41, e50, e52]
          clear e1 e3 e7 e8 e32 e41 e50 e52
          have hws55 := F57.gb.size
          have yg19l := (F57.ltAt 0 rfl _ rfl).1
          have yg18l := F57.ltAt 1 rfl yg18 rfl
          have yg18b := yg18l.2 rfl
          have yg10l := (F57.ltAt 2 rfl _ rfl).1
          have yg9l := F57.ltAt 3 rfl yg9 rfl
          have yg9b := yg9l.2 rfl
          have yg14l := F57.ltAt 4 rfl yg14 rfl
          have yg14b := yg14l.2 rfl
          have yg12l := (F57.ltAt 5 rfl _ rfl).1
          have yg8l := (F57.ltAt 6 rfl _ rfl).1
          refine ru_one 22 rfl (by kernel_rfl) (fun K hK => ?_)
          have kb_ := F57.bx11 4 rfl
          go_simp
          clear kb_
          have F58 := ((F57.front 4 rfl rfl).set 7 (.slice (some ⟨yg10, 0, none⟩) (k + 1) yc10)).nf #[.slice aM ms.length cM, .slice aT ts.length cT, .slice ah lh.length cah, .slice aw lw.length caw, .slice af lf.length caf, .slice ak rows.length cak, .slice olq20 lh.length ocq20, .slice (some ⟨yg10, 0, none⟩) (k + 1) yc10, ve, .slice (some ⟨yg8, 0, none⟩) ts.length ts.length, .slice (some ⟨yg12, 0, none⟩) ts.length ts.length] rfl
          clear F57
          refine ru_back_late hK (by kernel_rfl) ?_
          clear hK K
          (try simp only [Act.put, List.setIfInBounds_toArray, List.set_cons_zero, List.set_cons_succ])
          refine ru_p 23 ?_
          (try simp only [Act.put, List.setIfInBounds_toArray, List.set_cons_zero, List.set_cons_succ])
          refine ru_p 24 ?_
          (try simp only [Act.put, List.setIfInBounds_toArray, List.set_cons_zero, List.set_cons_succ])
          exact hZ51.out _ _ _ (by kernel_rfl) (by kernel_rfl) rfl ⟨yg9, yg10, yc10, yg18, yg19, yc19, (by kernel_rfl), (by kernel_rfl), (by kernel_rfl), (by kernel_rfl), (by kernel_rfl), (by kernel_rfl), (by first | omega | (simp; done) | (simp; omega)), F58⟩
        intro hZ55
        refine ru_state 56 (fun t w_ => ∃ (yg9 : Nat) (yg10 : Nat) (yc10 : Nat) (yg18 : Nat), t 1 = .int .i64 (c.nd : Int) ∧ t 3 = .pointer (some ⟨w.heap.size, 0, none⟩) ∧ t 7 = .pointer (some ⟨yg14, 0, none⟩) ∧ t 8 = .int .i64 (k : Int) ∧ t 31 = .pointer (some ⟨yg14, 0, none⟩) ∧ t 32 = .pointer (some ⟨yg14, 0, none⟩) ∧ t 41 = .slice (some ⟨yg10, 0, none⟩) (k + 1) yc10 ∧ t 45 = ve ∧ t 49 = .slice (some ⟨yg18, 0, none⟩) 1 1 ∧ w33.heap.size ≤ w_.heap.size ∧ Bun w [rbox yg18 3 #[.int .i64 (24 * (c.nd : Int) + 1)], rown intEnc 3 1 w.heap.size (.slice (some ⟨yg10, 0, none⟩) (k + 1) yc10) (List.replicate k (24 * (c.nd : Int) + 1) ++ [24 * (c.nd : Int) + 1]), rbox yg9 3 #[.int .i64 (24 * (c.nd : Int) + 1)], rown intEnc 3 1 w.heap.size ve (List.replicate k (24 * (c.nd : Int) + 1)), rbox yg14 58 #[.slice aM ms.length cM, .slice aT ts.length cT, .slice ah lh.length cah, .slice aw lw.length caw, .slice af lf.length caf, .slice ak rows.length cak, .slice olq20 lh.length ocq20, vb, ve, .slice (some ⟨yg8, 0, none⟩) ts.length ts.length, .slice (some ⟨yg12, 0, none⟩) ts.length ts.length], rown boEnc 4 1 w.heap.size (.slice (some ⟨yg12, 0, none⟩) ts.length ts.length) (List.replicate ts.length false), rown boEnc 4 1 w.heap.size (.slice (some ⟨yg8, 0, none⟩) ts.length ts.length) (List.replicate ts.length false), rown intEnc 3 1 w.heap.size (.slice olq20 lh.length ocq20) lh, rbox w.heap.size 25 #[.slice aM ms.length cM, .slice aT ts.length cT], rrwsl lo3 hi3 rows, rsl vEncS 1 lo3 hi3 (.slice ak rows.length cak) (rows.map (·.1)), rsl intEnc 1 lo3 hi3 (.slice af lf.length caf) lf, rsl intEnc 1 lo3 hi3 (.slice aw lw.length caw) lw, rsl intEnc 1 lo3 hi3 (.slice ah lh.length cah) lh, rafs lo hi ts, rsl tskEnc 8 lo hi (.slice aT ts.length cT) ts, rsl mchEnc 3 lo hi (.slice aM ms.length cM) ms] w_) #[true, true, true, true, true, true, true, true, true, true, true, true, true, true, true, true, true, true, true, false, false, false, false, false, false, false] 7 ?st59 ?nx59
        case st59 =>
          rintro t w60 ⟨yg9, yg10, yc10, yg18, e1, e3, e7, e8, e31, e32, e41, e45, e49, hsz59, F61⟩
          clear F40
          rw [rng_siteOf_c t, e1, e3, e7, e8, e31, e32, e41, e45, e49]
          clear e1 e3 e7 e8 e31 e32 e41 e45 e49
          have hws59 := F61.gb.size
          have yg18l := F61.ltAt 0 rfl yg18 rfl
          have yg18b := yg18l.2 rfl
          have yg10l := (F61.ltAt 1 rfl _ rfl).1
          have yg9l := F61.ltAt 2 rfl yg9 rfl
          have yg9b := yg9l.2 rfl
          have yg14l := F61.ltAt 4 rfl yg14 rfl
          have yg14b := yg14l.2 rfl
          have yg12l := (F61.ltAt 5 rfl _ rfl).1
          have yg8l := (F61.ltAt 6 rfl _ rfl).1
          refine ru_one 19 rfl (by kernel_rfl) (fun K hK => ?_)
          refine step_app _ okInt rfl _ _ rfl w.heap.size ve (List.replicate k (24 * (c.nd : Int) + 1)) [24 * (c.nd : Int) + 1] rfl (by exact (F61.at 3 rfl : Own intEnc 3 1 w.heap.size _ ve (List.replicate k (24 * (c.nd : Int) + 1)))) ⟨_, 0, none⟩ 1 1 rfl rfl (by decide) (news_of (F61.at 0 rfl : Bk _ yg18 3 #[.int .i64 (24 * (c.nd : Int) + 1)])) (k + 1) (by rw [List.length_replicate]) (by omega) (by first | omega | (simp; omega)) _ rfl ?_
          intro g62 cap63 w64 hp65
          have hp65s := hp65.gb.size
          (try simp at hp65s)
          have F66 := (F61.front 3 rfl rfl).app hp65 (Nat.le_refl _)
          clear F61
          refine ru_back hK (by exact ⟨F66.cl 4 7 rfl rfl, F66.cl 4 8 rfl rfl⟩) (fun hHeld => ?_)
          clear hK K
          (try simp only [Act.put, List.setIfInBounds_toArray, List.set_cons_zero, List.set_cons_succ])
          refine ru_p 20 ?_
          (try simp only [Act.put, List.setIfInBounds_toArray, List.set_cons_zero, List.set_cons_succ])
          refine ru_p 21 ?_
          (try simp only [Act.put, List.setIfInBounds_toArray, List.set_cons_zero, List.set_cons_succ])
          exact hZ55.out _ _ _ (by kernel_rfl) (by kernel_rfl) rfl ⟨yg9, yg10, yc10, yg18, g62, cap63, (by kernel_rfl), (by kernel_rfl), (by kernel_rfl), (by kernel_rfl), (by kernel_rfl), (by kernel_rfl), (by kernel_rfl), (by kernel_rfl), (by first | omega | (simp; done) | (simp; omega)), F66⟩
        intro hZ59
        refine ru_state 56 (fun t w_ => ∃ (yg9 : Nat) (yg10 : Nat) (yc10 : Nat), t 1 = .int .i64 (c.nd : Int) ∧ t 3 = .pointer (some ⟨w.heap.size, 0, none⟩) ∧ t 7 = .pointer (some ⟨yg14, 0, none⟩) ∧ t 8 = .int .i64 (k : Int) ∧ t 31 = .pointer (some ⟨yg14, 0, none⟩) ∧ t 32 = .pointer (some ⟨yg14, 0, none⟩) ∧ t 41 = .slice (some ⟨yg10, 0, none⟩) (k + 1) yc10 ∧ t 45 = ve ∧ t 48 = .int .i64 (24 * (c.nd : Int) + 1) ∧ w33.heap.size ≤ w_.heap.size ∧ Bun w [rown intEnc 3 1 w.heap.size (.slice (some ⟨yg10, 0, none⟩) (k + 1) yc10) (List.replicate k (24 * (c.nd : Int) + 1) ++ [24 * (c.nd : Int) + 1]), rbox yg9 3 #[.int .i64 (24 * (c.nd : Int) + 1)], rown intEnc 3 1 w.heap.size ve (List.replicate k (24 * (c.nd : Int) + 1)), rbox yg14 58 #[.slice aM ms.length cM, .slice aT ts.length cT, .slice ah lh.length cah, .slice aw lw.length caw, .slice af lf.length caf, .slice ak rows.length cak, .slice olq20 lh.length ocq20, vb, ve, .slice (some ⟨yg8, 0, none⟩) ts.length ts.length, .slice (some ⟨yg12, 0, none⟩) ts.length ts.length], rown boEnc 4 1 w.heap.size (.slice (some ⟨yg12, 0, none⟩) ts.length ts.length) (List.replicate ts.length false), rown boEnc 4 1 w.heap.size (.slice (some ⟨yg8, 0, none⟩) ts.length ts.length) (List.replicate ts.length false), rown intEnc 3 1 w.heap.size (.slice olq20 lh.length ocq20) lh, rbox w.heap.size 25 #[.slice aM ms.length cM, .slice aT ts.length cT], rrwsl lo3 hi3 rows, rsl vEncS 1 lo3 hi3 (.slice ak rows.length cak) (rows.map (·.1)), rsl intEnc 1 lo3 hi3 (.slice af lf.length caf) lf, rsl intEnc 1 lo3 hi3 (.slice aw lw.length caw) lw, rsl intEnc 1 lo3 hi3 (.slice ah lh.length cah) lh, rafs lo hi ts, rsl tskEnc 8 lo hi (.slice aT ts.length cT) ts, rsl mchEnc 3 lo hi (.slice aM ms.length cM) ms] w_) #[true, true, true, true, true, true, true, true, true, true, true, true, true, true, true, true, true, true, false, false, false, false, false, false, false, false] 8 ?st67 ?nx67
        case st67 =>
          rintro t w68 ⟨yg9, yg10, yc10, e1, e3, e7, e8, e31, e32, e41, e45, e48, hsz67, F69⟩
          clear F40
          rw [rng_siteOf_c t, e1, e3, e7, e8, e31, e32, e41, e45, e48]
          clear e1 e3 e7 e8 e31 e32 e41 e45 e48
          have hws67 := F69.gb.size
          have yg10l := (F69.ltAt 0 rfl _ rfl).1
          have yg9l := F69.ltAt 1 rfl yg9 rfl
          have yg9b := yg9l.2 rfl
          have yg14l := F69.ltAt 3 rfl yg14 rfl
          have yg14b := yg14l.2 rfl
          have yg12l := (F69.ltAt 4 rfl _ rfl).1
          have yg8l := (F69.ltAt 5 rfl _ rfl).1
          refine ru_one 18 rfl (by kernel_rfl) (fun K hK => ?_)
          go_simp
          have F70 := F69.new 3 #[.int .i64 (24 * (c.nd : Int) + 1)] (n := w68.heap.size) (by simp)
          clear F69
          refine ru_back hK (by exact ⟨F70.cl 4 7 rfl rfl, F70.cl 4 8 rfl rfl⟩) (fun _ => ?_)
          exact hZ59.out _ _ _ (by kernel_rfl) (by kernel_rfl) rfl ⟨yg9, yg10, yc10, w68.heap.size, (by kernel_rfl), (by kernel_rfl), (by kernel_rfl), (by kernel_rfl), (by kernel_rfl), (by kernel_rfl), (by kernel_rfl), (by kernel_rfl), (by kernel_rfl), (by first | omega | (simp; done) | (simp; omega)), F70⟩
        intro hZ67
        refine ru_state 56 (fun t w_ => ∃ (yg9 : Nat) (yg18 : Nat), t 1 = .int .i64 (c.nd : Int) ∧ t 3 = .pointer (some ⟨w.heap.size, 0, none⟩) ∧ t 7 = .pointer (some ⟨yg14, 0, none⟩) ∧ t 8 = .int .i64 (k : Int) ∧ t 31 = .pointer (some ⟨yg14, 0, none⟩) ∧ t 32 = .pointer (some ⟨yg14, 0, none⟩) ∧ t 36 = vb ∧ t 40 = .slice (some ⟨yg9, 0, none⟩) 1 1 ∧ t 45 = ve ∧ t 49 = .slice (some ⟨yg18, 0, none⟩) 1 1 ∧ w33.heap.size ≤ w_.heap.size ∧ Bun w [rbox yg18 3 #[.int .i64 (24 * (c.nd : Int) + 1)], rbox yg9 3 #[.int .i64 (24 * (c.nd : Int) + 1)], rown intEnc 3 1 w.heap.size vb (List.replicate k (24 * (c.nd : Int) + 1)), rown intEnc 3 1 w.heap.size ve (List.replicate k (24 * (c.nd : Int) + 1)), rbox yg14 58 #[.slice aM ms.length cM, .slice aT ts.length cT, .slice ah lh.length cah, .slice aw lw.length caw, .slice af lf.length caf, .slice ak rows.length cak, .slice olq20 lh.length ocq20, vb, ve, .slice (some ⟨yg8, 0, none⟩) ts.length ts.length, .slice (some ⟨yg12, 0, none⟩) ts.length ts.length], rown boEnc 4 1 w.heap.size (.slice (some ⟨yg12, 0, none⟩) ts.length ts.length) (List.replicate ts.length false), rown boEnc 4 1 w.heap.size (.slice (some ⟨yg8, 0, none⟩) ts.length ts.length) (List.replicate ts.length false), rown intEnc 3 1 w.heap.size (.slice olq20 lh.length ocq20) lh, rbox w.heap.size 25 #[.slice aM ms.length cM, .slice aT ts.length cT], rrwsl lo3 hi3 rows, rsl vEncS 1 lo3 hi3 (.slice ak rows.length cak) (rows.map (·.1)), rsl intEnc 1 lo3 hi3 (.slice af lf.length caf) lf, rsl intEnc 1 lo3 hi3 (.slice aw lw.length caw) lw, rsl intEnc 1 lo3 hi3 (.slice ah lh.length cah) lh, rafs lo hi ts, rsl tskEnc 8 lo hi (.slice aT ts.length cT) ts, rsl mchEnc 3 lo hi (.slice aM ms.length cM) ms] w_) #[true, true, true, true, true, true, true, true, true, true, false, true, true, true, true, true, true, true, true, false, false, false, false, false, false, false] 8 ?st71 ?nx71
        case st71 =>
          rintro t w72 ⟨yg9, yg18, e1, e3, e7, e8, e31, e32, e36, e40, e45, e49, hsz71, F73⟩
          clear F40
          rw [rng_siteOf_c t, e1, e3, e7, e8, e31, e32, e36, e40, e45, e49]
          clear e1 e3 e7 e8 e31 e32 e36 e40 e45 e49
          have hws71 := F73.gb.size
          have yg18l := F73.ltAt 0 rfl yg18 rfl
          have yg18b := yg18l.2 rfl
          have yg9l := F73.ltAt 1 rfl yg9 rfl
          have yg9b := yg9l.2 rfl
          have yg14l := F73.ltAt 4 rfl yg14 rfl
          have yg14b := yg14l.2 rfl
          have yg12l := (F73.ltAt 5 rfl _ rfl).1
          have yg8l := (F73.ltAt 6 rfl _ rfl).1
          refine ru_one 10 rfl (by kernel_rfl) (fun K hK => ?_)
          refine step_app _ okInt rfl _ _ rfl w.heap.size vb (List.replicate k (24 * (c.nd : Int) + 1)) [24 * (c.nd : Int) + 1] rfl (by exact (F73.at 2 rfl : Own intEnc 3 1 w.heap.size _ vb (List.replicate k (24 * (c.nd : Int) + 1)))) ⟨_, 0, none⟩ 1 1 rfl rfl (by decide) (news_of (F73.at 1 rfl : Bk _ yg9 3 #[.int .i64 (24 * (c.nd : Int) + 1)])) (k + 1) (by rw [List.length_replicate]) (by omega) (by first | omega | (simp; omega)) _ rfl ?_
          intro g74 cap75 w76 hp77
          have hp77s := hp77.gb.size
          (try simp at hp77s)
          have F78 := (F73.front 2 rfl rfl).app hp77 (Nat.le_refl _)
          clear F73
          refine ru_back hK (by exact ⟨F78.cl 4 7 rfl rfl, F78.cl 4 8 rfl rfl⟩) (fun _ => ?_)
          exact hZ59.out _ _ _ (by kernel_rfl) (by kernel_rfl) rfl ⟨yg9, g74, cap75, yg18, (by kernel_rfl), (by kernel_rfl), (by kernel_rfl), (by kernel_rfl), (by kernel_rfl), (by kernel_rfl), (by kernel_rfl), (by kernel_rfl), (by kernel_rfl), (by first | omega | (simp; done) | (simp; omega)), (F78.pick [1, 0, 2, 3, 4, 5, 6, 7, 8, 9, 10, 11, 12, 13, 14, 15, 16] (by decide) rfl)⟩
        intro hZ71
        refine ru_state 56 (fun t w_ => ∃ (yg9 : Nat), t 1 = .int .i64 (c.nd : Int) ∧ t 3 = .pointer (some ⟨w.heap.size, 0, none⟩) ∧ t 7 = .pointer (some ⟨yg14, 0, none⟩) ∧ t 8 = .int .i64 (k : Int) ∧ t 31 = .pointer (some ⟨yg14, 0, none⟩) ∧ t 32 = .pointer (some ⟨yg14, 0, none⟩) ∧ t 36 = vb ∧ t 40 = .slice (some ⟨yg9, 0, none⟩) 1 1 ∧ t 45 = ve ∧ t 48 = .int .i64 (24 * (c.nd : Int) + 1) ∧ w33.heap.size ≤ w_.heap.size ∧ Bun w [rbox yg9 3 #[.int .i64 (24 * (c.nd : Int) + 1)], rown intEnc 3 1 w.heap.size vb (List.replicate k (24 * (c.nd : Int) + 1)), rown intEnc 3 1 w.heap.size ve (List.replicate k (24 * (c.nd : Int) + 1)), rbox yg14 58 #[.slice aM ms.length cM, .slice aT ts.length cT, .slice ah lh.length cah, .slice aw lw.length caw, .slice af lf.length caf, .slice ak rows.length cak, .slice olq20 lh.length ocq20, vb, ve, .slice (some ⟨yg8, 0, none⟩) ts.length ts.length, .slice (some ⟨yg12, 0, none⟩) ts.length ts.length], rown boEnc 4 1 w.heap.size (.slice (some ⟨yg12, 0, none⟩) ts.length ts.length) (List.replicate ts.length false), rown boEnc 4 1 w.heap.size (.slice (some ⟨yg8, 0, none⟩) ts.length ts.length) (List.replicate ts.length false), rown intEnc 3 1 w.heap.size (.slice olq20 lh.length ocq20) lh, rbox w.heap.size 25 #[.slice aM ms.length cM, .slice aT ts.length cT], rrwsl lo3 hi3 rows, rsl vEncS 1 lo3 hi3 (.slice ak rows.length cak) (rows.map (·.1)), rsl intEnc 1 lo3 hi3 (.slice af lf.length caf) lf, rsl intEnc 1 lo3 hi3 (.slice aw lw.length caw) lw, rsl intEnc 1 lo3 hi3 (.slice ah lh.length cah) lh, rafs lo hi ts, rsl tskEnc 8 lo hi (.slice aT ts.length cT) ts, rsl mchEnc 3 lo hi (.slice aM ms.length cM) ms] w_) #[true, true, true, true, true, true, true, true, true, true, false, true, true, true, true, true, true, true, false, false, false, false, false, false, false, false] 9 ?st79 ?nx79
        case st79 =>
          rintro t w80 ⟨yg9, e1, e3, e7, e8, e31, e32, e36, e40, e45, e48, hsz79, F81⟩
          clear F40
          rw [rng_siteOf_c t, e1, e3, e7, e8, e31, e32, e36, e40, e45, e48]
          clear e1 e3 e7 e8 e31 e32 e36 e40 e45 e48
          have hws79 := F81.gb.size
          have yg9l := F81.ltAt 0 rfl yg9 rfl
          have yg9b := yg9l.2 rfl
          have yg14l := F81.ltAt 3 rfl yg14 rfl
          have yg14b := yg14l.2 rfl
          have yg12l := (F81.ltAt 4 rfl _ rfl).1
          have yg8l := (F81.ltAt 5 rfl _ rfl).1
          refine ru_two 10 18 rfl rfl (by kernel_rfl) ?_ ?_
          · intro K hK
            refine step_app _ okInt rfl _ _ rfl w.heap.size vb (List.replicate k (24 * (c.nd : Int) + 1)) [24 * (c.nd : Int) + 1] rfl (by exact (F81.at 1 rfl : Own intEnc 3 1 w.heap.size _ vb (List.replicate k (24 * (c.nd : Int) + 1)))) ⟨_, 0, none⟩ 1 1 rfl rfl (by decide) (news_of (F81.at 0 rfl : Bk _ yg9 3 #[.int .i64 (24 * (c.nd : Int) + 1)])) (k + 1) (by rw [List.length_replicate]) (by omega) (by first | omega | (simp; omega)) _ rfl ?_
            intro g82 cap83 w84 hp85
            have hp85s := hp85.gb.size
            (try simp at hp85s)
            have F86 := (F81.front 1 rfl rfl).app hp85 (Nat.le_refl _)
            clear F81
            refine ru_back hK (by exact ⟨F86.cl 3 7 rfl rfl, F86.cl 3 8 rfl rfl⟩) (fun _ => ?_)
            exact hZ67.out _ _ _ (by kernel_rfl) (by kernel_rfl) rfl ⟨yg9, g82, cap83, (by kernel_rfl), (by kernel_rfl), (by kernel_rfl), (by kernel_rfl), (by kernel_rfl), (by kernel_rfl), (by kernel_rfl), (by kernel_rfl), (by kernel_rfl), (by first | omega | (simp; done) | (simp; omega)), F86⟩
          · intro K hK
            go_simp
            have F87 := F81.new 3 #[.int .i64 (24 * (c.nd : Int) + 1)] (n := w80.heap.size) (by simp)
            clear F81
            refine ru_back hK (by exact ⟨F87.cl 4 7 rfl rfl, F87.cl 4 8 rfl rfl⟩) (fun _ => ?_)
            exact hZ71.out _ _ _ (by kernel_rfl) (by kernel_rfl) rfl ⟨yg9, w80.heap.size, (by kernel_rfl), (by kernel_rfl), (by kernel_rfl), (by kernel_rfl), (by kernel_rfl), (by kernel_rfl), (by kernel_rfl), (by kernel_rfl), (by kernel_rfl), (by kernel_rfl), (by first | omega | (simp; done) | (simp; omega)), F87⟩
        intro hZ79
        refine ru_state 56 (fun t w_ => ∃ (yg18 : Nat), t 1 = .int .i64 (c.nd : Int) ∧ t 3 = .pointer (some ⟨w.heap.size, 0, none⟩) ∧ t 7 = .pointer (some ⟨yg14, 0, none⟩) ∧ t 8 = .int .i64 (k : Int) ∧ t 31 = .pointer (some ⟨yg14, 0, none⟩) ∧ t 32 = .pointer (some ⟨yg14, 0, none⟩) ∧ t 36 = vb ∧ t 39 = .int .i64 (24 * (c.nd : Int) + 1) ∧ t 45 = ve ∧ t 49 = .slice (some ⟨yg18, 0, none⟩) 1 1 ∧ w33.heap.size ≤ w_.heap.size ∧ Bun w [rbox yg18 3 #[.int .i64 (24 * (c.nd : Int) + 1)], rown intEnc 3 1 w.heap.size vb (List.replicate k (24 * (c.nd : Int) + 1)), rown intEnc 3 1 w.heap.size ve (List.replicate k (24 * (c.nd : Int) + 1)), rbox yg14 58 #[.slice aM ms.length cM, .slice aT ts.length cT, .slice ah lh.length cah, .slice aw lw.length caw, .slice af lf.length caf, .slice ak rows.length cak, .slice olq20 lh.length ocq20, vb, ve, .slice (some ⟨yg8, 0, none⟩) ts.length ts.length, .slice (some ⟨yg12, 0, none⟩) ts.length ts.length], rown boEnc 4 1 w.heap.size (.slice (some ⟨yg12, 0, none⟩) ts.length ts.length) (List.replicate ts.length false), rown boEnc 4 1 w.heap.size (.slice (some ⟨yg8, 0, none⟩) ts.length ts.length) (List.replicate ts.length false), rown intEnc 3 1 w.heap.size (.slice olq20 lh.length ocq20) lh, rbox w.heap.size 25 #[.slice aM ms.length cM, .slice aT ts.length cT], rrwsl lo3 hi3 rows, rsl vEncS 1 lo3 hi3 (.slice ak rows.length cak) (rows.map (·.1)), rsl intEnc 1 lo3 hi3 (.slice af lf.length caf) lf, rsl intEnc 1 lo3 hi3 (.slice aw lw.length caw) lw, rsl intEnc 1 lo3 hi3 (.slice ah lh.length cah) lh, rafs lo hi ts, rsl tskEnc 8 lo hi (.slice aT ts.length cT) ts, rsl mchEnc 3 lo hi (.slice aM ms.length cM) ms] w_) #[true, true, true, true, true, true, true, true, true, false, false, true, true, true, true, true, true, true, true, false, false, false, false, false, false, false] 9 ?st88 ?nx88
        case st88 =>
          rintro t w89 ⟨yg18, e1, e3, e7, e8, e31, e32, e36, e39, e45, e49, hsz88, F90⟩
          clear F40
          rw [rng_siteOf_c t, e1, e3, e7, e8, e31, e32, e36, e39, e45, e49]
          clear e1 e3 e7 e8 e31 e32 e36 e39 e45 e49
          have hws88 := F90.gb.size
          have yg18l := F90.ltAt 0 rfl yg18 rfl
          have yg18b := yg18l.2 rfl
          have yg14l := F90.ltAt 3 rfl yg14 rfl
          have yg14b := yg14l.2 rfl
          have yg12l := (F90.ltAt 4 rfl _ rfl).1
          have yg8l := (F90.ltAt 5 rfl _ rfl).1
          refine ru_one 9 rfl (by kernel_rfl) (fun K hK => ?_)
          go_simp
          have F91 := F90.new 3 #[.int .i64 (24 * (c.nd : Int) + 1)] (n := w89.heap.size) (by simp)
          clear F90
          refine ru_back hK (by exact ⟨F91.cl 4 7 rfl rfl, F91.cl 4 8 rfl rfl⟩) (fun _ => ?_)
          exact hZ71.out _ _ _ (by kernel_rfl) (by kernel_rfl) rfl ⟨w89.heap.size, yg18, (by kernel_rfl), (by kernel_rfl), (by kernel_rfl), (by kernel_rfl), (by kernel_rfl), (by kernel_rfl), (by kernel_rfl), (by kernel_rfl), (by kernel_rfl), (by kernel_rfl), (by first | omega | (simp; done) | (simp; omega)), (F91.pick [1, 0, 2, 3, 4, 5, 6, 7, 8, 9, 10, 11, 12, 13, 14, 15, 16] (by decide) rfl)⟩
        intro hZ88
        refine ru_two 9 18 rfl rfl (by kernel_rfl) ?_ ?_
        · intro K hK
          go_simp
          have F92 := F40.new 3 #[.int .i64 (24 * (c.nd : Int) + 1)] (n := wd42.heap.size) (by simp)
          clear F40
          refine ru_back hK (by exact ⟨F92.cl 3 7 rfl rfl, F92.cl 3 8 rfl rfl⟩) (fun _ => ?_)
          exact hZ79.out _ _ _ (by kernel_rfl) (by kernel_rfl) rfl ⟨wd42.heap.size, (by kernel_rfl), (by kernel_rfl), (by kernel_rfl), (by kernel_rfl), (by kernel_rfl), (by kernel_rfl), (by kernel_rfl), (by kernel_rfl), (by kernel_rfl), (by kernel_rfl), (by first | omega | (simp; done) | (simp; omega)), F92⟩
        · intro K hK
          go_simp
          have F93 := F40.new 3 #[.int .i64 (24 * (c.nd : Int) + 1)] (n := wd42.heap.size) (by simp)
          clear F40
          refine ru_back hK (by exact ⟨F93.cl 3 7 rfl rfl, F93.cl 3 8 rfl rfl⟩) (fun _ => ?_)
          exact hZ88.out _ _ _ (by kernel_rfl) (by kernel_rfl) rfl ⟨wd42.heap.size, (by kernel_rfl), (by kernel_rfl), (by kernel_rfl), (by kernel_rfl), (by kernel_rfl), (by kernel_rfl), (by kernel_rfl), (by kernel_rfl), (by kernel_rfl), (by kernel_rfl), (by first | omega | (simp; done) | (simp; omega)), F93⟩
      · skip
        have c34H := Lib.hid c34
        have c34a : decide ((k : Int) < (ts.length : Int)) = false := dec_f c34
        have b94 := hF31.bx2 6 rfl
        go_wp2_with fail
        clear b94
        have F95 : Bun w [rbox yg14 58 #[.slice aM ms.length cM, .slice aT ts.length cT, .slice ah lh.length cah, .slice aw lw.length caw, .slice af lf.length caf, .slice ak rows.length cak, .slice olq20 lh.length ocq20, vb, ve, .slice (some ⟨yg8, 0, none⟩) ts.length ts.length, .slice (some ⟨yg12, 0, none⟩) ts.length ts.length], rown intEnc 3 1 w.heap.size (.slice olq20 lh.length ocq20) lh, rown intEnc 3 1 w.heap.size vb (List.replicate k (24 * (c.nd : Int) + 1)), rown intEnc 3 1 w.heap.size ve (List.replicate k (24 * (c.nd : Int) + 1)), rown boEnc 4 1 w.heap.size (.slice (some ⟨yg8, 0, none⟩) ts.length ts.length) (List.replicate ts.length false), rown boEnc 4 1 w.heap.size (.slice (some ⟨yg12, 0, none⟩) ts.length ts.length) (List.replicate ts.length false)] _ := hF31.pick [2, 5, 0, 1, 4, 3] (by decide) rfl
        clear hF31
        exact bodyPost_ret (v := .pointer (some ⟨yg14, 0, none⟩)) (by simp [results, Try.results67, go_sem]) rfl ((by obtain rfl : k = ts.length := (by omega); have h_ := F95; exact site_post HSO.out HCS.out.ho h_))
    case atStart1 =>
      rw [HI30.out]
      exact ⟨0, _, _, (by first | kernel_rfl | rfl), (by first | kernel_rfl | rfl), (by first | kernel_rfl | rfl), rfl, Nat.zero_le _, rfl, (by first | exact Nat.le_refl _ | omega | (simp; done) | (simp; omega)), F29⟩
  intro hZ21
  refine ru_state 56 (fun t w_ => ∃ (olq20 : Option Addr) (ocq20 : Nat) (yg8 : Nat) (yg12 : Nat) (yg14 : Nat), t 1 = .int .i64 (c.nd : Int) ∧ t 3 = .pointer (some ⟨w.heap.size, 0, none⟩) ∧ t 23 = .pointer (some ⟨yg14, 0, none⟩) ∧ w13.heap.size ≤ w_.heap.size ∧ Bun w [rbox yg14 58 #[.slice aM ms.length cM, .slice aT ts.length cT, .slice ah lh.length cah, .slice aw lw.length caw, .slice af lf.length caf, .slice ak rows.length cak, .slice olq20 lh.length ocq20, .slice none 0 0, .slice none 0 0, .slice (some ⟨yg8, 0, none⟩) ts.length ts.length, .slice (some ⟨yg12, 0, none⟩) ts.length ts.length], rown boEnc 4 1 w.heap.size (.slice (some ⟨yg12, 0, none⟩) ts.length ts.length) (List.replicate ts.length false), rown boEnc 4 1 w.heap.size (.slice (some ⟨yg8, 0, none⟩) ts.length ts.length) (List.replicate ts.length false), rown intEnc 3 1 w.heap.size (.slice olq20 lh.length ocq20) lh, rbox (w.heap.size + 1) 51 #[.slice ah lh.length cah, .slice aw lw.length caw, .slice af lf.length caf, .slice ak rows.length cak], rbox w.heap.size 25 #[.slice aM ms.length cM, .slice aT ts.length cT], rrwsl lo3 hi3 rows, rsl vEncS 1 lo3 hi3 (.slice ak rows.length cak) (rows.map (·.1)), rsl intEnc 1 lo3 hi3 (.slice af lf.length caf) lf, rsl intEnc 1 lo3 hi3 (.slice aw lw.length caw) lw, rsl intEnc 1 lo3 hi3 (.slice ah lh.length cah) lh, rafs lo hi ts, rsl tskEnc 8 lo hi (.slice aT ts.length cT) ts, rsl mchEnc 3 lo hi (.slice aM ms.length cM) ms] w_) #[true, true, true, true, true, true, true, true, true, true, true, true, true, true, true, false] 1 ?st96 ?nx96
  case st96 =>
    rintro t w97 ⟨olq20, ocq20, yg8, yg12, yg14, e1, e3, e23, hsz96, F98⟩
    clear F17
    rw [rng_siteOf_c t, e1, e3, e23]
    clear e1 e3 e23
    have hws96 := F98.gb.size
    have yg14l := F98.ltAt 0 rfl yg14 rfl
    have yg14b := yg14l.2 rfl
    have yg12l := (F98.ltAt 1 rfl _ rfl).1
    have yg8l := (F98.ltAt 2 rfl _ rfl).1
    refine ru_one 15 rfl (by kernel_rfl) (fun K hK => ?_)
    go_simp
    refine ru_back_late hK (by kernel_rfl) ?_
    exact hZ21.out _ _ _ (by kernel_rfl) (by kernel_rfl) rfl ⟨olq20, ocq20, yg8, yg12, yg14, (by kernel_rfl), (by kernel_rfl), (by kernel_rfl), (by first | omega | (simp; done) | (simp; omega)), F98⟩
  intro hZ96
  refine ru_state 56 (fun t w_ => ∃ (olq20 : Option Addr) (ocq20 : Nat) (yg8 : Nat) (yg12 : Nat), t 1 = .int .i64 (c.nd : Int) ∧ t 3 = .pointer (some ⟨w.heap.size, 0, none⟩) ∧ t 22 = .agg #[.slice aM ms.length cM, .slice aT ts.length cT, .slice ah lh.length cah, .slice aw lw.length caw, .slice af lf.length caf, .slice ak rows.length cak, .slice olq20 lh.length ocq20, .slice none 0 0, .slice none 0 0, .slice (some ⟨yg8, 0, none⟩) ts.length ts.length, .slice (some ⟨yg12, 0, none⟩) ts.length ts.length] ∧ w13.heap.size ≤ w_.heap.size ∧ Bun w [rown boEnc 4 1 w.heap.size (.slice (some ⟨yg12, 0, none⟩) ts.length ts.length) (List.replicate ts.length false), rown boEnc 4 1 w.heap.size (.slice (some ⟨yg8, 0, none⟩) ts.length ts.length) (List.replicate ts.length false), rown intEnc 3 1 w.heap.size (.slice olq20 lh.length ocq20) lh, rbox (w.heap.size + 1) 51 #[.slice ah lh.length cah, .slice aw lw.length caw, .slice af lf.length caf, .slice ak rows.length cak], rbox w.heap.size 25 #[.slice aM ms.length cM, .slice aT ts.length cT], rrwsl lo3 hi3 rows, rsl vEncS 1 lo3 hi3 (.slice ak rows.length cak) (rows.map (·.1)), rsl intEnc 1 lo3 hi3 (.slice af lf.length caf) lf, rsl intEnc 1 lo3 hi3 (.slice aw lw.length caw) lw, rsl intEnc 1 lo3 hi3 (.slice ah lh.length cah) lh, rafs lo hi ts, rsl tskEnc 8 lo hi (.slice aT ts.length cT) ts, rsl mchEnc 3 lo hi (.slice aM ms.length cM) ms] w_) #[true, true, true, true, true, true, true, true, true, true, true, true, true, true, false, false] 2 ?st99 ?nx99
  case st99 =>
    rintro t w100 ⟨olq20, ocq20, yg8, yg12, e1, e3, e22, hsz99, F101⟩
    clear F17
    rw [rng_siteOf_c t, e1, e3, e22]
    clear e1 e3 e22
    have hws99 := F101.gb.size
    have yg12l := (F101.ltAt 0 rfl _ rfl).1
    have yg8l := (F101.ltAt 1 rfl _ rfl).1
    refine ru_one 14 rfl (by kernel_rfl) (fun K hK => ?_)
    go_simp
    have F102 := F101.new 58 #[.slice aM ms.length cM, .slice aT ts.length cT, .slice ah lh.length cah, .slice aw lw.length caw, .slice af lf.length caf, .slice ak rows.length cak, .slice olq20 lh.length ocq20, .slice none 0 0, .slice none 0 0, .slice (some ⟨yg8, 0, none⟩) ts.length ts.length, .slice (some ⟨yg12, 0, none⟩) ts.length ts.length] (n := w100.heap.size) (by simp)
    clear F101
    refine ru_back hK (by exact ⟨F102.cl 5 0 rfl rfl, F102.cl 5 1 rfl rfl, F102.cl 4 0 rfl rfl, F102.cl 4 1 rfl rfl, F102.cl 4 2 rfl rfl, F102.cl 4 3 rfl rfl⟩) (fun _ => ?_)
    exact hZ96.out _ _ _ (by kernel_rfl) (by kernel_rfl) rfl ⟨olq20, ocq20, yg8, yg12, w100.heap.size, (by kernel_rfl), (by kernel_rfl), (by kernel_rfl), (by first | omega | (simp; done) | (simp; omega)), F102⟩
  intro hZ99
  refine ru_state 56 (fun t w_ => ∃ (olq20 : Option Addr) (ocq20 : Nat) (yg8 : Nat), t 1 = .int .i64 (c.nd : Int) ∧ t 3 = .pointer (some ⟨w.heap.size, 0, none⟩) ∧ t 9 = .agg #[.slice aM ms.length cM, .slice aT ts.length cT] ∧ t 10 = .agg #[.slice ah lh.length cah, .slice aw lw.length caw, .slice af lf.length caf, .slice ak rows.length cak] ∧ t 13 = .slice olq20 lh.length ocq20 ∧ t 17 = .slice (some ⟨yg8, 0, none⟩) ts.length ts.length ∧ t 20 = .int .i64 (ts.length : Int) ∧ w13.heap.size ≤ w_.heap.size ∧ Bun w [rown boEnc 4 1 w.heap.size (.slice (some ⟨yg8, 0, none⟩) ts.length ts.length) (List.replicate ts.length false), rown intEnc 3 1 w.heap.size (.slice olq20 lh.length ocq20) lh, rbox (w.heap.size + 1) 51 #[.slice ah lh.length cah, .slice aw lw.length caw, .slice af lf.length caf, .slice ak rows.length cak], rbox w.heap.size 25 #[.slice aM ms.length cM, .slice aT ts.length cT], rrwsl lo3 hi3 rows, rsl vEncS 1 lo3 hi3 (.slice ak rows.length cak) (rows.map (·.1)), rsl intEnc 1 lo3 hi3 (.slice af lf.length caf) lf, rsl intEnc 1 lo3 hi3 (.slice aw lw.length caw) lw, rsl intEnc 1 lo3 hi3 (.slice ah lh.length cah) lh, rafs lo hi ts, rsl tskEnc 8 lo hi (.slice aT ts.length cT) ts, rsl mchEnc 3 lo hi (.slice aM ms.length cM) ms] w_) #[true, true, true, true, true, true, true, true, true, true, true, true, false, false, false, false] 4 ?st103 ?nx103
  case st103 =>
    rintro t w104 ⟨olq20, ocq20, yg8, e1, e3, e9, e10, e13, e17, e20, hsz103, F105⟩
    clear F17
    rw [rng_siteOf_c t, e1, e3, e9, e10, e13, e17, e20]
    clear e1 e3 e9 e10 e13 e17 e20
    have hws103 := F105.gb.size
    have yg8l := (F105.ltAt 0 rfl _ rfl).1
    refine ru_one 12 rfl (by kernel_rfl) (fun K hK => ?_)
    refine step_mkBool rfl _ _ rfl ts.length (by kernel_rfl) (by kernel_rfl) F105 (by omega) ?_
    intro gm106 w107 hB108 hs109
    (try simp at hs109)
    have F110 := hB108
    clear F105
    refine ru_back hK (by exact ⟨F110.cl 4 0 rfl rfl, F110.cl 4 1 rfl rfl, F110.cl 3 0 rfl rfl, F110.cl 3 1 rfl rfl, F110.cl 3 2 rfl rfl, F110.cl 3 3 rfl rfl⟩) (fun hHeld => ?_)
    clear hK K
    (try simp only [Act.put, List.setIfInBounds_toArray, List.set_cons_zero, List.set_cons_succ])
    refine ru_p 13 ?_
    (try simp only [Act.put, List.setIfInBounds_toArray, List.set_cons_zero, List.set_cons_succ])
    exact hZ99.out _ _ _ (by kernel_rfl) (by kernel_rfl) rfl ⟨olq20, ocq20, yg8, gm106, (by kernel_rfl), (by kernel_rfl), (by kernel_rfl), (by first | omega | (simp; done) | (simp; omega)), F110⟩
  intro hZ103
  refine ru_state 56 (fun t w_ => ∃ (olq20 : Option Addr) (ocq20 : Nat) (yg12 : Nat), t 1 = .int .i64 (c.nd : Int) ∧ t 3 = .pointer (some ⟨w.heap.size, 0, none⟩) ∧ t 9 = .agg #[.slice aM ms.length cM, .slice aT ts.length cT] ∧ t 10 = .agg #[.slice ah lh.length cah, .slice aw lw.length caw, .slice af lf.length caf, .slice ak rows.length cak] ∧ t 13 = .slice olq20 lh.length ocq20 ∧ t 16 = .int .i64 (ts.length : Int) ∧ t 21 = .slice (some ⟨yg12, 0, none⟩) ts.length ts.length ∧ w13.heap.size ≤ w_.heap.size ∧ Bun w [rown boEnc 4 1 w.heap.size (.slice (some ⟨yg12, 0, none⟩) ts.length ts.length) (List.replicate ts.length false), rown intEnc 3 1 w.heap.size (.slice olq20 lh.length ocq20) lh, rbox (w.heap.size + 1) 51 #[.slice ah lh.length cah, .slice aw lw.length caw, .slice af lf.length caf, .slice ak rows.length cak], rbox w.heap.size 25 #[.slice aM ms.length cM, .slice aT ts.length cT], rrwsl lo3 hi3 rows, rsl vEncS 1 lo3 hi3 (.slice ak rows.length cak) (rows.map (·.1)), rsl intEnc 1 lo3 hi3 (.slice af lf.length caf) lf, rsl intEnc 1 lo3 hi3 (.slice aw lw.length caw) lw, rsl intEnc 1 lo3 hi3 (.slice ah lh.length cah) lh, rafs lo hi ts, rsl tskEnc 8 lo hi (.slice aT ts.length cT) ts, rsl mchEnc 3 lo hi (.slice aM ms.length cM) ms] w_) #[true, true, true, true, true, true, true, true, false, true, true, true, true, false, false, false] 4 ?st111 ?nx111
  case st111 =>
    rintro t w112 ⟨olq20, ocq20, yg12, e1, e3, e9, e10, e13, e16, e21, hsz111, F113⟩
    clear F17
    rw [rng_siteOf_c t, e1, e3, e9, e10, e13, e16, e21]
    clear e1 e3 e9 e10 e13 e16 e21
    have hws111 := F113.gb.size
    have yg12l := (F113.ltAt 0 rfl _ rfl).1
    refine ru_one 8 rfl (by kernel_rfl) (fun K hK => ?_)
    refine step_mkBool rfl _ _ rfl ts.length (by kernel_rfl) (by kernel_rfl) F113 (by omega) ?_
    intro gm114 w115 hB116 hs117
    (try simp at hs117)
    have F118 := hB116
    clear F113
    refine ru_back hK (by exact ⟨F118.cl 4 0 rfl rfl, F118.cl 4 1 rfl rfl, F118.cl 3 0 rfl rfl, F118.cl 3 1 rfl rfl, F118.cl 3 2 rfl rfl, F118.cl 3 3 rfl rfl⟩) (fun hHeld => ?_)
    clear hK K
    (try simp only [Act.put, List.setIfInBounds_toArray, List.set_cons_zero, List.set_cons_succ])
    refine ru_p 13 ?_
    (try simp only [Act.put, List.setIfInBounds_toArray, List.set_cons_zero, List.set_cons_succ])
    exact hZ99.out _ _ _ (by kernel_rfl) (by kernel_rfl) rfl ⟨olq20, ocq20, gm114, yg12, (by kernel_rfl), (by kernel_rfl), (by kernel_rfl), (by first | omega | (simp; done) | (simp; omega)), (F118.pick [1, 0, 2, 3, 4, 5, 6, 7, 8, 9, 10, 11, 12] (by decide) rfl)⟩
  intro hZ111
  refine ru_state 56 (fun t w_ => ∃ (yg8 : Nat) (yg12 : Nat), t 1 = .int .i64 (c.nd : Int) ∧ t 3 = .pointer (some ⟨w.heap.size, 0, none⟩) ∧ t 9 = .agg #[.slice aM ms.length cM, .slice aT ts.length cT] ∧ t 10 = .agg #[.slice ah lh.length cah, .slice aw lw.length caw, .slice af lf.length caf, .slice ak rows.length cak] ∧ t 12 = .slice ah lh.length cah ∧ t 17 = .slice (some ⟨yg8, 0, none⟩) ts.length ts.length ∧ t 21 = .slice (some ⟨yg12, 0, none⟩) ts.length ts.length ∧ w13.heap.size ≤ w_.heap.size ∧ Bun w [rown boEnc 4 1 w.heap.size (.slice (some ⟨yg12, 0, none⟩) ts.length ts.length) (List.replicate ts.length false), rown boEnc 4 1 w.heap.size (.slice (some ⟨yg8, 0, none⟩) ts.length ts.length) (List.replicate ts.length false), rbox (w.heap.size + 1) 51 #[.slice ah lh.length cah, .slice aw lw.length caw, .slice af lf.length caf, .slice ak rows.length cak], rbox w.heap.size 25 #[.slice aM ms.length cM, .slice aT ts.length cT], rrwsl lo3 hi3 rows, rsl vEncS 1 lo3 hi3 (.slice ak rows.length cak) (rows.map (·.1)), rsl intEnc 1 lo3 hi3 (.slice af lf.length caf) lf, rsl intEnc 1 lo3 hi3 (.slice aw lw.length caw) lw, rsl intEnc 1 lo3 hi3 (.slice ah lh.length cah) lh, rafs lo hi ts, rsl tskEnc 8 lo hi (.slice aT ts.length cT) ts, rsl mchEnc 3 lo hi (.slice aM ms.length cM) ms] w_) #[true, true, true, true, false, true, true, true, true, true, true, true, true, false, false, false] 4 ?st119 ?nx119
  case st119 =>
    rintro t w120 ⟨yg8, yg12, e1, e3, e9, e10, e12, e17, e21, hsz119, F121⟩
    clear F17
    rw [rng_siteOf_c t, e1, e3, e9, e10, e12, e17, e21]
    clear e1 e3 e9 e10 e12 e17 e21
    have hws119 := F121.gb.size
    have yg12l := (F121.ltAt 0 rfl _ rfl).1
    have yg8l := (F121.ltAt 1 rfl _ rfl).1
    refine ru_one 4 rfl (by kernel_rfl) (fun K hK => ?_)
    go_simp
    refine (ownI_c lo3 hi3 w.heap.size _ lh _ (F121.at 8 rfl : Sl intEnc 1 lo3 hi3 _ (.slice ah lh.length cah) lh) (Nat.le_trans h4 F121.gb.size) (by have h_ := HL.out; omega) F121.gb.size).mono ?_
    rintro e w125 ⟨olq122, ocq122, rfl, hooq122, hoxq122, hg123⟩
    have hg123s := hg123.size
    (try simp at hg123s)
    have F126 := F121.add (rown intEnc 3 1 w.heap.size (.slice olq122 lh.length ocq122) lh) hg123 (hooq122) (fun g e => hoxq122 g e)
    clear F121
    refine ru_back hK (by exact ⟨F126.cl 4 0 rfl rfl, F126.cl 4 1 rfl rfl, F126.cl 3 0 rfl rfl, F126.cl 3 1 rfl rfl, F126.cl 3 2 rfl rfl, F126.cl 3 3 rfl rfl⟩) (fun hHeld => ?_)
    clear hK K
    (try simp only [Act.put, List.setIfInBounds_toArray, List.set_cons_zero, List.set_cons_succ])
    refine ru_p 13 ?_
    (try simp only [Act.put, List.setIfInBounds_toArray, List.set_cons_zero, List.set_cons_succ])
    exact hZ99.out _ _ _ (by kernel_rfl) (by kernel_rfl) rfl ⟨olq122, ocq122, yg8, yg12, (by kernel_rfl), (by kernel_rfl), (by kernel_rfl), (by first | omega | (simp; done) | (simp; omega)), (F126.pick [1, 2, 0, 3, 4, 5, 6, 7, 8, 9, 10, 11, 12] (by decide) rfl)⟩
  intro hZ119
  refine ru_state 56 (fun t w_ => ∃ (olq20 : Option Addr) (ocq20 : Nat), t 1 = .int .i64 (c.nd : Int) ∧ t 3 = .pointer (some ⟨w.heap.size, 0, none⟩) ∧ t 9 = .agg #[.slice aM ms.length cM, .slice aT ts.length cT] ∧ t 10 = .agg #[.slice ah lh.length cah, .slice aw lw.length caw, .slice af lf.length caf, .slice ak rows.length cak] ∧ t 13 = .slice olq20 lh.length ocq20 ∧ t 16 = .int .i64 (ts.length : Int) ∧ t 20 = .int .i64 (ts.length : Int) ∧ w13.heap.size ≤ w_.heap.size ∧ Bun w [rown intEnc 3 1 w.heap.size (.slice olq20 lh.length ocq20) lh, rbox (w.heap.size + 1) 51 #[.slice ah lh.length cah, .slice aw lw.length caw, .slice af lf.length caf, .slice ak rows.length cak], rbox w.heap.size 25 #[.slice aM ms.length cM, .slice aT ts.length cT], rrwsl lo3 hi3 rows, rsl vEncS 1 lo3 hi3 (.slice ak rows.length cak) (rows.map (·.1)), rsl intEnc 1 lo3 hi3 (.slice af lf.length caf) lf, rsl intEnc 1 lo3 hi3 (.slice aw lw.length caw) lw, rsl intEnc 1 lo3 hi3 (.slice ah lh.length cah) lh, rafs lo hi ts, rsl tskEnc 8 lo hi (.slice aT ts.length cT) ts, rsl mchEnc 3 lo hi (.slice aM ms.length cM) ms] w_) #[true, true, true, true, true, true, true, true, false, true, true, true, false, false, false, false] 5 ?st127 ?nx127
  case st127 =>
    rintro t w128 ⟨olq20, ocq20, e1, e3, e9, e10, e13, e16, e20, hsz127, F129⟩
    clear F17
    rw [rng_siteOf_c t, e1, e3, e9, e10, e13, e16, e20]
    clear e1 e3 e9 e10 e13 e16 e20
    have hws127 := F129.gb.size
    refine ru_two 8 12 rfl rfl (by kernel_rfl) ?_ ?_
    · intro K hK
      refine step_mkBool rfl _ _ rfl ts.length (by kernel_rfl) (by kernel_rfl) F129 (by omega) ?_
      intro gm130 w131 hB132 hs133
      (try simp at hs133)
      have F134 := hB132
      clear F129
      refine ru_back hK (by exact ⟨F134.cl 3 0 rfl rfl, F134.cl 3 1 rfl rfl, F134.cl 2 0 rfl rfl, F134.cl 2 1 rfl rfl, F134.cl 2 2 rfl rfl, F134.cl 2 3 rfl rfl⟩) (fun _ => ?_)
      exact hZ103.out _ _ _ (by kernel_rfl) (by kernel_rfl) rfl ⟨olq20, ocq20, gm130, (by kernel_rfl), (by kernel_rfl), (by kernel_rfl), (by kernel_rfl), (by kernel_rfl), (by kernel_rfl), (by kernel_rfl), (by first | omega | (simp; done) | (simp; omega)), F134⟩
    · intro K hK
      refine step_mkBool rfl _ _ rfl ts.length (by kernel_rfl) (by kernel_rfl) F129 (by omega) ?_
      intro gm135 w136 hB137 hs138
      (try simp at hs138)
      have F139 := hB137
      clear F129
      refine ru_back hK (by exact ⟨F139.cl 3 0 rfl rfl, F139.cl 3 1 rfl rfl, F139.cl 2 0 rfl rfl, F139.cl 2 1 rfl rfl, F139.cl 2 2 rfl rfl, F139.cl 2 3 rfl rfl⟩) (fun _ => ?_)
      exact hZ111.out _ _ _ (by kernel_rfl) (by kernel_rfl) rfl ⟨olq20, ocq20, gm135, (by kernel_rfl), (by kernel_rfl), (by kernel_rfl), (by kernel_rfl), (by kernel_rfl), (by kernel_rfl), (by kernel_rfl), (by first | omega | (simp; done) | (simp; omega)), F139⟩
  intro hZ127
  refine ru_state 56 (fun t w_ => ∃ (yg8 : Nat), t 1 = .int .i64 (c.nd : Int) ∧ t 3 = .pointer (some ⟨w.heap.size, 0, none⟩) ∧ t 9 = .agg #[.slice aM ms.length cM, .slice aT ts.length cT] ∧ t 10 = .agg #[.slice ah lh.length cah, .slice aw lw.length caw, .slice af lf.length caf, .slice ak rows.length cak] ∧ t 12 = .slice ah lh.length cah ∧ t 17 = .slice (some ⟨yg8, 0, none⟩) ts.length ts.length ∧ t 20 = .int .i64 (ts.length : Int) ∧ w13.heap.size ≤ w_.heap.size ∧ Bun w [rown boEnc 4 1 w.heap.size (.slice (some ⟨yg8, 0, none⟩) ts.length ts.length) (List.replicate ts.length false), rbox (w.heap.size + 1) 51 #[.slice ah lh.length cah, .slice aw lw.length caw, .slice af lf.length caf, .slice ak rows.length cak], rbox w.heap.size 25 #[.slice aM ms.length cM, .slice aT ts.length cT], rrwsl lo3 hi3 rows, rsl vEncS 1 lo3 hi3 (.slice ak rows.length cak) (rows.map (·.1)), rsl intEnc 1 lo3 hi3 (.slice af lf.length caf) lf, rsl intEnc 1 lo3 hi3 (.slice aw lw.length caw) lw, rsl intEnc 1 lo3 hi3 (.slice ah lh.length cah) lh, rafs lo hi ts, rsl tskEnc 8 lo hi (.slice aT ts.length cT) ts, rsl mchEnc 3 lo hi (.slice aM ms.length cM) ms] w_) #[true, true, true, true, false, true, true, true, true, true, true, true, false, false, false, false] 5 ?st140 ?nx140
  case st140 =>
    rintro t w141 ⟨yg8, e1, e3, e9, e10, e12, e17, e20, hsz140, F142⟩
    clear F17
    rw [rng_siteOf_c t, e1, e3, e9, e10, e12, e17, e20]
    clear e1 e3 e9 e10 e12 e17 e20
    have hws140 := F142.gb.size
    have yg8l := (F142.ltAt 0 rfl _ rfl).1
    refine ru_two 4 12 rfl rfl (by kernel_rfl) ?_ ?_
    · intro K hK
      go_simp
      refine (ownI_c lo3 hi3 w.heap.size _ lh _ (F142.at 7 rfl : Sl intEnc 1 lo3 hi3 _ (.slice ah lh.length cah) lh) (Nat.le_trans h4 F142.gb.size) (by have h_ := HL.out; omega) F142.gb.size).mono ?_
      rintro e w146 ⟨olq143, ocq143, rfl, hooq143, hoxq143, hg144⟩
      have hg144s := hg144.size
      (try simp at hg144s)
      have F147 := F142.add (rown intEnc 3 1 w.heap.size (.slice olq143 lh.length ocq143) lh) hg144 (hooq143) (fun g e => hoxq143 g e)
      clear F142
      refine ru_back hK (by exact ⟨F147.cl 3 0 rfl rfl, F147.cl 3 1 rfl rfl, F147.cl 2 0 rfl rfl, F147.cl 2 1 rfl rfl, F147.cl 2 2 rfl rfl, F147.cl 2 3 rfl rfl⟩) (fun _ => ?_)
      exact hZ103.out _ _ _ (by kernel_rfl) (by kernel_rfl) rfl ⟨olq143, ocq143, yg8, (by kernel_rfl), (by kernel_rfl), (by kernel_rfl), (by kernel_rfl), (by kernel_rfl), (by kernel_rfl), (by kernel_rfl), (by first | omega | (simp; done) | (simp; omega)), (F147.pick [1, 0, 2, 3, 4, 5, 6, 7, 8, 9, 10, 11] (by decide) rfl)⟩
    · intro K hK
      refine step_mkBool rfl _ _ rfl ts.length (by kernel_rfl) (by kernel_rfl) F142 (by omega) ?_
      intro gm148 w149 hB150 hs151
      (try simp at hs151)
      have F152 := hB150
      clear F142
      refine ru_back hK (by exact ⟨F152.cl 3 0 rfl rfl, F152.cl 3 1 rfl rfl, F152.cl 2 0 rfl rfl, F152.cl 2 1 rfl rfl, F152.cl 2 2 rfl rfl, F152.cl 2 3 rfl rfl⟩) (fun _ => ?_)
      exact hZ119.out _ _ _ (by kernel_rfl) (by kernel_rfl) rfl ⟨yg8, gm148, (by kernel_rfl), (by kernel_rfl), (by kernel_rfl), (by kernel_rfl), (by kernel_rfl), (by kernel_rfl), (by kernel_rfl), (by first | omega | (simp; done) | (simp; omega)), F152⟩
  intro hZ140
  refine ru_state 56 (fun t w_ => ∃ (yg12 : Nat), t 1 = .int .i64 (c.nd : Int) ∧ t 3 = .pointer (some ⟨w.heap.size, 0, none⟩) ∧ t 9 = .agg #[.slice aM ms.length cM, .slice aT ts.length cT] ∧ t 10 = .agg #[.slice ah lh.length cah, .slice aw lw.length caw, .slice af lf.length caf, .slice ak rows.length cak] ∧ t 12 = .slice ah lh.length cah ∧ t 16 = .int .i64 (ts.length : Int) ∧ t 21 = .slice (some ⟨yg12, 0, none⟩) ts.length ts.length ∧ w13.heap.size ≤ w_.heap.size ∧ Bun w [rown boEnc 4 1 w.heap.size (.slice (some ⟨yg12, 0, none⟩) ts.length ts.length) (List.replicate ts.length false), rbox (w.heap.size + 1) 51 #[.slice ah lh.length cah, .slice aw lw.length caw, .slice af lf.length caf, .slice ak rows.length cak], rbox w.heap.size 25 #[.slice aM ms.length cM, .slice aT ts.length cT], rrwsl lo3 hi3 rows, rsl vEncS 1 lo3 hi3 (.slice ak rows.length cak) (rows.map (·.1)), rsl intEnc 1 lo3 hi3 (.slice af lf.length caf) lf, rsl intEnc 1 lo3 hi3 (.slice aw lw.length caw) lw, rsl intEnc 1 lo3 hi3 (.slice ah lh.length cah) lh, rafs lo hi ts, rsl tskEnc 8 lo hi (.slice aT ts.length cT) ts, rsl mchEnc 3 lo hi (.slice aM ms.length cM) ms] w_) #[true, true, true, true, false, true, true, true, false, true, true, true, true, false, false, false] 5 ?st153 ?nx153
  case st153 =>
    rintro t w154 ⟨yg12, e1, e3, e9, e10, e12, e16, e21, hsz153, F155⟩
    clear F17
    rw [rng_siteOf_c t, e1, e3, e9, e10, e12, e16, e21]
    clear e1 e3 e9 e10 e12 e16 e21
    have hws153 := F155.gb.size
    have yg12l := (F155.ltAt 0 rfl _ rfl).1
    refine ru_two 4 8 rfl rfl (by kernel_rfl) ?_ ?_
    · intro K hK
      go_simp
      refine (ownI_c lo3 hi3 w.heap.size _ lh _ (F155.at 7 rfl : Sl intEnc 1 lo3 hi3 _ (.slice ah lh.length cah) lh) (Nat.le_trans h4 F155.gb.size) (by have h_ := HL.out; omega) F155.gb.size).mono ?_
      rintro e w159 ⟨olq156, ocq156, rfl, hooq156, hoxq156, hg157⟩
      have hg157s := hg157.size
      (try simp at hg157s)
      have F160 := F155.add (rown intEnc 3 1 w.heap.size (.slice olq156 lh.length ocq156) lh) hg157 (hooq156) (fun g e => hoxq156 g e)
      clear F155
      refine ru_back hK (by exact ⟨F160.cl 3 0 rfl rfl, F160.cl 3 1 rfl rfl, F160.cl 2 0 rfl rfl, F160.cl 2 1 rfl rfl, F160.cl 2 2 rfl rfl, F160.cl 2 3 rfl rfl⟩) (fun _ => ?_)
      exact hZ111.out _ _ _ (by kernel_rfl) (by kernel_rfl) rfl ⟨olq156, ocq156, yg12, (by kernel_rfl), (by kernel_rfl), (by kernel_rfl), (by kernel_rfl), (by kernel_rfl), (by kernel_rfl), (by kernel_rfl), (by first | omega | (simp; done) | (simp; omega)), (F160.pick [1, 0, 2, 3, 4, 5, 6, 7, 8, 9, 10, 11] (by decide) rfl)⟩
    · intro K hK
      refine step_mkBool rfl _ _ rfl ts.length (by kernel_rfl) (by kernel_rfl) F155 (by omega) ?_
      intro gm161 w162 hB163 hs164
      (try simp at hs164)
      have F165 := hB163
      clear F155
      refine ru_back hK (by exact ⟨F165.cl 3 0 rfl rfl, F165.cl 3 1 rfl rfl, F165.cl 2 0 rfl rfl, F165.cl 2 1 rfl rfl, F165.cl 2 2 rfl rfl, F165.cl 2 3 rfl rfl⟩) (fun _ => ?_)
      exact hZ119.out _ _ _ (by kernel_rfl) (by kernel_rfl) rfl ⟨gm161, yg12, (by kernel_rfl), (by kernel_rfl), (by kernel_rfl), (by kernel_rfl), (by kernel_rfl), (by kernel_rfl), (by kernel_rfl), (by first | omega | (simp; done) | (simp; omega)), (F165.pick [1, 0, 2, 3, 4, 5, 6, 7, 8, 9, 10, 11] (by decide) rfl)⟩
  intro hZ153
  refine ru_state 56 (fun t w_ => t 1 = .int .i64 (c.nd : Int) ∧ t 3 = .pointer (some ⟨w.heap.size, 0, none⟩) ∧ t 9 = .agg #[.slice aM ms.length cM, .slice aT ts.length cT] ∧ t 10 = .agg #[.slice ah lh.length cah, .slice aw lw.length caw, .slice af lf.length caf, .slice ak rows.length cak] ∧ t 12 = .slice ah lh.length cah ∧ t 16 = .int .i64 (ts.length : Int) ∧ t 20 = .int .i64 (ts.length : Int) ∧ w13.heap.size ≤ w_.heap.size ∧ Bun w [rbox (w.heap.size + 1) 51 #[.slice ah lh.length cah, .slice aw lw.length caw, .slice af lf.length caf, .slice ak rows.length cak], rbox w.heap.size 25 #[.slice aM ms.length cM, .slice aT ts.length cT], rrwsl lo3 hi3 rows, rsl vEncS 1 lo3 hi3 (.slice ak rows.length cak) (rows.map (·.1)), rsl intEnc 1 lo3 hi3 (.slice af lf.length caf) lf, rsl intEnc 1 lo3 hi3 (.slice aw lw.length caw) lw, rsl intEnc 1 lo3 hi3 (.slice ah lh.length cah) lh, rafs lo hi ts, rsl tskEnc 8 lo hi (.slice aT ts.length cT) ts, rsl mchEnc 3 lo hi (.slice aM ms.length cM) ms] w_) #[true, true, true, true, false, true, true, true, false, true, true, true, false, false, false, false] 6 ?st166 ?nx166
  case st166 =>
    rintro t w167 ⟨e1, e3, e9, e10, e12, e16, e20, hsz166, F168⟩
    clear F17
    rw [rng_siteOf_c t, e1, e3, e9, e10, e12, e16, e20]
    clear e1 e3 e9 e10 e12 e16 e20
    have hws166 := F168.gb.size
    refine ru_three 4 8 12 rfl rfl rfl (by kernel_rfl) ?_ ?_ ?_
    · intro K hK
      go_simp
      refine (ownI_c lo3 hi3 w.heap.size _ lh _ (F168.at 6 rfl : Sl intEnc 1 lo3 hi3 _ (.slice ah lh.length cah) lh) (Nat.le_trans h4 F168.gb.size) (by have h_ := HL.out; omega) F168.gb.size).mono ?_
      rintro e w172 ⟨olq169, ocq169, rfl, hooq169, hoxq169, hg170⟩
      have hg170s := hg170.size
      (try simp at hg170s)
      have F173 := F168.add (rown intEnc 3 1 w.heap.size (.slice olq169 lh.length ocq169) lh) hg170 (hooq169) (fun g e => hoxq169 g e)
      clear F168
      refine ru_back hK (by exact ⟨F173.cl 2 0 rfl rfl, F173.cl 2 1 rfl rfl, F173.cl 1 0 rfl rfl, F173.cl 1 1 rfl rfl, F173.cl 1 2 rfl rfl, F173.cl 1 3 rfl rfl⟩) (fun _ => ?_)
      exact hZ127.out _ _ _ (by kernel_rfl) (by kernel_rfl) rfl ⟨olq169, ocq169, (by kernel_rfl), (by kernel_rfl), (by kernel_rfl), (by kernel_rfl), (by kernel_rfl), (by kernel_rfl), (by kernel_rfl), (by first | omega | (simp; done) | (simp; omega)), F173⟩
    · intro K hK
      refine step_mkBool rfl _ _ rfl ts.length (by kernel_rfl) (by kernel_rfl) F168 (by omega) ?_
      intro gm174 w175 hB176 hs177
      (try simp at hs177)
      have F178 := hB176
      clear F168
      refine ru_back hK (by exact ⟨F178.cl 2 0 rfl rfl, F178.cl 2 1 rfl rfl, F178.cl 1 0 rfl rfl, F178.cl 1 1 rfl rfl, F178.cl 1 2 rfl rfl, F178.cl 1 3 rfl rfl⟩) (fun _ => ?_)
      exact hZ140.out _ _ _ (by kernel_rfl) (by kernel_rfl) rfl ⟨gm174, (by kernel_rfl), (by kernel_rfl), (by kernel_rfl), (by kernel_rfl), (by kernel_rfl), (by kernel_rfl), (by kernel_rfl), (by first | omega | (simp; done) | (simp; omega)), F178⟩
    · intro K hK
      refine step_mkBool rfl _ _ rfl ts.length (by kernel_rfl) (by kernel_rfl) F168 (by omega) ?_
      intro gm179 w180 hB181 hs182
      (try simp at hs182)
      have F183 := hB181
      clear F168
      refine ru_back hK (by exact ⟨F183.cl 2 0 rfl rfl, F183.cl 2 1 rfl rfl, F183.cl 1 0 rfl rfl, F183.cl 1 1 rfl rfl, F183.cl 1 2 rfl rfl, F183.cl 1 3 rfl rfl⟩) (fun _ => ?_)
      exact hZ153.out _ _ _ (by kernel_rfl) (by kernel_rfl) rfl ⟨gm179, (by kernel_rfl), (by kernel_rfl), (by kernel_rfl), (by kernel_rfl), (by kernel_rfl), (by kernel_rfl), (by kernel_rfl), (by first | omega | (simp; done) | (simp; omega)), F183⟩
  intro hZ166
  exact hZ166.out _ _ _ (by kernel_rfl) (by kernel_rfl) rfl ⟨(by kernel_rfl), (by kernel_rfl), (by kernel_rfl), (by kernel_rfl), (by kernel_rfl), (by kernel_rfl), (by kernel_rfl), (by first | omega | (simp; done) | (simp; omega)), F17⟩

end Go.Proofs.Ytokelpmngahnoaa
