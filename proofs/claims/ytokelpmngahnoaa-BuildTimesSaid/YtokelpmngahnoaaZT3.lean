/- build and its reference: the reference's Times. -/
import Derived.Test.YtokelpmngahnoaaZT2
set_option linter.unusedVariables false
set_option linter.unusedSimpArgs false
set_option linter.unnecessarySimpa false
namespace Go.Proofs.Ytokelpmngahnoaa
open Go.RowKit
set_option maxRecDepth 100000
attribute [local go_sem] Oper.semAt_some
def rcase (lo hi : Nat) (vh vw vf vk : Value) (lh lw lf : List Int) (rows : List (Value × List Bool)) : Res :=
  ⟨false, fun x => lo ≤ x ∧ x < hi, fun w => CaseAt lo hi w vh vw vf vk lh lw lf rows, fun _ _ _ hg hr h => ⟨Sl.gb h.h hg (fun g e => by have := hr g e; omega), Sl.gb h.w_ hg (fun g e => by have := hr g e; omega), Sl.gb h.f hg (fun g e => by have := hr g e; omega), Sl.gb h.k hg (fun g e => by have := hr g e; omega), fun r hrr => Sl.gb (h.r r hrr) hg (fun g e => by have := hr g e; omega)⟩⟩
/-- A slice lies below the world's size. -/
theorem Bun.slW {α : Type} {enc : α → List Value} {sz lo hi : Nat} {v : Value} {l : List α} {w0 A : World} {L : List Res} (i : Nat) (h : Bun w0 L A) (hi_ : L[i]? = some (rsl enc sz lo hi v l)) : Sl enc sz 0 A.heap.size A v l := by
  have hP : Sl enc sz lo hi A v l := h.at i hi_
  have hb := fun g hx => (h.ltAt i hi_ g hx).1
  obtain ⟨hm, a, c, hv, h2⟩ := hP
  refine ⟨hm, a, c, hv, ?_⟩
  rcases h2 with h2 | ⟨b, off, ha, h3, h4, h5⟩
  · exact .inl h2
  · exact .inr ⟨b, off, ha, Nat.zero_le _, hb b ⟨h3, h4⟩, h5⟩
theorem rcaseOf_r (wb : Bool) (lo hi : Nat) (vm vt : Value) (ms : List Mch) (ts : List Tsk) (lo2 hi2 : Nat) (vd : Value) (dl : List Wea) (w : World) (hj : JobAt lo hi w vm vt ms ts) (h2 : hi ≤ w.heap.size) (hd : Sl weaEnc 6 lo2 hi2 w vd dl) (h3 : hi2 ≤ w.heap.size) (hok : JobOk ms ts) (hn : dl.length ≤ 400) (b : Bool) (hb : decide (isW wb) = b) :
    Calls Try.prog 27 #[.agg #[vm, vt], vd, .bool b] w (fun e w' => ∃ (v1 v2 v3 v4 : Value) (lh lw lf : List Int) (rows : List (Value × List Bool)) (lo hi : Nat), e = .returned (.agg #[v1, v2, v3, v4]) ∧ (w.heap.size ≤ lo ∧ hi ≤ w'.heap.size) ∧ CaseAt lo hi w' v1 v2 v3 v4 lh lw lf rows ∧
      (CsIs (caseOf wb ms ts dl) ms ts lh lw lf (rows.map (·.2)) ∧ ∀ r ∈ rows, sliceB r.1 = true) ∧ w.grownBy w' none) := by
  subst hb
  have := hok.nm
  have := hok.nt
  refine (rcaseOf_c wb lo hi vm vt ms ts lo2 hi2 vd dl w hj h2 hd h3 (by omega) (by omega) (by omega)).mono ?_
  rintro e w' ⟨v1, v2, v3, v4, lh, lw, lf, rows, rfl, hc, hB⟩
  have h1 : Own intEnc 3 1 w.heap.size w' v1 lh := hB.at 0 rfl
  have h2 : Own intEnc 3 1 w.heap.size w' v2 lw := hB.at 1 rfl
  have h3 : Own intEnc 3 1 w.heap.size w' v3 lf := hB.at 2 rfl
  have h4 : Own vEncS 56 1 w.heap.size w' v4 (rows.map (·.1)) := hB.at 3 rfl
  have h5 : ∀ t ∈ rows, Own boEnc 4 1 w.heap.size w' t.1 t.2 := hB.at 4 rfl
  exact ⟨v1, v2, v3, v4, lh, lw, lf, rows, w.heap.size, w'.heap.size, rfl, ⟨Nat.le_refl _, Nat.le_refl _⟩, ⟨Own.sl h1 (fun _ => rfl), Own.sl h2 (fun _ => rfl), Own.sl h3 (fun _ => rfl), Own.sl h4 (fun _ => rfl), fun r hr => Own.sl (h5 r hr) (fun _ => rfl)⟩, hc, hB.gb⟩
/-- The reference's plan of one of the two cases. -/
theorem rplan_b (wb : Bool) (lo hi : Nat) (vm vt : Value) (ms : List Mch) (ts : List Tsk) (dl : List Wea) (lo3 hi3 : Nat) (vh vw vf vk : Value) (lh lw lf : List Int) (rows : List (Value × List Bool)) (w : World) (hj : JobAt lo hi w vm vt ms ts) (h2 : hi ≤ w.heap.size) (hca : CaseAt lo3 hi3 w vh vw vf vk lh lw lf rows) (h4 : hi3 ≤ w.heap.size)
    (hcs : CsIs (caseOf wb ms ts dl) ms ts lh lw lf (rows.map (·.2)) ∧ ∀ r ∈ rows, sliceB r.1 = true) (hok : JobOk ms ts) (hn : dl.length ≤ 400) (x : Int) (hx : (caseOf wb ms ts dl).opn ts.length = x) :
    Calls Try.prog 66 #[.agg #[vm, vt], .int .i64 (dl.length : Int), .agg #[vh, vw, vf, vk]] w (fun e w' => ∃ (a : Option Addr) (cp lo hi : Nat), e = .returned (.tuple #[.slice a ts.length cp, .int .i64 x]) ∧ (w.heap.size ≤ lo ∧ hi ≤ w'.heap.size) ∧ Sl prEnc 2 lo hi w' (.slice a ts.length cp) ((caseOf wb ms ts dl).plan ts.length) ∧ w.grownBy w' none) := by
  subst hx
  have := hok.nt
  exact (rplan_c lo hi vm vt ms ts dl.length lo3 hi3 vh vw vf vk lh lw lf rows (caseOf wb ms ts dl) w hj h2 hca h4 hcs.2 rfl hcs.1 (caseOk hok hn) (by omega) (by have := hok.nm; omega) (fun k t hk => (hok.to_ k t hk).m) (fun k t hk => (hok.to_ k t hk).af)).mono fun _ _ h => h

set_option maxHeartbeats 16000000 in
theorem rtimes_c (lo hi : Nat) (vm vt : Value) (ms : List Mch) (ts : List Tsk) (lo2 hi2 : Nat) (vd : Value) (dl : List Wea) (w : World) (hj : JobAt lo hi w vm vt ms ts) (h2 : hi ≤ w.heap.size) (hd : Sl weaEnc 6 lo2 hi2 w vd dl) (h3 : hi2 ≤ w.heap.size) :
    Calls Try.prog 21 #[.agg #[vm, vt], vd] w (TimesR ms ts dl w) := by
  have F1 : Bun w [] w := Bun.nil _
  obtain ⟨hms, hts, haf⟩ := hj
  have hm_ms := hms.len
  unfold maxLen at hm_ms
  obtain ⟨aM, cM, rfl⟩ := hms.any
  have F2 := F1.sl0 hms h2 rfl
  clear F1
  clear hms
  have hm_ts := hts.len
  unfold maxLen at hm_ts
  obtain ⟨aT, cT, rfl⟩ := hts.any
  have F3 := F2.sl0 hts h2 rfl
  clear F2
  clear hts
  have F4 := F3.non0 (rafs lo hi ts) haf (fun _ h_ => Nat.lt_of_lt_of_le h_.2 h2) rfl rfl
  clear F3
  clear haf
  have hm_ds := hd.len
  unfold maxLen at hm_ds
  obtain ⟨ad, cd, rfl⟩ := hd.any
  have F5 := F4.sl0 hd h3 rfl
  clear F4
  clear hd
  go_enter Try.func21, Try.ntmps21
  go_wp2_with fail
  have F6 := F5.new 25 #[.slice aM ms.length cM, .slice aT ts.length cT] (n := w.heap.size) (by simp)
  clear F5
  have F7 := F6.new 39 #[.int .i64 0, .int .i64 0] (n := (w.heap.size + 1)) (by simp)
  clear F6
  refine (rboth_c lo hi _ _ ms ts lo2 hi2 _ dl _ (JobAt.mk (F7.at 5 rfl : Sl mchEnc 3 lo hi _ (.slice aM ms.length cM) ms) (F7.at 4 rfl : Sl tskEnc 8 lo hi _ (.slice aT ts.length cT) ts) (F7.at 3 rfl : Afs lo hi _ ts)) (Nat.le_trans h2 F7.gb.size) (F7.at 2 rfl : Sl weaEnc 6 lo2 hi2 _ (.slice ad dl.length cd) dl) (Nat.le_trans h3 F7.gb.size)).mono ?_
  rintro e w10 ⟨rfl, hg8⟩
  have hg8s := hg8.size
  (try simp at hg8s)
  have F11 := F7.gn hg8
  clear F7
  clear hg8
  by_cases c12 : bothErr ms ts dl = 0
  · skip
    have c12a : ((bothErr ms ts dl) == 0) = true := beq_t c12
    have c12b : ((bothErr ms ts dl) != 0) = false := bne_f c12
    have c12H := Lib.hid c12
    clear c12
    have HOK := Lib.hid (bothOk c12H.out)
    have hnt := HOK.out.1.nt
    go_wp2_with fail
    have F16 := F11.drew
    clear F11
    refine ru_begin (fun W => W.cell? ⟨w.heap.size, 0, none⟩ = some (.slice aM ms.length cM) ∧ W.cell? ⟨w.heap.size, 1, none⟩ = some (.slice aT ts.length cT)) 11 (by kernel_rfl) ?_ ?_
    · exact ⟨F16.cl 1 0 rfl rfl, F16.cl 1 1 rfl rfl⟩
    obtain ⟨wd18, hwd_⟩ : ∃ x : World, w10.drew = x := ⟨_, rfl⟩
    rw [hwd_] at F16 ⊢
    have wd18s : w10.heap.size ≤ wd18.heap.size := by rw [← hwd_]; exact Nat.le_refl _
    clear hwd_
    have hS17 := (And.intro (F16.cl 1 0 rfl rfl) (F16.cl 1 1 rfl rfl))
    refine ru_t 0 [] ?_
    refine ru_t 1 [] ?_
    refine ru_t 2 [] ?_
    refine ru_t 3 [] ?_
    refine ru_t 4 [] ?_
    (try simp only [Act.put, List.setIfInBounds_toArray, List.set_cons_zero, List.set_cons_succ])
    clear hS17
    refine ru_one 5 rfl (by kernel_rfl) (fun K hK => ?_)
    go_simp
    refine (rcaseOf_r false lo hi _ _ ms ts lo2 hi2 _ dl _ (JobAt.mk (F16.at 5 rfl : Sl mchEnc 3 lo hi _ (.slice aM ms.length cM) ms) (F16.at 4 rfl : Sl tskEnc 8 lo hi _ (.slice aT ts.length cT) ts) (F16.at 3 rfl : Afs lo hi _ ts)) (Nat.le_trans h2 F16.gb.size) (F16.at 2 rfl : Sl weaEnc 6 lo2 hi2 _ (.slice ad dl.length cd) dl) (Nat.le_trans h3 F16.gb.size) HOK.out.1 HOK.out.2 false rfl).mono ?_
    rintro e w22 ⟨v1q19, v2q19, v3q19, v4q19, lhq19, lwq19, lfq19, rwq19, lcq19, hcq19, rfl, ⟨hcxq19, hcyq19⟩, hczq19, hcsq19, hg20⟩
    have HCSq19 := Lib.hid hcsq19
    clear hcsq19
    have hg20s := hg20.size
    (try simp at hg20s)
    have F23 := F16.add (rcase lcq19 hcq19 v1q19 v2q19 v3q19 v4q19 lhq19 lwq19 lfq19 rwq19) hg20 (hczq19) (fun g e => ⟨Nat.le_trans hcxq19 e.1, Nat.lt_of_lt_of_le e.2 hcyq19⟩)
    clear F16
    refine ru_back hK (by exact ⟨F23.cl 2 0 rfl rfl, F23.cl 2 1 rfl rfl⟩) (fun hHeld => ?_)
    clear hK K
    (try simp only [Act.put, List.setIfInBounds_toArray, List.set_cons_zero, List.set_cons_succ])
    refine ru_one 6 rfl (by kernel_rfl) (fun K hK => ?_)
    go_simp
    refine (rplan_b false lo hi _ _ ms ts dl lcq19 hcq19 _ _ _ _ _ _ _ rwq19 _ (JobAt.mk (F23.at 6 rfl : Sl mchEnc 3 lo hi _ (.slice aM ms.length cM) ms) (F23.at 5 rfl : Sl tskEnc 8 lo hi _ (.slice aT ts.length cT) ts) (F23.at 4 rfl : Afs lo hi _ ts)) (Nat.le_trans h2 F23.gb.size) (F23.at 0 rfl : CaseAt lcq19 hcq19 _ v1q19 v2q19 v3q19 v4q19 lhq19 lwq19 lfq19 rwq19) (by first | omega | (simp; omega)) HCSq19.out HOK.out.1 HOK.out.2 _ rfl).mono ?_
    rintro e w27 ⟨app24, cpp24, lpp24, hpp24, rfl, ⟨hpxp24, hpyp24⟩, hpzp24, hg25⟩
    have hg25s := hg25.size
    (try simp at hg25s)
    have F28 := F23.add (rsl prEnc 2 lpp24 hpp24 (.slice app24 ts.length cpp24) ((caseOf false ms ts dl).plan ts.length)) hg25 (hpzp24) (fun g e => ⟨Nat.le_trans hpxp24 e.1, Nat.lt_of_lt_of_le e.2 hpyp24⟩)
    clear F23
    refine ru_back hK (by exact ⟨F28.cl 3 0 rfl rfl, F28.cl 3 1 rfl rfl⟩) (fun hHeld => ?_)
    clear hK K
    (try simp only [Act.put, List.setIfInBounds_toArray, List.set_cons_zero, List.set_cons_succ])
    refine ru_p 7 ?_
    (try simp only [Act.put, List.setIfInBounds_toArray, List.set_cons_zero, List.set_cons_succ])
    refine ru_p 8 ?_
    refine ru_p 9 ?_
    (try simp only [Act.put, List.setIfInBounds_toArray, List.set_cons_zero, List.set_cons_succ])
    refine ru_p 10 ?_
    (try simp only [Act.put, List.setIfInBounds_toArray, List.set_cons_zero, List.set_cons_succ])
    refine ru_one 11 rfl (by kernel_rfl) (fun K hK => ?_)
    go_simp
    refine ru_back_late hK (by kernel_rfl) ?_
    clear hK K
    (try simp only [Act.put, List.setIfInBounds_toArray, List.set_cons_zero, List.set_cons_succ])
    refine ru_done (by kernel_rfl) ?_
    obtain ⟨w29, hx30, F32, hxs31⟩ := (show Bun w [rsl prEnc 2 lpp24 hpp24 (.slice app24 ts.length cpp24) ((caseOf false ms ts dl).plan ts.length), rcase lcq19 hcq19 v1q19 v2q19 v3q19 v4q19 lhq19 lwq19 lfq19 rwq19, rbox (w.heap.size + 1) 39 #[.int .i64 0, .int .i64 0], rbox w.heap.size 25 #[.slice aM ms.length cM, .slice aT ts.length cT], rsl weaEnc 6 lo2 hi2 (.slice ad dl.length cd) dl, rafs lo hi ts, rsl tskEnc 8 lo hi (.slice aT ts.length cT) ts, rsl mchEnc 3 lo hi (.slice aM ms.length cM) ms] _ from F28).name
    (try simp at hxs31)
    rw [hx30]
    clear hx30 F28
    go_wp2_with fail
    have F36 := F32.drew
    clear F32
    refine ru_begin (fun W => W.cell? ⟨w.heap.size, 0, none⟩ = some (.slice aM ms.length cM) ∧ W.cell? ⟨w.heap.size, 1, none⟩ = some (.slice aT ts.length cT)) 11 (by kernel_rfl) ?_ ?_
    · exact ⟨F36.cl 3 0 rfl rfl, F36.cl 3 1 rfl rfl⟩
    obtain ⟨wd38, hwd_⟩ : ∃ x : World, w29.drew = x := ⟨_, rfl⟩
    rw [hwd_] at F36 ⊢
    have wd38s : w29.heap.size ≤ wd38.heap.size := by rw [← hwd_]; exact Nat.le_refl _
    clear hwd_
    have hS37 := (And.intro (F36.cl 3 0 rfl rfl) (F36.cl 3 1 rfl rfl))
    refine ru_t 0 [] ?_
    refine ru_t 1 [] ?_
    refine ru_t 2 [] ?_
    refine ru_t 3 [] ?_
    refine ru_t 4 [] ?_
    (try simp only [Act.put, List.setIfInBounds_toArray, List.set_cons_zero, List.set_cons_succ])
    clear hS37
    refine ru_one 5 rfl (by kernel_rfl) (fun K hK => ?_)
    go_simp
    refine (rcaseOf_r true lo hi _ _ ms ts lo2 hi2 _ dl _ (JobAt.mk (F36.at 7 rfl : Sl mchEnc 3 lo hi _ (.slice aM ms.length cM) ms) (F36.at 6 rfl : Sl tskEnc 8 lo hi _ (.slice aT ts.length cT) ts) (F36.at 5 rfl : Afs lo hi _ ts)) (Nat.le_trans h2 F36.gb.size) (F36.at 4 rfl : Sl weaEnc 6 lo2 hi2 _ (.slice ad dl.length cd) dl) (Nat.le_trans h3 F36.gb.size) HOK.out.1 HOK.out.2 true rfl).mono ?_
    rintro e w42 ⟨v1q39, v2q39, v3q39, v4q39, lhq39, lwq39, lfq39, rwq39, lcq39, hcq39, rfl, ⟨hcxq39, hcyq39⟩, hczq39, hcsq39, hg40⟩
    have HCSq39 := Lib.hid hcsq39
    clear hcsq39
    have hg40s := hg40.size
    (try simp at hg40s)
    have F43 := F36.add (rcase lcq39 hcq39 v1q39 v2q39 v3q39 v4q39 lhq39 lwq39 lfq39 rwq39) hg40 (hczq39) (fun g e => ⟨Nat.le_trans hcxq39 e.1, Nat.lt_of_lt_of_le e.2 hcyq39⟩)
    clear F36
    refine ru_back hK (by exact ⟨F43.cl 4 0 rfl rfl, F43.cl 4 1 rfl rfl⟩) (fun hHeld => ?_)
    clear hK K
    (try simp only [Act.put, List.setIfInBounds_toArray, List.set_cons_zero, List.set_cons_succ])
    refine ru_one 6 rfl (by kernel_rfl) (fun K hK => ?_)
    go_simp
    refine (rplan_b true lo hi _ _ ms ts dl lcq39 hcq39 _ _ _ _ _ _ _ rwq39 _ (JobAt.mk (F43.at 8 rfl : Sl mchEnc 3 lo hi _ (.slice aM ms.length cM) ms) (F43.at 7 rfl : Sl tskEnc 8 lo hi _ (.slice aT ts.length cT) ts) (F43.at 6 rfl : Afs lo hi _ ts)) (Nat.le_trans h2 F43.gb.size) (F43.at 0 rfl : CaseAt lcq39 hcq39 _ v1q39 v2q39 v3q39 v4q39 lhq39 lwq39 lfq39 rwq39) (by first | omega | (simp; omega)) HCSq39.out HOK.out.1 HOK.out.2 _ rfl).mono ?_
    rintro e w47 ⟨app44, cpp44, lpp44, hpp44, rfl, ⟨hpxp44, hpyp44⟩, hpzp44, hg45⟩
    have hg45s := hg45.size
    (try simp at hg45s)
    have F48 := F43.add (rsl prEnc 2 lpp44 hpp44 (.slice app44 ts.length cpp44) ((caseOf true ms ts dl).plan ts.length)) hg45 (hpzp44) (fun g e => ⟨Nat.le_trans hpxp44 e.1, Nat.lt_of_lt_of_le e.2 hpyp44⟩)
    clear F43
    refine ru_back hK (by exact ⟨F48.cl 5 0 rfl rfl, F48.cl 5 1 rfl rfl⟩) (fun hHeld => ?_)
    clear hK K
    (try simp only [Act.put, List.setIfInBounds_toArray, List.set_cons_zero, List.set_cons_succ])
    refine ru_p 7 ?_
    (try simp only [Act.put, List.setIfInBounds_toArray, List.set_cons_zero, List.set_cons_succ])
    refine ru_p 8 ?_
    refine ru_p 9 ?_
    (try simp only [Act.put, List.setIfInBounds_toArray, List.set_cons_zero, List.set_cons_succ])
    refine ru_p 10 ?_
    (try simp only [Act.put, List.setIfInBounds_toArray, List.set_cons_zero, List.set_cons_succ])
    refine ru_one 11 rfl (by kernel_rfl) (fun K hK => ?_)
    go_simp
    refine ru_back_late hK (by kernel_rfl) ?_
    clear hK K
    (try simp only [Act.put, List.setIfInBounds_toArray, List.set_cons_zero, List.set_cons_succ])
    refine ru_done (by kernel_rfl) ?_
    obtain ⟨w49, hx50, F52, hxs51⟩ := (show Bun w [rsl prEnc 2 lpp44 hpp44 (.slice app44 ts.length cpp44) ((caseOf true ms ts dl).plan ts.length), rcase lcq39 hcq39 v1q39 v2q39 v3q39 v4q39 lhq39 lwq39 lfq39 rwq39, rsl prEnc 2 lpp24 hpp24 (.slice app24 ts.length cpp24) ((caseOf false ms ts dl).plan ts.length), rcase lcq19 hcq19 v1q19 v2q19 v3q19 v4q19 lhq19 lwq19 lfq19 rwq19, rbox (w.heap.size + 1) 39 #[.int .i64 0, .int .i64 0], rsl weaEnc 6 lo2 hi2 (.slice ad dl.length cd) dl, rafs lo hi ts, rsl tskEnc 8 lo hi (.slice aT ts.length cT) ts, rsl mchEnc 3 lo hi (.slice aM ms.length cM) ms] _ from (F48.drop 5 rfl)).name
    (try simp at hxs51)
    rw [hx50]
    clear hx50 F48
    go_wp2_with fail
    have F53 := F52.nilrow timEnc 55 4
    clear F52
    (skip)
    obtain ⟨HI54_, HI540⟩ : ∃ I : (Nat → Value) → List Deferred → World → Prop, I = (fun t ds wr => ∃ (k : Nat) (vo : Value), t 5 = .pointer (some ⟨w.heap.size + 1, 0, none⟩) ∧ t 8 = .slice app24 ts.length cpp24 ∧ t 9 = .int .i64 ((caseOf false ms ts dl).opn ts.length) ∧ t 10 = .slice app44 ts.length cpp44 ∧ t 11 = .int .i64 ((caseOf true ms ts dl).opn ts.length) ∧ t 12 = vo ∧ t 13 = .int .i64 (k : Int) ∧ k ≤ ts.length ∧ ds = [] ∧ w49.heap.size ≤ wr.heap.size ∧ Bun w [rown timEnc 55 4 w.heap.size vo (timN (caseOf false ms ts dl) (caseOf true ms ts dl) ts.length k), rsl prEnc 2 lpp44 hpp44 (.slice app44 ts.length cpp44) ((caseOf true ms ts dl).plan ts.length), rcase lcq39 hcq39 v1q39 v2q39 v3q39 v4q39 lhq39 lwq39 lfq39 rwq39, rsl prEnc 2 lpp24 hpp24 (.slice app24 ts.length cpp24) ((caseOf false ms ts dl).plan ts.length), rcase lcq19 hcq19 v1q19 v2q19 v3q19 v4q19 lhq19 lwq19 lfq19 rwq19, rbox (w.heap.size + 1) 39 #[.int .i64 0, .int .i64 0], rsl weaEnc 6 lo2 hi2 (.slice ad dl.length cd) dl, rafs lo hi ts, rsl tskEnc 8 lo hi (.slice aT ts.length cT) ts, rsl mchEnc 3 lo hi (.slice aM ms.length cM) ms] wr) := ⟨_, rfl⟩
    have HI54 := Lib.hid HI540
    clear HI540
    refine wp_loopS 77 rfl HI54_ (fun t wr => ts.length - (intOf (t 13)).toNat) ?atStart1 ?round1
    case round1 =>
      intro t ds wr hHid
      rw [HI54.out] at hHid
      obtain ⟨k, vo, e5, e8, e9, e10, e11, e12, e13, hrel⟩ := hHid
      have e : ((List.range 77).map t).toArray = #[t 0, t 1, t 2, t 3, t 4, t 5, t 6, t 7, t 8, t 9, t 10, t 11, t 12, t 13, t 14, t 15, t 16, t 17, t 18, t 19, t 20, t 21, t 22, t 23, t 24, t 25, t 26, t 27, t 28, t 29, t 30, t 31, t 32, t 33, t 34, t 35, t 36, t 37, t 38, t 39, t 40, t 41, t 42, t 43, t 44, t 45, t 46, t 47, t 48, t 49, t 50, t 51, t 52, t 53, t 54, t 55, t 56, t 57, t 58, t 59, t 60, t 61, t 62, t 63, t 64, t 65, t 66, t 67, t 68, t 69, t 70, t 71, t 72, t 73, t 74, t 75, t 76] := rfl
      (try dsimp only at e)
      rw [e5, e8, e9, e10, e11, e12, e13] at e
      rw [e]
      simp only [e13]
      clear e e5 e8 e9 e10 e11 e12 e13
      obtain ⟨hk, rfl, hs56, hF55⟩ := hrel
      clear F53
      obtain ⟨w57, rfl⟩ : ∃ x_ : World, x_ = wr := ⟨_, rfl⟩
      by_cases c58 : (k : Int) < (ts.length : Int)
      · skip
        have c58H := Lib.hid c58
        obtain ⟨x59, o60, e_⟩ := Sl.addr (hF55.at 3 rfl : Sl prEnc 2 lpp24 hpp24 _ (.slice app24 ts.length cpp24) ((caseOf false ms ts dl).plan ts.length)) (by rw [Cs.plan_len]; omega)
        subst e_
        have hz61 : Hid (((caseOf false ms ts dl).plan ts.length)[k]? = some (bgAt ((caseOf false ms ts dl).plan ts.length) k, enAt ((caseOf false ms ts dl).plan ts.length) k)) := Lib.hid (plan_at _ (by omega))
        obtain ⟨x62, o63, e_⟩ := Sl.addr (hF55.at 1 rfl : Sl prEnc 2 lpp44 hpp44 _ (.slice app44 ts.length cpp44) ((caseOf true ms ts dl).plan ts.length)) (by rw [Cs.plan_len]; omega)
        subst e_
        have hz64 : Hid (((caseOf true ms ts dl).plan ts.length)[k]? = some (bgAt ((caseOf true ms ts dl).plan ts.length) k, enAt ((caseOf true ms ts dl).plan ts.length) k)) := Lib.hid (plan_at _ (by omega))
        go_wp2_with fail
        have F65 := hF55.drew
        clear hF55
        refine ru_begin (fun W => W.cell? ⟨x59, o60 + k * 2, none⟩ = some (.int .i64 (bgAt ((caseOf false ms ts dl).plan ts.length) k)) ∧ W.cell? ⟨x62, o63 + k * 2, none⟩ = some (.int .i64 (bgAt ((caseOf true ms ts dl).plan ts.length) k)) ∧ W.cell? ⟨x59, o60 + k * 2 + 1, none⟩ = some (.int .i64 (enAt ((caseOf false ms ts dl).plan ts.length) k)) ∧ W.cell? ⟨x62, o63 + k * 2 + 1, none⟩ = some (.int .i64 (enAt ((caseOf true ms ts dl).plan ts.length) k))) 26 (by kernel_rfl) ?_ ?_
        · exact ⟨(((F65.at 3 rfl : Sl prEnc 2 lpp24 hpp24 _ (.slice (some ⟨x59, o60, none⟩) ts.length cpp24) ((caseOf false ms ts dl).plan ts.length))).cells hz61.out 0 _ rfl), (((F65.at 1 rfl : Sl prEnc 2 lpp44 hpp44 _ (.slice (some ⟨x62, o63, none⟩) ts.length cpp44) ((caseOf true ms ts dl).plan ts.length))).cells hz64.out 0 _ rfl), (((F65.at 3 rfl : Sl prEnc 2 lpp24 hpp24 _ (.slice (some ⟨x59, o60, none⟩) ts.length cpp24) ((caseOf false ms ts dl).plan ts.length))).cells hz61.out 1 _ rfl), (((F65.at 1 rfl : Sl prEnc 2 lpp44 hpp44 _ (.slice (some ⟨x62, o63, none⟩) ts.length cpp44) ((caseOf true ms ts dl).plan ts.length))).cells hz64.out 1 _ rfl)⟩
        obtain ⟨wd67, hwd_⟩ : ∃ x : World, w57.drew = x := ⟨_, rfl⟩
        rw [hwd_] at F65 ⊢
        have wd67s : w57.heap.size ≤ wd67.heap.size := by rw [← hwd_]; exact Nat.le_refl _
        clear hwd_
        have hS66 := (And.intro ((((F65.at 3 rfl : Sl prEnc 2 lpp24 hpp24 _ (.slice (some ⟨x59, o60, none⟩) ts.length cpp24) ((caseOf false ms ts dl).plan ts.length))).cells hz61.out 0 _ rfl)) (And.intro ((((F65.at 1 rfl : Sl prEnc 2 lpp44 hpp44 _ (.slice (some ⟨x62, o63, none⟩) ts.length cpp44) ((caseOf true ms ts dl).plan ts.length))).cells hz64.out 0 _ rfl)) (And.intro ((((F65.at 3 rfl : Sl prEnc 2 lpp24 hpp24 _ (.slice (some ⟨x59, o60, none⟩) ts.length cpp24) ((caseOf false ms ts dl).plan ts.length))).cells hz61.out 1 _ rfl)) ((((F65.at 1 rfl : Sl prEnc 2 lpp44 hpp44 _ (.slice (some ⟨x62, o63, none⟩) ts.length cpp44) ((caseOf true ms ts dl).plan ts.length))).cells hz64.out 1 _ rfl)))))
        refine ru_t 0 [] ?_
        refine ru_t 1 [] ?_
        refine ru_t 2 [] ?_
        refine ru_t 3 [] ?_
        refine ru_t 4 [] ?_
        refine ru_t 5 [] ?_
        refine ru_t 6 [] ?_
        refine ru_t 7 [] ?_
        refine ru_t 8 [] ?_
        refine ru_t 9 [] ?_
        refine ru_t 10 [] ?_
        refine ru_t 11 [] ?_
        refine ru_t 12 [] ?_
        refine ru_t 13 [] ?_
        refine ru_t 14 [] ?_
        refine ru_t 15 [] ?_
        refine ru_t 16 [] ?_
        refine ru_t 17 [] ?_
        refine ru_t 18 [] ?_
        refine ru_t 19 [] ?_
        refine ru_t 20 [] ?_
        refine ru_t 21 [] ?_
        refine ru_t 22 [] ?_
        refine ru_t 23 [] ?_
        (try simp only [Act.put, List.setIfInBounds_toArray, List.set_cons_zero, List.set_cons_succ])
        clear hS66
        refine ru_one 24 rfl (by kernel_rfl) (fun K hK => ?_)
        go_simp
        have F68 := F65.new 55 #[.int .i64 (bgAt ((caseOf false ms ts dl).plan ts.length) k), .int .i64 (bgAt ((caseOf true ms ts dl).plan ts.length) k), .int .i64 (enAt ((caseOf false ms ts dl).plan ts.length) k), .int .i64 (enAt ((caseOf true ms ts dl).plan ts.length) k)] (n := wd67.heap.size) (by simp)
        clear F65
        refine ru_back hK (by exact ⟨(((F68.at 4 rfl : Sl prEnc 2 lpp24 hpp24 _ (.slice (some ⟨x59, o60, none⟩) ts.length cpp24) ((caseOf false ms ts dl).plan ts.length))).cells hz61.out 0 _ rfl), (((F68.at 2 rfl : Sl prEnc 2 lpp44 hpp44 _ (.slice (some ⟨x62, o63, none⟩) ts.length cpp44) ((caseOf true ms ts dl).plan ts.length))).cells hz64.out 0 _ rfl), (((F68.at 4 rfl : Sl prEnc 2 lpp24 hpp24 _ (.slice (some ⟨x59, o60, none⟩) ts.length cpp24) ((caseOf false ms ts dl).plan ts.length))).cells hz61.out 1 _ rfl), (((F68.at 2 rfl : Sl prEnc 2 lpp44 hpp44 _ (.slice (some ⟨x62, o63, none⟩) ts.length cpp44) ((caseOf true ms ts dl).plan ts.length))).cells hz64.out 1 _ rfl)⟩) (fun hHeld => ?_)
        clear hK K
        (try simp only [Act.put, List.setIfInBounds_toArray, List.set_cons_zero, List.set_cons_succ])
        refine ru_one 25 rfl (by kernel_rfl) (fun K hK => ?_)
        refine step_app _ okTim rfl _ _ rfl w.heap.size vo (timN (caseOf false ms ts dl) (caseOf true ms ts dl) ts.length k) [timAt (caseOf false ms ts dl) (caseOf true ms ts dl) ts.length k] rfl (by exact (F68.at 1 rfl : Own timEnc 55 4 w.heap.size _ vo (timN (caseOf false ms ts dl) (caseOf true ms ts dl) ts.length k))) ⟨_, 0, none⟩ 1 1 rfl rfl (by decide) (news_of (F68.at 0 rfl : Bk _ wd67.heap.size 55 #[.int .i64 (bgAt ((caseOf false ms ts dl).plan ts.length) k), .int .i64 (bgAt ((caseOf true ms ts dl).plan ts.length) k), .int .i64 (enAt ((caseOf false ms ts dl).plan ts.length) k), .int .i64 (enAt ((caseOf true ms ts dl).plan ts.length) k)])) (k + 1) (by rw [timN_len]) (by omega) (by first | omega | (simp; omega)) _ rfl ?_
        intro g69 cap70 w71 hp72
        have hp72s := hp72.gb.size
        (try simp at hp72s)
        have F73 := (F68.front 1 rfl rfl).app hp72 (Nat.le_refl _)
        clear F68
        refine ru_back hK (by exact ⟨(((F73.at 4 rfl : Sl prEnc 2 lpp24 hpp24 _ (.slice (some ⟨x59, o60, none⟩) ts.length cpp24) ((caseOf false ms ts dl).plan ts.length))).cells hz61.out 0 _ rfl), (((F73.at 2 rfl : Sl prEnc 2 lpp44 hpp44 _ (.slice (some ⟨x62, o63, none⟩) ts.length cpp44) ((caseOf true ms ts dl).plan ts.length))).cells hz64.out 0 _ rfl), (((F73.at 4 rfl : Sl prEnc 2 lpp24 hpp24 _ (.slice (some ⟨x59, o60, none⟩) ts.length cpp24) ((caseOf false ms ts dl).plan ts.length))).cells hz61.out 1 _ rfl), (((F73.at 2 rfl : Sl prEnc 2 lpp44 hpp44 _ (.slice (some ⟨x62, o63, none⟩) ts.length cpp44) ((caseOf true ms ts dl).plan ts.length))).cells hz64.out 1 _ rfl)⟩) (fun hHeld => ?_)
        clear hK K
        (try simp only [Act.put, List.setIfInBounds_toArray, List.set_cons_zero, List.set_cons_succ])
        refine ru_one 26 rfl (by kernel_rfl) (fun K hK => ?_)
        go_simp
        refine ru_back_late hK (by kernel_rfl) ?_
        clear hK K
        (try simp only [Act.put, List.setIfInBounds_toArray, List.set_cons_zero, List.set_cons_succ])
        refine ru_done (by kernel_rfl) ?_
        obtain ⟨w74, hx75, F77, hxs76⟩ := (show Bun w [rown timEnc 55 4 w.heap.size (.slice (some ⟨g69, 0, none⟩) (k + 1) cap70) (timN (caseOf false ms ts dl) (caseOf true ms ts dl) ts.length k ++ [timAt (caseOf false ms ts dl) (caseOf true ms ts dl) ts.length k]), rsl prEnc 2 lpp44 hpp44 (.slice (some ⟨x62, o63, none⟩) ts.length cpp44) ((caseOf true ms ts dl).plan ts.length), rcase lcq39 hcq39 v1q39 v2q39 v3q39 v4q39 lhq39 lwq39 lfq39 rwq39, rsl prEnc 2 lpp24 hpp24 (.slice (some ⟨x59, o60, none⟩) ts.length cpp24) ((caseOf false ms ts dl).plan ts.length), rcase lcq19 hcq19 v1q19 v2q19 v3q19 v4q19 lhq19 lwq19 lfq19 rwq19, rbox (w.heap.size + 1) 39 #[.int .i64 0, .int .i64 0], rsl weaEnc 6 lo2 hi2 (.slice ad dl.length cd) dl, rafs lo hi ts, rsl tskEnc 8 lo hi (.slice aT ts.length cT) ts, rsl mchEnc 3 lo hi (.slice aM ms.length cM) ms] _ from (F73.drop 1 rfl)).name
        (try simp at hxs76)
        rw [hx75]
        clear hx75 F73
        go_wp2_with fail
        (first | refine ⟨by kernel_rfl, ?_, ?_⟩ | refine ⟨rfl, ?_, ?_⟩ | refine ⟨?_, ?_⟩)
        · rw [HI54.out]; exact ⟨k + 1, _, (by first | kernel_rfl | rfl), (by first | kernel_rfl | rfl), (by first | kernel_rfl | rfl), (by first | kernel_rfl | rfl), (by first | kernel_rfl | rfl), (by first | kernel_rfl | rfl), (by show Value.int .i64 ((k : Int) + 1) = _; simp), (by omega), (by first | rfl | simp), (by first | omega | (simp; done) | (simp; omega)), (by rw [timN_succ]; exact F77)⟩
        · simp [slot, intOf]; omega
      · skip
        have c58H := Lib.hid c58
        have c58a : decide ((k : Int) < (ts.length : Int)) = false := dec_f c58
        have b78 := hF55.bx2 5 rfl
        go_wp2_with fail
        clear b78
        have F79 := (hF55.front 5 rfl rfl).pt2 (.int .i64 ((caseOf false ms ts dl).opn ts.length)) (.int .i64 ((caseOf true ms ts dl).opn ts.length))
        clear hF55
        have kb80 := F79.bx2 0 rfl
        go_wp2_with fail
        exact bodyPost_ret (v := .tuple #[vo, .agg #[.int .i64 ((caseOf false ms ts dl).opn ts.length), .int .i64 ((caseOf true ms ts dl).opn ts.length)], .int .i64 0]) (by simp [results, Try.results21, go_sem, kb80]) rfl ((TimesR.yes c12H.out rfl rfl (by have h_ := (F79.at 1 rfl : Own timEnc 55 4 w.heap.size _ vo (timN (caseOf false ms ts dl) (caseOf true ms ts dl) ts.length k)); rwa [show k = ts.length by omega] at h_) F79.gb rfl))
    case atStart1 =>
      rw [HI54.out]
      exact ⟨0, _, (by first | kernel_rfl | rfl), (by first | kernel_rfl | rfl), (by first | kernel_rfl | rfl), (by first | kernel_rfl | rfl), (by first | kernel_rfl | rfl), rfl, rfl, Nat.zero_le _, rfl, (by first | exact Nat.le_refl _ | omega | (simp; done) | (simp; omega)), F53⟩
  · skip
    have c12a : ((bothErr ms ts dl) == 0) = false := beq_f c12
    have c12b : ((bothErr ms ts dl) != 0) = true := bne_t c12
    have c12H := Lib.hid c12
    clear c12
    have b81 := F11.bx2 0 rfl
    go_wp2_with fail
    clear b81
    have F82 := F11.pt2 (.int .i64 0) (.int .i64 0)
    clear F11
    have kb83 := F82.bx2 0 rfl
    go_wp2_with fail
    exact bodyPost_ret (v := .tuple #[.slice none 0 0, .agg #[.int .i64 0, .int .i64 0], .int .i64 (bothErr ms ts dl)]) (by simp [results, Try.results21, go_sem, kb83]) rfl ((TimesR.no c12H.out F82.gb rfl))

end Go.Proofs.Ytokelpmngahnoaa
