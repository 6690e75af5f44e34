/- build and its reference: when a task ends. -/
import Derived.Test.YtcoldeolmleeiaaGreatKJ7
import Derived.Test.YtcoldeolmleeiaaGreatKK1
set_option linter.unusedVariables false
set_option linter.unusedSimpArgs false
set_option linter.unnecessarySimpa false
namespace Go.Proofs.YtcoldeolmleeiaaGreat
open Go.RowKit Go.Shelf
set_option maxRecDepth 100000
attribute [local go_sem] Oper.semAt_some
def bgL (c : Cs) (n : Nat) : List Int := (c.plan n).map (fun x => x.1)
def enL (c : Cs) (n : Nat) : List Int := (c.plan n).map (fun x => x.2)
theorem bgL_len (c : Cs) (n : Nat) : (bgL c n).length = n := by simp [bgL, Cs.plan_len]
theorem enL_len (c : Cs) (n : Nat) : (enL c n).length = n := by simp [enL, Cs.plan_len]
theorem bgL_succ (c : Cs) (n : Nat) : bgL c (n + 1) = bgL c n ++ [c.bgn (c.plan n) n] := by simp [bgL, Cs.plan]
theorem enL_succ (c : Cs) (n : Nat) : enL c (n + 1) = enL c n ++ [c.fin (c.m n) (c.bgn (c.plan n) n) (c.ho n)] := by simp [enL, Cs.plan]
theorem enL_get (c : Cs) {n k : Nat} (h : k < n) : (enL c n)[k]? = some (enAt (c.plan n) k) := by
 have hk : k < (c.plan n).length := by rw [c.plan_len]; exact h
 unfold enL enAt
 rw [List.getElem?_map, List.getElem?_eq_getElem hk, List.getD_eq_getElem?_getD, List.getElem?_eq_getElem hk]
 rfl
theorem bgL_get (c : Cs) {n k : Nat} (h : k < n) : (bgL c n)[k]? = some (bgAt (c.plan n) k) := by
 have hk : k < (c.plan n).length := by rw [c.plan_len]; exact h
 unfold bgL bgAt
 rw [List.getElem?_map, List.getElem?_eq_getElem hk, List.getD_eq_getElem?_getD, List.getElem?_eq_getElem hk]
 rfl
theorem tk_at {ts : List Tsk} {k : Nat} (h : k < ts.length) : ts[k]? = some (tk ts k) := by rw [List.getElem?_eq_getElem h, tk_get (List.getElem?_eq_getElem h)]
theorem mc_at {ms : List Mch} {k : Nat} (h : k < ms.length) : ms[k]? = some (mc ms k) := by rw [List.getElem?_eq_getElem h, mc_get (List.getElem?_eq_getElem h)]
theorem Cs.aft_take (c : Cs) {P : List (Int × Int)} {b : Int} {l : List Int} {j n : Nat} (h : l[j]? = some (n : Int)) : c.aft P b (l.take (j + 1)) = max (c.aft P b (l.take j)) (enAt P n + c.wa n) := by
 rw [← take_snoc h]
 unfold Cs.aft
 rw [List.foldl_append, List.foldl_cons, List.foldl_nil, Int.toNat_natCast]
structure CsOk (c : Cs) : Prop where
 ho : ∀ i, 0 <= c.ho i /\ c.ho i <= 4000
 wa : ∀ i, 0 <= c.wa i /\ c.wa i <= 4000
 fr : ∀ i, 0 <= c.fr i /\ c.fr i <= 4000
 nd : c.nd <= 400
theorem caseOk {wb : Bool} {ms : List Mch} {ts : List Tsk} {dl : List Wea} (h : JobOk ms ts) (hn : dl.length <= 400) : CsOk (caseOf wb ms ts dl) := by
 refine ⟨fun i => ?_, fun i => ?_, fun i => ?_, hn⟩
 all_goals
  have := tk_ok h i
  show 0 <= num wb _ /\ num wb _ <= 4000
  unfold num
  split <;> omega
theorem bgn_of {c : Cs} {k : Nat} {x q : Int} (hf : 0 <= c.fr k) (hx : c.aft (c.plan k) (c.fr k) (c.af k) = x) (h : 0 <= c.bef (c.m k) k) (hq : enAt (c.plan k) (c.bef (c.m k) k).toNat = q) : c.bgn (c.plan k) k = min (max x q) c.past := by
 unfold Cs.bgn
 rw [c.last_bef, if_pos h, c.aft_max, hx, hq]
theorem bgn_of' {c : Cs} {k : Nat} {x : Int} (hf : 0 <= c.fr k) (hx : c.aft (c.plan k) (c.fr k) (c.af k) = x) (h : ¬ 0 <= c.bef (c.m k) k) : c.bgn (c.plan k) k = min x c.past := by
 unfold Cs.bgn
 rw [c.last_bef, if_neg h, c.aft_max, hx]
 have := c.aft_le (c.plan k) (c.af k) (c.fr k)
 omega
set_option maxHeartbeats 8000000 in
theorem endb_c (lo hi : Nat) (vm vt va : Value) (ms : List Mch) (ts : List Tsk) (lo2 hi2 : Nat) (vd : Value) (dl : List Wea) (u : Tsk) (x : Mch) (b : Nat) (w : World) (hms : Sl mchEnc 3 lo hi w vm ms) (h2 : hi <= w.heap.size) (hd : Sl weaEnc 6 lo2 hi2 w vd dl) (h3 : hi2 <= w.heap.size) (hmx : ms[u.m.toNat]? = some x) (hum : 0 <= u.m) (hmo : MchOk x) (hn : dl.length <= 400) (hb : (b : Int) <= 24 * (dl.length : Int) + 1) (hho : 0 <= u.ho.lo /\ u.ho.lo <= 20000) :
  Calls Tryz.prog 48 #[.agg #[.func (.func 41) #[] #[], .func (.func 42) #[] #[], vm, vt, vd], .agg #[.int .i64 u.m, .int .i64 u.ho.lo, .int .i64 u.ho.hi, .int .i64 u.wa.lo, .int .i64 u.wa.hi, .int .i64 u.fr.lo, .int .i64 u.fr.hi, va], .int .i64 (b : Int)] w (Ret (.int .i64 ((caseOf false ms ts dl).fin u.m (b : Int) u.ho.lo)) w) := by
 have F1 : Bun w [] w := Bun.nil _
 have hm_ms := hms.len
 unfold maxLen at hm_ms
 obtain ⟨aM, cM, rfl⟩ := hms.any
 replace F1 := F1.sl0 hms h2 rfl
 clear hms
 have hm_ds := hd.len
 unfold maxLen at hm_ds
 obtain ⟨aD, cD, rfl⟩ := hd.any
 replace F1 := F1.sl0 hd h3 rfl
 clear hd
 have hml := (List.getElem?_eq_some_iff.1 hmx).1
 obtain ⟨x4, o5, e_⟩ := Sl.addr (F1.s 1 rfl) (by omega)
 subst e_
 have hz6 : Hid (ms[u.m.toNat]? = some x) := lhd (hmx)
 have HHS : Hid ((caseOf false ms ts dl).hs u.m b = (hsL (whX false x dl) b (24 * dl.length - b))) := lhd (by unfold Cs.hs; rw [whX_case hmx]; rfl)
 have HPA : Hid ((caseOf false ms ts dl).past = 24 * (dl.length : Int) + 1) := lhd rfl
 have HMO := lhd hmo
 have hml2 : u.m < (ms.length : Int) := by omega
 clear hmx hmo
 replace F1 := F1.marks0
 refine callsIn_wide.1 (callsIn_of_wp_marks (n := 0) Tryz.func48 rfl trivial ?_ rfl)
 simp only [Tryz.ntmps48, List.size_toArray, List.length_cons, List.length_nil, Nat.reduceAdd, Nat.reduceSub, Array.replicate_succ, Array.replicate_zero, List.push_toArray, List.append_toArray, List.nil_append, List.cons_append]
 refine wpIn_wide.2 ?_
 refine wp_mono (Q := calmQ _) ?_ calmQ_le
 go_wp2_with fail
 replace F1 := F1.new 69 #[.func (.func 41) #[] #[], .func (.func 42) #[] #[], .slice (some ⟨x4, o5, none⟩) ms.length cM, vt, .slice aD dl.length cD] (n := w.heap.size) (by simp)
 replace F1 := F1.new 34 #[.int .i64 u.m, .int .i64 u.ho.lo, .int .i64 u.ho.hi, .int .i64 u.wa.lo, .int .i64 u.wa.hi, .int .i64 u.fr.lo, .int .i64 u.fr.hi, va] (n := (w.heap.size + 1)) (by simp)
 replace F1 := F1.new 3 #[.int .i64 0] (n := (w.heap.size + 2)) (by simp)
 refine (pickb_n _ _ _).mono ?_
 rintro e w13 ⟨rfl, hg11⟩
 have hg11s := hg11.size
 (try simp at hg11s)
 replace F1 := F1.gn hg11
 clear hg11
 by_cases c15 : u.ho.lo = 0
 ·
  obtain ⟨c15a, c15b⟩ := bqt c15
  have c15H := lhd c15
  clear c15
  have Hx16 := lhd (show ((caseOf false ms ts dl).fin u.m (b : Int) u.ho.lo) = (b : Int) by exact Cs.fin_now _ (by have := HPA.out; have h_ := c15H.out; omega) (by have := HPA.out; omega))
  have b17 := F1.bx1 0 rfl
  go_wp2_with fail
  clear b17
  have F18 := (F1.set 0 (.int .i64 (b : Int))).nf #[.int .i64 (b : Int)] rfl
  clear F1
  replace F18 := F18.new 3 #[.int .i64 u.ho.lo] (n := w13.heap.size) (by simp)
  have kb20 := F18.bx1 1 rfl
  go_wp2_with fail
  refine leave_marks (F18.front 4 rfl rfl).marks (.int .i64 (b : Int)) fun w' hs => ?_
  have km21 := Bk.bx1 (hs.bk ((F18.front 4 rfl rfl).at 2 rfl : Bk _ (w.heap.size + 2) 3 #[.int .i64 (b : Int)]))
  exact ⟨by simp [results, Tryz.results48, go_sem, km21], ⟨by rw [Hx16.out] <;> rfl, hs.gb (F18.front 4 rfl rfl).gb (Nat.le_refl _)⟩⟩
 obtain ⟨c15a, c15b⟩ := bqf c15
 have c15H := lhd c15
 clear c15
 have b22 := F1.bx5 2 rfl
 go_wp2_with fail
 clear b22
 replace F1 := F1.new 3 #[.int .i64 u.ho.lo] (n := w13.heap.size) (by simp)
 refine (past_c (.func (.func 41) #[] #[]) (.func (.func 42) #[] #[]) (.slice (some ⟨x4, o5, none⟩) ms.length cM) vt aD cD _ _ (by omega)).mono ?_
 rintro e w26 ⟨rfl, hg24⟩
 have hg24s := hg24.size
 (try simp at hg24s)
 replace F1 := F1.gn hg24
 clear hg24
 by_cases c28 : 24 * (dl.length : Int) + 1 <= (b : Int)
 ·
  have c28H := lhd c28
  have Hx29 := lhd (show ((caseOf false ms ts dl).fin u.m (b : Int) u.ho.lo) = (b : Int) by exact Cs.fin_now _ (by have := HPA.out; have h_ := c15H.out; omega) (by have := HPA.out; omega))
  have b30 := F1.bx1 1 rfl
  go_wp2_with fail
  clear b30
  have F31 := ((F1.front 1 rfl rfl).set 0 (.int .i64 (b : Int))).nf #[.int .i64 (b : Int)] rfl
  clear F1
  have kb32 := F31.bx1 0 rfl
  go_wp2_with fail
  refine leave_marks (F31.front 4 rfl rfl).marks (.int .i64 (b : Int)) fun w' hs => ?_
  have km33 := Bk.bx1 (hs.bk ((F31.front 4 rfl rfl).at 1 rfl : Bk _ (w.heap.size + 2) 3 #[.int .i64 (b : Int)]))
  exact ⟨by simp [results, Tryz.results48, go_sem, km33], ⟨by rw [Hx29.out] <;> rfl, hs.gb (F31.front 4 rfl rfl).gb (Nat.le_refl _)⟩⟩
 have c28H := lhd c28
 have c28a := dec_f c28
 go_wp2_with fail
 replace F1 := F1.drew
 refine ru_begin (fun W => C5 W w.heap.size (.func (.func 41) #[] #[]) (.func (.func 42) #[] #[]) (.slice (some ⟨x4, o5, none⟩) ms.length cM) vt (.slice aD dl.length cD) /\ W.cell? ⟨(w.heap.size + 1), 0, none⟩ = some (.int .i64 u.m) /\ W.cell? ⟨x4, o5 + (u.m.toNat) * 3, none⟩ = some (.int .i64 x.mild) /\ W.cell? ⟨x4, o5 + (u.m.toNat) * 3 + 1, none⟩ = some (.int .i64 x.hard) /\ W.cell? ⟨x4, o5 + (u.m.toNat) * 3 + 2, none⟩ = some (.int .i64 x.shift)) 9 (by kernel_rfl) ?_ ?_
 · exact ⟨F1.c5 3, F1.q 2 0, (Sl.cells (F1.at 6 rfl) hz6.out 0 _ rfl), (Sl.cells (F1.at 6 rfl) hz6.out 1 _ rfl), (Sl.cells (F1.at 6 rfl) hz6.out 2 _ rfl)⟩
 obtain ⟨wd38, hwd_⟩ : ∃ x : World, w26.drew = x := ⟨_, rfl⟩
 rw [hwd_] at F1 ⊢
 have wd38s : w26.heap.size <= wd38.heap.size := by rw [← hwd_]; exact Nat.le_refl _
 clear hwd_
 have hS37 := (And.intro (F1.c5 3) (And.intro (F1.q 2 0) (And.intro ((Sl.cells (F1.at 6 rfl) hz6.out 0 _ rfl)) (And.intro ((Sl.cells (F1.at 6 rfl) hz6.out 1 _ rfl)) ((Sl.cells (F1.at 6 rfl) hz6.out 2 _ rfl))))))
 refine ru_t 0 [] ?_
 refine ru_t 1 [7, 6, 3, 2] ?_
 refine ru_t 2 [7, 6, 3] ?_
 refine ru_t 3 [7, 6] ?_
 refine ru_t 4 [7, 6, 5] ?_
 refine ru_t 5 [7, 6] ?_
 refine ru_t 6 [7] ?_
 refine ru_t 7 [] ?_
 refine ru_t 8 [] ?_
 (try simp only [lpX])
 clear hS37
 refine ru_o 9 fun K hK => ?_
 go_simp
 refine (shifts_c (.func (.func 41) #[] #[]) (.func (.func 42) #[] #[]) (.slice (some ⟨x4, o5, none⟩) ms.length cM) vt (.slice aD dl.length cD) x (b : Int) _).mono ?_
 rintro e w42 ⟨pd39, pd39e, rfl, hg40, hX39⟩
 have hg40s := hg40.size
 (try simp at hg40s)
 replace F1 := F1.add (rext pd39 (pd39 + 3) (HoldS pd39 (.func (.func 41) #[] #[]) (.func (.func 42) #[] #[]) (.slice (some ⟨x4, o5, none⟩) ms.length cM) vt (.slice aD dl.length cD) x (b : Int)) (fun _ _ _ hg hr h => h.gb hg hr)) hg40 (hX39) (rext_in (by rw [← pd39e]; exact Nat.le_refl _) hX39.2.2.lt)
 refine ru_back_late hK (by kernel_rfl) ?_
 clear hK K
 (try simp only [lpX])
 refine ru_done (by kernel_rfl) ?_
 have Fn_ := (F1.drop 3 rfl)
 (try dsimp only [lpF, lpG] at Fn_)
 obtain ⟨w44, hx45, F47, hxs46⟩ := Fn_.name
 (try simp at hxs46)
 rw [hx45]
 clear hx45 F1 Fn_
 go_wp2_with fail
 refine wp_rangeI (gf := 84) (lb := #[.pointer (some ⟨pd39 + 2, 0, none⟩), .pointer (some ⟨pd39, 0, none⟩), .pointer (some ⟨pd39 + 1, 0, none⟩)]) rfl (enters_of Tryz.func84 (by kernel_rfl) rfl) (fun _ => rfl) (shiftsb_seq pd39 lo2 hi2 (.slice (some ⟨x4, o5, none⟩) ms.length cM) vt x b aD cD dl HMO.out hn (by omega)) (fun hq_ i A => ∃ (lf : Int), lf + (i : Int) = u.ho.lo /\ 0 < lf /\ Bun w [rkeep w44.heap.size hq_ A, rext pd39 (pd39 + 3) (HoldS pd39 (.func (.func 41) #[] #[]) (.func (.func 42) #[] #[]) (.slice (some ⟨x4, o5, none⟩) ms.length cM) vt (.slice aD dl.length cD) x (b : Int)) (fun _ _ _ hg hr h => h.gb hg hr), rbox w13.heap.size 3 #[.int .i64 lf], rbox (w.heap.size + 2) 3 #[.int .i64 0], rbox w.heap.size 69 #[.func (.func 41) #[] #[], .func (.func 42) #[] #[], .slice (some ⟨x4, o5, none⟩) ms.length cM, vt, .slice aD dl.length cD], rmarks [], rsl weaEnc 6 lo2 hi2 (.slice aD dl.length cD) dl, rsl mchEnc 3 lo hi (.slice (some ⟨x4, o5, none⟩) ms.length cM) ms] A) (fun cd hq_ i A => cd = .ret /\ ∃ (lf : Int), lf = 0 /\ 0 < i /\ (i : Int) = u.ho.lo /\ Bun w [rkeep w44.heap.size hq_ A, rext pd39 (pd39 + 3) (HoldS pd39 (.func (.func 41) #[] #[]) (.func (.func 42) #[] #[]) (.slice (some ⟨x4, o5, none⟩) ms.length cM) vt (.slice aD dl.length cD) x (b : Int)) (fun _ _ _ hg hr h => h.gb hg hr), rbox w13.heap.size 3 #[.int .i64 lf], rbox (w.heap.size + 2) 3 #[.int .i64 (hsAt (hsL (whX false x dl) b (24 * dl.length - b)) (i - 1) + 1)], rbox w.heap.size 69 #[.func (.func 41) #[] #[], .func (.func 42) #[] #[], .slice (some ⟨x4, o5, none⟩) ms.length cM, vt, .slice aD dl.length cD], rmarks [], rsl weaEnc 6 lo2 hi2 (.slice aD dl.length cD) dl, rsl mchEnc 3 lo hi (.slice (some ⟨x4, o5, none⟩) ms.length cM) ms] A) ?hI48 ?hIx48 ?hH48 ?h048 ?round48 ?done48 ?stop48
 case hI48 =>
  rintro hq_ i A B r ⟨lf, hlf, hlp, F_⟩ hg hr
  exact ⟨lf, hlf, hlp, F_.rekeep hg hr⟩
 case hIx48 =>
  rintro _ hq_ i A B r ⟨rfl, lf, hlf0, hi0, hiu, F_⟩ hg hr
  exact ⟨rfl, lf, hlf0, hi0, hiu, F_.rekeep hg hr⟩
 case hH48 =>
  rintro hq_ i A ⟨lf, hlf, hlp, F_⟩
  exact ⟨⟨(F_.at 1 rfl : HoldS _ _ _ _ _ _ _ _ _), (F_.s 6 rfl), (by omega)⟩, F_.kept.1⟩
 case h048 =>
  intro hq_ B hg hs hle
  exact ⟨_, (by simp), (by have h_ := c15H.out; omega), F47.keep0 hg (Nat.le_refl _) (by omega)⟩
 case round48 =>
  rintro l48 hi48 i W48 ⟨lf, hlf, hlp, F48_⟩ hlt48 hle48 hhW48
  clear F47
  have hbe := hsAt_bd (f := whX false x dl) (b := b) (n := 24 * dl.length - b) (i := i) (by omega)
  gi_wp2_with fail
  refine And.intro F48_.kept (fun W48b hg48b => ?_)
  have hg48bs := hg48b.size
  (try simp at hg48bs)
  have F49 := F48_.rekeep hg48b (fun g e => by cases e; omega)
  clear F48_
  by_cases c50 : lf - 1 = 0
  ·
   obtain ⟨c50a, c50b⟩ := bqt c50
   have c50H := lhd c50
   clear c50
   have b51 := F49.bx1 2 rfl
   have b52 := F49.bx1 3 rfl
   gi_wp2_with fail
   clear b51 b52
   have F53 := ((F49.front 2 rfl rfl).set 0 (.int .i64 (lf - 1))).nf #[.int .i64 (lf - 1)] rfl
   clear F49
   have F54 := ((F53.front 3 rfl rfl).set 0 (.int .i64 ((hsAt (hsL (whX false x dl) b (24 * dl.length - b)) i) + 1))).nf #[.int .i64 ((hsAt (hsL (whX false x dl) b (24 * dl.length - b)) i) + 1)] rfl
   clear F53
   have F55 : Bun w [rkeep w44.heap.size hi48 W48b, rext pd39 (pd39 + 3) (HoldS pd39 (.func (.func 41) #[] #[]) (.func (.func 42) #[] #[]) (.slice (some ⟨x4, o5, none⟩) ms.length cM) vt (.slice aD dl.length cD) x (b : Int)) (fun _ _ _ hg hr h => h.gb hg hr), rbox w13.heap.size 3 #[.int .i64 (lf - 1)], rbox (w.heap.size + 2) 3 #[.int .i64 ((hsAt (hsL (whX false x dl) b (24 * dl.length - b)) i) + 1)], rbox w.heap.size 69 #[.func (.func 41) #[] #[], .func (.func 42) #[] #[], .slice (some ⟨x4, o5, none⟩) ms.length cM, vt, .slice aD dl.length cD], rmarks [], rsl weaEnc 6 lo2 hi2 (.slice aD dl.length cD) dl, rsl mchEnc 3 lo hi (.slice (some ⟨x4, o5, none⟩) ms.length cM) ms] _ := F54.pick [2, 3, 1, 0, 4, 5, 6, 7] (by decide) rfl
   clear F54
   refine And.intro F55.kept ?_
   exact ⟨rfl, _, c50H.out, Nat.succ_pos _, (by have h_ := c50H.out; push_cast; omega), F55.rekeep (gb_refl _ none) (fun _ e => by cases e)⟩
  obtain ⟨c50a, c50b⟩ := bqf c50
  have c50H := lhd c50
  clear c50
  have b56 := F49.bx1 2 rfl
  gi_wp2_with fail
  clear b56
  have F57 := ((F49.front 2 rfl rfl).set 0 (.int .i64 (lf - 1))).nf #[.int .i64 (lf - 1)] rfl
  clear F49
  have F58 : Bun w [rkeep w44.heap.size hi48 W48b, rext pd39 (pd39 + 3) (HoldS pd39 (.func (.func 41) #[] #[]) (.func (.func 42) #[] #[]) (.slice (some ⟨x4, o5, none⟩) ms.length cM) vt (.slice aD dl.length cD) x (b : Int)) (fun _ _ _ hg hr h => h.gb hg hr), rbox w13.heap.size 3 #[.int .i64 (lf - 1)], rbox (w.heap.size + 2) 3 #[.int .i64 0], rbox w.heap.size 69 #[.func (.func 41) #[] #[], .func (.func 42) #[] #[], .slice (some ⟨x4, o5, none⟩) ms.length cM, vt, .slice aD dl.length cD], rmarks [], rsl weaEnc 6 lo2 hi2 (.slice aD dl.length cD) dl, rsl mchEnc 3 lo hi (.slice (some ⟨x4, o5, none⟩) ms.length cM) ms] _ := F57.pick [1, 2, 0, 3, 4, 5, 6, 7] (by decide) rfl
  clear F57
  refine And.intro F58.kept ?_
  exact ⟨lf - 1, (by push_cast; omega), (by have h_ := c50H.out; omega), F58.rekeep (gb_refl _ none) (fun _ e => by cases e)⟩
 case done48 =>
  rintro hi48 W48 hle48 ⟨lf, hlf, hlp, F48_⟩ hK48
  clear F47
  have F59 : Bun w [rkeep w44.heap.size hi48 W48, rmarks [], rext pd39 (pd39 + 3) (HoldS pd39 (.func (.func 41) #[] #[]) (.func (.func 42) #[] #[]) (.slice (some ⟨x4, o5, none⟩) ms.length cM) vt (.slice aD dl.length cD) x (b : Int)) (fun _ _ _ hg hr h => h.gb hg hr), rbox w13.heap.size 3 #[.int .i64 lf], rbox (w.heap.size + 2) 3 #[.int .i64 0], rbox w.heap.size 69 #[.func (.func 41) #[] #[], .func (.func 42) #[] #[], .slice (some ⟨x4, o5, none⟩) ms.length cM, vt, .slice aD dl.length cD], rsl weaEnc 6 lo2 hi2 (.slice aD dl.length cD) dl, rsl mchEnc 3 lo hi (.slice (some ⟨x4, o5, none⟩) ms.length cM) ms] _ := F48_.pick [0, 5, 1, 2, 3, 4, 6, 7] (by decide) rfl
  clear F48_
  have hiW48 := F59.kept.1
  replace F59 := F59.mark (by omega) hK48
  have HE2 : Hid ((caseOf false ms ts dl).fin u.m (b : Int) u.ho.lo = 24 * (dl.length : Int) + 1) := lhd ((Cs.fin_no _ (by have := HPA.out; omega) (by rw [Int.toNat_natCast, HHS.out]; omega)).trans HPA.out)
  have b61 := F59.bx5 4 rfl
  go_wp2_with fail
  clear b61
  refine (past_c (.func (.func 41) #[] #[]) (.func (.func 42) #[] #[]) (.slice (some ⟨x4, o5, none⟩) ms.length cM) vt aD cD _ _ (by omega)).mono ?_
  rintro e w64 ⟨rfl, hg62⟩
  have hg62s := hg62.size
  (try simp at hg62s)
  replace F59 := F59.gn hg62
  clear hg62
  have Hx66 := lhd (show ((caseOf false ms ts dl).fin u.m (b : Int) u.ho.lo) = (24 * (dl.length : Int) + 1) by exact HE2.out)
  have b67 := F59.bx1 3 rfl
  go_wp2_with fail
  clear b67
  have F68 := ((F59.front 3 rfl rfl).set 0 (.int .i64 (24 * (dl.length : Int) + 1))).nf #[.int .i64 (24 * (dl.length : Int) + 1)] rfl
  clear F59
  have kb69 := F68.bx1 0 rfl
  go_wp2_with fail
  refine leave_marks (F68.front 1 rfl rfl).marks (.int .i64 (24 * (dl.length : Int) + 1)) fun w' hs => ?_
  have km70 := Bk.bx1 (hs.bk ((F68.front 1 rfl rfl).at 1 rfl : Bk _ (w.heap.size + 2) 3 #[.int .i64 (24 * (dl.length : Int) + 1)]))
  exact ⟨by simp [results, Tryz.results48, go_sem, km70], ⟨by rw [Hx66.out] <;> rfl, hs.gb (F68.front 1 rfl rfl).gb (Nat.le_refl _)⟩⟩
 case stop48 =>
  rintro _ hi48 i W48 hle48 hiN48 ⟨rfl, lf, hlf0, hi0, hiu, F48_⟩ hK48
  clear F47
  have F71 : Bun w [rkeep w44.heap.size hi48 W48, rmarks [], rext pd39 (pd39 + 3) (HoldS pd39 (.func (.func 41) #[] #[]) (.func (.func 42) #[] #[]) (.slice (some ⟨x4, o5, none⟩) ms.length cM) vt (.slice aD dl.length cD) x (b : Int)) (fun _ _ _ hg hr h => h.gb hg hr), rbox w13.heap.size 3 #[.int .i64 lf], rbox (w.heap.size + 2) 3 #[.int .i64 (hsAt (hsL (whX false x dl) b (24 * dl.length - b)) (i - 1) + 1)], rbox w.heap.size 69 #[.func (.func 41) #[] #[], .func (.func 42) #[] #[], .slice (some ⟨x4, o5, none⟩) ms.length cM, vt, .slice aD dl.length cD], rsl weaEnc 6 lo2 hi2 (.slice aD dl.length cD) dl, rsl mchEnc 3 lo hi (.slice (some ⟨x4, o5, none⟩) ms.length cM) ms] _ := F48_.pick [0, 5, 1, 2, 3, 4, 6, 7] (by decide) rfl
  clear F48_
  have hiW48 := F71.kept.1
  replace F71 := F71.mark (by omega) hK48
  have HE : Hid ((caseOf false ms ts dl).fin u.m (b : Int) u.ho.lo = hsAt (hsL (whX false x dl) b (24 * dl.length - b)) (i - 1) + 1) := lhd (Cs.fin_yes _ (k := i - 1) (by omega) (by have := HPA.out; omega) (by omega) (x := ((hsL (whX false x dl) b (24 * dl.length - b)).getD (i - 1) 0)) (by rw [Int.toNat_natCast, HHS.out, List.getD_eq_getElem?_getD, List.getElem?_eq_getElem (by omega)]; rfl))
  have Hx73 := lhd (show ((caseOf false ms ts dl).fin u.m (b : Int) u.ho.lo) = hsAt (hsL (whX false x dl) b (24 * dl.length - b)) (i - 1) + 1 by exact HE.out)
  go_wp2_with fail
  have kb74 := F71.bx1 3 rfl
  go_wp2_with fail
  refine leave_marks F71.marks (.int .i64 (hsAt (hsL (whX false x dl) b (24 * dl.length - b)) (i - 1) + 1)) fun w' hs => ?_
  have km75 := Bk.bx1 (hs.bk (F71.b 3 rfl))
  exact ⟨by simp [results, Tryz.results48, go_sem, km75], ⟨by rw [Hx73.out] <;> rfl, hs.gb F71.gb (Nat.le_refl _)⟩⟩
set_option maxHeartbeats 8000000 in
theorem endw_c (lo hi : Nat) (vm vt va : Value) (ms : List Mch) (ts : List Tsk) (lo2 hi2 : Nat) (vd : Value) (dl : List Wea) (u : Tsk) (x : Mch) (b : Nat) (w : World) (hms : Sl mchEnc 3 lo hi w vm ms) (h2 : hi <= w.heap.size) (hd : Sl weaEnc 6 lo2 hi2 w vd dl) (h3 : hi2 <= w.heap.size) (hmx : ms[u.m.toNat]? = some x) (hum : 0 <= u.m) (hmo : MchOk x) (hn : dl.length <= 400) (hb : (b : Int) <= 24 * (dl.length : Int) + 1) (hho : 0 <= u.ho.hi /\ u.ho.hi <= 20000) :
  Calls Tryz.prog 48 #[.agg #[.func (.func 43) #[] #[], .func (.func 44) #[] #[], vm, vt, vd], .agg #[.int .i64 u.m, .int .i64 u.ho.lo, .int .i64 u.ho.hi, .int .i64 u.wa.lo, .int .i64 u.wa.hi, .int .i64 u.fr.lo, .int .i64 u.fr.hi, va], .int .i64 (b : Int)] w (Ret (.int .i64 ((caseOf true ms ts dl).fin u.m (b : Int) u.ho.hi)) w) := by
 have F1 : Bun w [] w := Bun.nil _
 have hm_ms := hms.len
 unfold maxLen at hm_ms
 obtain ⟨aM, cM, rfl⟩ := hms.any
 replace F1 := F1.sl0 hms h2 rfl
 clear hms
 have hm_ds := hd.len
 unfold maxLen at hm_ds
 obtain ⟨aD, cD, rfl⟩ := hd.any
 replace F1 := F1.sl0 hd h3 rfl
 clear hd
 have hml := (List.getElem?_eq_some_iff.1 hmx).1
 obtain ⟨x4, o5, e_⟩ := Sl.addr (F1.s 1 rfl) (by omega)
 subst e_
 have hz6 : Hid (ms[u.m.toNat]? = some x) := lhd (hmx)
 have HHS : Hid ((caseOf true ms ts dl).hs u.m b = (hsL (whX true x dl) b (24 * dl.length - b))) := lhd (by unfold Cs.hs; rw [whX_case hmx]; rfl)
 have HPA : Hid ((caseOf true ms ts dl).past = 24 * (dl.length : Int) + 1) := lhd rfl
 have HMO := lhd hmo
 have hml2 : u.m < (ms.length : Int) := by omega
 clear hmx hmo
 replace F1 := F1.marks0
 refine callsIn_wide.1 (callsIn_of_wp_marks (n := 0) Tryz.func48 rfl trivial ?_ rfl)
 simp only [Tryz.ntmps48, List.size_toArray, List.length_cons, List.length_nil, Nat.reduceAdd, Nat.reduceSub, Array.replicate_succ, Array.replicate_zero, List.push_toArray, List.append_toArray, List.nil_append, List.cons_append]
 refine wpIn_wide.2 ?_
 refine wp_mono (Q := calmQ _) ?_ calmQ_le
 go_wp2_with fail
 replace F1 := F1.new 69 #[.func (.func 43) #[] #[], .func (.func 44) #[] #[], .slice (some ⟨x4, o5, none⟩) ms.length cM, vt, .slice aD dl.length cD] (n := w.heap.size) (by simp)
 replace F1 := F1.new 34 #[.int .i64 u.m, .int .i64 u.ho.lo, .int .i64 u.ho.hi, .int .i64 u.wa.lo, .int .i64 u.wa.hi, .int .i64 u.fr.lo, .int .i64 u.fr.hi, va] (n := (w.heap.size + 1)) (by simp)
 replace F1 := F1.new 3 #[.int .i64 0] (n := (w.heap.size + 2)) (by simp)
 refine (pickw_n _ _ _).mono ?_
 rintro e w13 ⟨rfl, hg11⟩
 have hg11s := hg11.size
 (try simp at hg11s)
 replace F1 := F1.gn hg11
 clear hg11
 by_cases c15 : u.ho.hi = 0
 ·
  obtain ⟨c15a, c15b⟩ := bqt c15
  have c15H := lhd c15
  clear c15
  have Hx16 := lhd (show ((caseOf true ms ts dl).fin u.m (b : Int) u.ho.hi) = (b : Int) by exact Cs.fin_now _ (by have := HPA.out; have h_ := c15H.out; omega) (by have := HPA.out; omega))
  have b17 := F1.bx1 0 rfl
  go_wp2_with fail
  clear b17
  have F18 := (F1.set 0 (.int .i64 (b : Int))).nf #[.int .i64 (b : Int)] rfl
  clear F1
  replace F18 := F18.new 3 #[.int .i64 u.ho.hi] (n := w13.heap.size) (by simp)
  have kb20 := F18.bx1 1 rfl
  go_wp2_with fail
  refine leave_marks (F18.front 4 rfl rfl).marks (.int .i64 (b : Int)) fun w' hs => ?_
  have km21 := Bk.bx1 (hs.bk ((F18.front 4 rfl rfl).at 2 rfl : Bk _ (w.heap.size + 2) 3 #[.int .i64 (b : Int)]))
  exact ⟨by simp [results, Tryz.results48, go_sem, km21], ⟨by rw [Hx16.out] <;> rfl, hs.gb (F18.front 4 rfl rfl).gb (Nat.le_refl _)⟩⟩
 obtain ⟨c15a, c15b⟩ := bqf c15
 have c15H := lhd c15
 clear c15
 have b22 := F1.bx5 2 rfl
 go_wp2_with fail
 clear b22
 replace F1 := F1.new 3 #[.int .i64 u.ho.hi] (n := w13.heap.size) (by simp)
 refine (past_c (.func (.func 43) #[] #[]) (.func (.func 44) #[] #[]) (.slice (some ⟨x4, o5, none⟩) ms.length cM) vt aD cD _ _ (by omega)).mono ?_
 rintro e w26 ⟨rfl, hg24⟩
 have hg24s := hg24.size
 (try simp at hg24s)
 replace F1 := F1.gn hg24
 clear hg24
 by_cases c28 : 24 * (dl.length : Int) + 1 <= (b : Int)
 ·
  have c28H := lhd c28
  have Hx29 := lhd (show ((caseOf true ms ts dl).fin u.m (b : Int) u.ho.hi) = (b : Int) by exact Cs.fin_now _ (by have := HPA.out; have h_ := c15H.out; omega) (by have := HPA.out; omega))
  have b30 := F1.bx1 1 rfl
  go_wp2_with fail
  clear b30
  have F31 := ((F1.front 1 rfl rfl).set 0 (.int .i64 (b : Int))).nf #[.int .i64 (b : Int)] rfl
  clear F1
  have kb32 := F31.bx1 0 rfl
  go_wp2_with fail
  refine leave_marks (F31.front 4 rfl rfl).marks (.int .i64 (b : Int)) fun w' hs => ?_
  have km33 := Bk.bx1 (hs.bk ((F31.front 4 rfl rfl).at 1 rfl : Bk _ (w.heap.size + 2) 3 #[.int .i64 (b : Int)]))
  exact ⟨by simp [results, Tryz.results48, go_sem, km33], ⟨by rw [Hx29.out] <;> rfl, hs.gb (F31.front 4 rfl rfl).gb (Nat.le_refl _)⟩⟩
 have c28H := lhd c28
 have c28a := dec_f c28
 go_wp2_with fail
 replace F1 := F1.drew
 refine ru_begin (fun W => C5 W w.heap.size (.func (.func 43) #[] #[]) (.func (.func 44) #[] #[]) (.slice (some ⟨x4, o5, none⟩) ms.length cM) vt (.slice aD dl.length cD) /\ W.cell? ⟨(w.heap.size + 1), 0, none⟩ = some (.int .i64 u.m) /\ W.cell? ⟨x4, o5 + (u.m.toNat) * 3, none⟩ = some (.int .i64 x.mild) /\ W.cell? ⟨x4, o5 + (u.m.toNat) * 3 + 1, none⟩ = some (.int .i64 x.hard) /\ W.cell? ⟨x4, o5 + (u.m.toNat) * 3 + 2, none⟩ = some (.int .i64 x.shift)) 9 (by kernel_rfl) ?_ ?_
 · exact ⟨F1.c5 3, F1.q 2 0, (Sl.cells (F1.at 6 rfl) hz6.out 0 _ rfl), (Sl.cells (F1.at 6 rfl) hz6.out 1 _ rfl), (Sl.cells (F1.at 6 rfl) hz6.out 2 _ rfl)⟩
 obtain ⟨wd38, hwd_⟩ : ∃ x : World, w26.drew = x := ⟨_, rfl⟩
 rw [hwd_] at F1 ⊢
 have wd38s : w26.heap.size <= wd38.heap.size := by rw [← hwd_]; exact Nat.le_refl _
 clear hwd_
 have hS37 := (And.intro (F1.c5 3) (And.intro (F1.q 2 0) (And.intro ((Sl.cells (F1.at 6 rfl) hz6.out 0 _ rfl)) (And.intro ((Sl.cells (F1.at 6 rfl) hz6.out 1 _ rfl)) ((Sl.cells (F1.at 6 rfl) hz6.out 2 _ rfl))))))
 refine ru_t 0 [] ?_
 refine ru_t 1 [7, 6, 3, 2] ?_
 refine ru_t 2 [7, 6, 3] ?_
 refine ru_t 3 [7, 6] ?_
 refine ru_t 4 [7, 6, 5] ?_
 refine ru_t 5 [7, 6] ?_
 refine ru_t 6 [7] ?_
 refine ru_t 7 [] ?_
 refine ru_t 8 [] ?_
 (try simp only [lpX])
 clear hS37
 refine ru_o 9 fun K hK => ?_
 go_simp
 refine (shifts_c (.func (.func 43) #[] #[]) (.func (.func 44) #[] #[]) (.slice (some ⟨x4, o5, none⟩) ms.length cM) vt (.slice aD dl.length cD) x (b : Int) _).mono ?_
 rintro e w42 ⟨pd39, pd39e, rfl, hg40, hX39⟩
 have hg40s := hg40.size
 (try simp at hg40s)
 replace F1 := F1.add (rext pd39 (pd39 + 3) (HoldS pd39 (.func (.func 43) #[] #[]) (.func (.func 44) #[] #[]) (.slice (some ⟨x4, o5, none⟩) ms.length cM) vt (.slice aD dl.length cD) x (b : Int)) (fun _ _ _ hg hr h => h.gb hg hr)) hg40 (hX39) (rext_in (by rw [← pd39e]; exact Nat.le_refl _) hX39.2.2.lt)
 refine ru_back_late hK (by kernel_rfl) ?_
 clear hK K
 (try simp only [lpX])
 refine ru_done (by kernel_rfl) ?_
 have Fn_ := (F1.drop 3 rfl)
 (try dsimp only [lpF, lpG] at Fn_)
 obtain ⟨w44, hx45, F47, hxs46⟩ := Fn_.name
 (try simp at hxs46)
 rw [hx45]
 clear hx45 F1 Fn_
 go_wp2_with fail
 refine wp_rangeI (gf := 84) (lb := #[.pointer (some ⟨pd39 + 2, 0, none⟩), .pointer (some ⟨pd39, 0, none⟩), .pointer (some ⟨pd39 + 1, 0, none⟩)]) rfl (enters_of Tryz.func84 (by kernel_rfl) rfl) (fun _ => rfl) (shiftsw_seq pd39 lo2 hi2 (.slice (some ⟨x4, o5, none⟩) ms.length cM) vt x b aD cD dl HMO.out hn (by omega)) (fun hq_ i A => ∃ (lf : Int), lf + (i : Int) = u.ho.hi /\ 0 < lf /\ Bun w [rkeep w44.heap.size hq_ A, rext pd39 (pd39 + 3) (HoldS pd39 (.func (.func 43) #[] #[]) (.func (.func 44) #[] #[]) (.slice (some ⟨x4, o5, none⟩) ms.length cM) vt (.slice aD dl.length cD) x (b : Int)) (fun _ _ _ hg hr h => h.gb hg hr), rbox w13.heap.size 3 #[.int .i64 lf], rbox (w.heap.size + 2) 3 #[.int .i64 0], rbox w.heap.size 69 #[.func (.func 43) #[] #[], .func (.func 44) #[] #[], .slice (some ⟨x4, o5, none⟩) ms.length cM, vt, .slice aD dl.length cD], rmarks [], rsl weaEnc 6 lo2 hi2 (.slice aD dl.length cD) dl, rsl mchEnc 3 lo hi (.slice (some ⟨x4, o5, none⟩) ms.length cM) ms] A) (fun cd hq_ i A => cd = .ret /\ ∃ (lf : Int), lf = 0 /\ 0 < i /\ (i : Int) = u.ho.hi /\ Bun w [rkeep w44.heap.size hq_ A, rext pd39 (pd39 + 3) (HoldS pd39 (.func (.func 43) #[] #[]) (.func (.func 44) #[] #[]) (.slice (some ⟨x4, o5, none⟩) ms.length cM) vt (.slice aD dl.length cD) x (b : Int)) (fun _ _ _ hg hr h => h.gb hg hr), rbox w13.heap.size 3 #[.int .i64 lf], rbox (w.heap.size + 2) 3 #[.int .i64 (hsAt (hsL (whX true x dl) b (24 * dl.length - b)) (i - 1) + 1)], rbox w.heap.size 69 #[.func (.func 43) #[] #[], .func (.func 44) #[] #[], .slice (some ⟨x4, o5, none⟩) ms.length cM, vt, .slice aD dl.length cD], rmarks [], rsl weaEnc 6 lo2 hi2 (.slice aD dl.length cD) dl, rsl mchEnc 3 lo hi (.slice (some ⟨x4, o5, none⟩) ms.length cM) ms] A) ?hI48 ?hIx48 ?hH48 ?h048 ?round48 ?done48 ?stop48
 case hI48 =>
  rintro hq_ i A B r ⟨lf, hlf, hlp, F_⟩ hg hr
  exact ⟨lf, hlf, hlp, F_.rekeep hg hr⟩
 case hIx48 =>
  rintro _ hq_ i A B r ⟨rfl, lf, hlf0, hi0, hiu, F_⟩ hg hr
  exact ⟨rfl, lf, hlf0, hi0, hiu, F_.rekeep hg hr⟩
 case hH48 =>
  rintro hq_ i A ⟨lf, hlf, hlp, F_⟩
  exact ⟨⟨(F_.at 1 rfl : HoldS _ _ _ _ _ _ _ _ _), (F_.s 6 rfl), (by omega)⟩, F_.kept.1⟩
 case h048 =>
  intro hq_ B hg hs hle
  exact ⟨_, (by simp), (by have h_ := c15H.out; omega), F47.keep0 hg (Nat.le_refl _) (by omega)⟩
 case round48 =>
  rintro l48 hi48 i W48 ⟨lf, hlf, hlp, F48_⟩ hlt48 hle48 hhW48
  clear F47
  have hbe := hsAt_bd (f := whX true x dl) (b := b) (n := 24 * dl.length - b) (i := i) (by omega)
  gi_wp2_with fail
  refine And.intro F48_.kept (fun W48b hg48b => ?_)
  have hg48bs := hg48b.size
  (try simp at hg48bs)
  have F49 := F48_.rekeep hg48b (fun g e => by cases e; omega)
  clear F48_
  by_cases c50 : lf - 1 = 0
  ·
   obtain ⟨c50a, c50b⟩ := bqt c50
   have c50H := lhd c50
   clear c50
   have b51 := F49.bx1 2 rfl
   have b52 := F49.bx1 3 rfl
   gi_wp2_with fail
   clear b51 b52
   have F53 := ((F49.front 2 rfl rfl).set 0 (.int .i64 (lf - 1))).nf #[.int .i64 (lf - 1)] rfl
   clear F49
   have F54 := ((F53.front 3 rfl rfl).set 0 (.int .i64 ((hsAt (hsL (whX true x dl) b (24 * dl.length - b)) i) + 1))).nf #[.int .i64 ((hsAt (hsL (whX true x dl) b (24 * dl.length - b)) i) + 1)] rfl
   clear F53
   have F55 : Bun w [rkeep w44.heap.size hi48 W48b, rext pd39 (pd39 + 3) (HoldS pd39 (.func (.func 43) #[] #[]) (.func (.func 44) #[] #[]) (.slice (some ⟨x4, o5, none⟩) ms.length cM) vt (.slice aD dl.length cD) x (b : Int)) (fun _ _ _ hg hr h => h.gb hg hr), rbox w13.heap.size 3 #[.int .i64 (lf - 1)], rbox (w.heap.size + 2) 3 #[.int .i64 ((hsAt (hsL (whX true x dl) b (24 * dl.length - b)) i) + 1)], rbox w.heap.size 69 #[.func (.func 43) #[] #[], .func (.func 44) #[] #[], .slice (some ⟨x4, o5, none⟩) ms.length cM, vt, .slice aD dl.length cD], rmarks [], rsl weaEnc 6 lo2 hi2 (.slice aD dl.length cD) dl, rsl mchEnc 3 lo hi (.slice (some ⟨x4, o5, none⟩) ms.length cM) ms] _ := F54.pick [2, 3, 1, 0, 4, 5, 6, 7] (by decide) rfl
   clear F54
   refine And.intro F55.kept ?_
   exact ⟨rfl, _, c50H.out, Nat.succ_pos _, (by have h_ := c50H.out; push_cast; omega), F55.rekeep (gb_refl _ none) (fun _ e => by cases e)⟩
  obtain ⟨c50a, c50b⟩ := bqf c50
  have c50H := lhd c50
  clear c50
  have b56 := F49.bx1 2 rfl
  gi_wp2_with fail
  clear b56
  have F57 := ((F49.front 2 rfl rfl).set 0 (.int .i64 (lf - 1))).nf #[.int .i64 (lf - 1)] rfl
  clear F49
  have F58 : Bun w [rkeep w44.heap.size hi48 W48b, rext pd39 (pd39 + 3) (HoldS pd39 (.func (.func 43) #[] #[]) (.func (.func 44) #[] #[]) (.slice (some ⟨x4, o5, none⟩) ms.length cM) vt (.slice aD dl.length cD) x (b : Int)) (fun _ _ _ hg hr h => h.gb hg hr), rbox w13.heap.size 3 #[.int .i64 (lf - 1)], rbox (w.heap.size + 2) 3 #[.int .i64 0], rbox w.heap.size 69 #[.func (.func 43) #[] #[], .func (.func 44) #[] #[], .slice (some ⟨x4, o5, none⟩) ms.length cM, vt, .slice aD dl.length cD], rmarks [], rsl weaEnc 6 lo2 hi2 (.slice aD dl.length cD) dl, rsl mchEnc 3 lo hi (.slice (some ⟨x4, o5, none⟩) ms.length cM) ms] _ := F57.pick [1, 2, 0, 3, 4, 5, 6, 7] (by decide) rfl
  clear F57
  refine And.intro F58.kept ?_
  exact ⟨lf - 1, (by push_cast; omega), (by have h_ := c50H.out; omega), F58.rekeep (gb_refl _ none) (fun _ e => by cases e)⟩
 case done48 =>
  rintro hi48 W48 hle48 ⟨lf, hlf, hlp, F48_⟩ hK48
  clear F47
  have F59 : Bun w [rkeep w44.heap.size hi48 W48, rmarks [], rext pd39 (pd39 + 3) (HoldS pd39 (.func (.func 43) #[] #[]) (.func (.func 44) #[] #[]) (.slice (some ⟨x4, o5, none⟩) ms.length cM) vt (.slice aD dl.length cD) x (b : Int)) (fun _ _ _ hg hr h => h.gb hg hr), rbox w13.heap.size 3 #[.int .i64 lf], rbox (w.heap.size + 2) 3 #[.int .i64 0], rbox w.heap.size 69 #[.func (.func 43) #[] #[], .func (.func 44) #[] #[], .slice (some ⟨x4, o5, none⟩) ms.length cM, vt, .slice aD dl.length cD], rsl weaEnc 6 lo2 hi2 (.slice aD dl.length cD) dl, rsl mchEnc 3 lo hi (.slice (some ⟨x4, o5, none⟩) ms.length cM) ms] _ := F48_.pick [0, 5, 1, 2, 3, 4, 6, 7] (by decide) rfl
  clear F48_
  have hiW48 := F59.kept.1
  replace F59 := F59.mark (by omega) hK48
  have HE2 : Hid ((caseOf true ms ts dl).fin u.m (b : Int) u.ho.hi = 24 * (dl.length : Int) + 1) := lhd ((Cs.fin_no _ (by have := HPA.out; omega) (by rw [Int.toNat_natCast, HHS.out]; omega)).trans HPA.out)
  have b61 := F59.bx5 4 rfl
  go_wp2_with fail
  clear b61
  refine (past_c (.func (.func 43) #[] #[]) (.func (.func 44) #[] #[]) (.slice (some ⟨x4, o5, none⟩) ms.length cM) vt aD cD _ _ (by omega)).mono ?_
  rintro e w64 ⟨rfl, hg62⟩
  have hg62s := hg62.size
  (try simp at hg62s)
  replace F59 := F59.gn hg62
  clear hg62
  have Hx66 := lhd (show ((caseOf true ms ts dl).fin u.m (b : Int) u.ho.hi) = (24 * (dl.length : Int) + 1) by exact HE2.out)
  have b67 := F59.bx1 3 rfl
  go_wp2_with fail
  clear b67
  have F68 := ((F59.front 3 rfl rfl).set 0 (.int .i64 (24 * (dl.length : Int) + 1))).nf #[.int .i64 (24 * (dl.length : Int) + 1)] rfl
  clear F59
  have kb69 := F68.bx1 0 rfl
  go_wp2_with fail
  refine leave_marks (F68.front 1 rfl rfl).marks (.int .i64 (24 * (dl.length : Int) + 1)) fun w' hs => ?_
  have km70 := Bk.bx1 (hs.bk ((F68.front 1 rfl rfl).at 1 rfl : Bk _ (w.heap.size + 2) 3 #[.int .i64 (24 * (dl.length : Int) + 1)]))
  exact ⟨by simp [results, Tryz.results48, go_sem, km70], ⟨by rw [Hx66.out] <;> rfl, hs.gb (F68.front 1 rfl rfl).gb (Nat.le_refl _)⟩⟩
 case stop48 =>
  rintro _ hi48 i W48 hle48 hiN48 ⟨rfl, lf, hlf0, hi0, hiu, F48_⟩ hK48
  clear F47
  have F71 : Bun w [rkeep w44.heap.size hi48 W48, rmarks [], rext pd39 (pd39 + 3) (HoldS pd39 (.func (.func 43) #[] #[]) (.func (.func 44) #[] #[]) (.slice (some ⟨x4, o5, none⟩) ms.length cM) vt (.slice aD dl.length cD) x (b : Int)) (fun _ _ _ hg hr h => h.gb hg hr), rbox w13.heap.size 3 #[.int .i64 lf], rbox (w.heap.size + 2) 3 #[.int .i64 (hsAt (hsL (whX true x dl) b (24 * dl.length - b)) (i - 1) + 1)], rbox w.heap.size 69 #[.func (.func 43) #[] #[], .func (.func 44) #[] #[], .slice (some ⟨x4, o5, none⟩) ms.length cM, vt, .slice aD dl.length cD], rsl weaEnc 6 lo2 hi2 (.slice aD dl.length cD) dl, rsl mchEnc 3 lo hi (.slice (some ⟨x4, o5, none⟩) ms.length cM) ms] _ := F48_.pick [0, 5, 1, 2, 3, 4, 6, 7] (by decide) rfl
  clear F48_
  have hiW48 := F71.kept.1
  replace F71 := F71.mark (by omega) hK48
  have HE : Hid ((caseOf true ms ts dl).fin u.m (b : Int) u.ho.hi = hsAt (hsL (whX true x dl) b (24 * dl.length - b)) (i - 1) + 1) := lhd (Cs.fin_yes _ (k := i - 1) (by omega) (by have := HPA.out; omega) (by omega) (x := ((hsL (whX true x dl) b (24 * dl.length - b)).getD (i - 1) 0)) (by rw [Int.toNat_natCast, HHS.out, List.getD_eq_getElem?_getD, List.getElem?_eq_getElem (by omega)]; rfl))
  have Hx73 := lhd (show ((caseOf true ms ts dl).fin u.m (b : Int) u.ho.hi) = hsAt (hsL (whX true x dl) b (24 * dl.length - b)) (i - 1) + 1 by exact HE.out)
  go_wp2_with fail
  have kb74 := F71.bx1 3 rfl
  go_wp2_with fail
  refine leave_marks F71.marks (.int .i64 (hsAt (hsL (whX true x dl) b (24 * dl.length - b)) (i - 1) + 1)) fun w' hs => ?_
  have km75 := Bk.bx1 (hs.bk (F71.b 3 rfl))
  exact ⟨by simp [results, Tryz.results48, go_sem, km75], ⟨by rw [Hx73.out] <;> rfl, hs.gb F71.gb (Nat.le_refl _)⟩⟩
end Go.Proofs.YtcoldeolmleeiaaGreat
