/- build and its reference: the reference's cases. -/
import Derived.Test.YtokelpmngahnoaaUE1
import Derived.Test.YtokelpmngahnoaaUKB
import Derived.Test.YtokelpmngahnoaaUKA
import Derived.Test.YtokelpmngahnoaaUKC
import Derived.Test.YtokelpmngahnoaaUMixG
set_option linter.unusedVariables false
set_option linter.unusedSimpArgs false
set_option linter.unnecessarySimpa false
namespace Go.Proofs.Ytokelpmngahnoaa
open Go.RowKit
set_option maxRecDepth 100000
attribute [local go_sem] Oper.semAt_some
theorem rgT1121 (t : Nat -> Value) : ((List.range 121).map t).toArray = #[t 0, t 1, t 2, t 3, t 4, t 5, t 6, t 7, t 8, t 9, t 10, t 11, t 12, t 13, t 14, t 15, t 16, t 17, t 18, t 19, t 20, t 21, t 22, t 23, t 24, t 25, t 26, t 27, t 28, t 29, t 30, t 31, t 32, t 33, t 34, t 35, t 36, t 37, t 38, t 39, t 40, t 41, t 42, t 43, t 44, t 45, t 46, t 47, t 48, t 49, t 50, t 51, t 52, t 53, t 54, t 55, t 56, t 57, t 58, t 59, t 60, t 61, t 62, t 63, t 64, t 65, t 66, t 67, t 68, t 69, t 70, t 71, t 72, t 73, t 74, t 75, t 76, t 77, t 78, t 79, t 80, t 81, t 82, t 83, t 84, t 85, t 86, t 87, t 88, t 89, t 90, t 91, t 92, t 93, t 94, t 95, t 96, t 97, t 98, t 99, t 100, t 101, t 102, t 103, t 104, t 105, t 106, t 107, t 108, t 109, t 110, t 111, t 112, t 113, t 114, t 115, t 116, t 117, t 118, t 119, t 120] := rfl
def isW (w : Bool) : Prop := w = true
instance (w : Bool) : Decidable (isW w) := inferInstanceAs (Decidable (w = true))
theorem num_t {w : Bool} {s : Sp} (h : isW w) : num w s = s.hi := if_pos h
theorem num_f {w : Bool} {s : Sp} (h : ¬ isW w) : num w s = s.lo := if_neg h
theorem wkV_cases (x : Mch) (d : Wea) : wkV x d = 1 ∨ wkV x d = 2 ∨ wkV x d = 3 := by
 unfold wkV
 split
 · exact .inl rfl
 split
 · exact .inr (.inl rfl)
 · exact .inr (.inr rfl)
theorem wkB_1 {w : Bool} {v : Int} (h : v = 1) : wkB w v = true := by
 subst h
 unfold wkB
 split <;> rfl
theorem wkB_3 {w : Bool} {v : Int} (h : v = 3) : wkB w v = !decide (isW w) := by
 subst h
 cases w <;> rfl
theorem wkB_2 {w : Bool} {x : Mch} {d : Wea} (h1 : ¬ wkV x d = 1) (h3 : ¬ wkV x d = 3) : wkB w (wkV x d) = false := by
 have h2 : wkV x d = 2 := by rcases wkV_cases x d with h | h | h <;> first | contradiction | exact h
 rw [h2]
 unfold wkB
 split <;> rfl
def numL (w : Bool) (f : Tsk -> Sp) (ts : List Tsk) (k : Nat) : List Int := (ts.take k).map fun t => num w (f t)
theorem numL_len {w : Bool} {f : Tsk -> Sp} {ts : List Tsk} {k : Nat} (h : k <= ts.length) : (numL w f ts k).length = k := by simp [numL, Nat.min_eq_left h]
theorem numL_succ {w : Bool} {f : Tsk -> Sp} {ts : List Tsk} {k : Nat} {z : Tsk} (h : ts[k]? = some z) : numL w f ts (k + 1) = numL w f ts k ++ [num w (f z)] := by rw [numL, ← take_snoc h, List.map_append]; rfl
theorem numL_t {w : Bool} {f : Tsk -> Sp} {ts : List Tsk} {k : Nat} {z : Tsk} (hw : isW w) (h : ts[k]? = some z) : numL w f ts (k + 1) = numL w f ts k ++ [(f z).hi] := by rw [numL_succ h, num_t hw]
theorem numL_f {w : Bool} {f : Tsk -> Sp} {ts : List Tsk} {k : Nat} {z : Tsk} (hw : ¬ isW w) (h : ts[k]? = some z) : numL w f ts (k + 1) = numL w f ts k ++ [(f z).lo] := by rw [numL_succ h, num_f hw]
theorem numL_get {w : Bool} {f : Tsk -> Sp} {ts : List Tsk} {k i : Nat} (hk : ts.length <= k) (h : i < ts.length) : (numL w f ts k)[i]? = some (num w (f (tk ts i))) := by
 rw [numL, List.take_of_length_le hk, List.getElem?_map, List.getElem?_eq_getElem h, ← tk_get (List.getElem?_eq_getElem h)]; rfl
def wkF (w : Bool) (x : Mch) (dl : List Wea) (d : Nat) : Bool := wkB w (wkV x (dy dl d))
def noF (_ : Nat) : Bool := false
theorem mixF_rep (G : Nat -> Bool) (n : Nat) : List.replicate n false = mixF noF G n 0 := by
 rw [mixF_zero]
 refine List.ext_getElem (by simp) fun i h1 h2 => ?_
 simp [noF]
theorem mixF_at {α : Type} {F G : Nat -> α} {N i : Nat} (h : i < N) : (mixF F G N i)[i]? = some (F i) := by rw [mixF_get h, if_neg (Nat.lt_irrefl _)]
theorem wkF_of {w : Bool} {x : Mch} {dl : List Wea} {d : Nat} {z : Wea} {b : Bool} (h : dl[d]? = some z) (e : wkB w (wkV x z) = b) : b = wkF w x dl d := by rw [wkF, dy_get h, e]
def rowsOf (w : Bool) (ms : List Mch) (dl : List Wea) (k : Nat) : List (List Bool) := (ms.take k).map fun x => (List.range dl.length).map (wkF w x dl)
theorem rowsOf_succ {w : Bool} {ms : List Mch} {dl : List Wea} {k : Nat} {z : Mch} (h : ms[k]? = some z) : rowsOf w ms dl (k + 1) = rowsOf w ms dl k ++ [(List.range dl.length).map (wkF w z dl)] := by rw [rowsOf, ← take_snoc h, List.map_append]; rfl
structure CsIs (c : Cs) (ms : List Mch) (ts : List Tsk) (lh lw lf : List Int) (rows : List (List Bool)) : Prop where
 ho : lh = (List.range ts.length).map c.ho
 wa : lw = (List.range ts.length).map c.wa
 fr : lf = (List.range ts.length).map c.fr
 m : ∀ i, c.m i = (tk ts i).m
 af : ∀ i, c.af i = (tk ts i).af
 sh : ∀ m, c.sh m = (mc ms m.toNat).shift
 rn : rows.length = ms.length
 rl : ∀ (k : Nat) (r : List Bool), rows[k]? = some r -> r.length = c.nd /\ ∀ d, d < c.nd -> r.getD d false = c.wk (k : Int) d
theorem numL_rng (w : Bool) (f : Tsk -> Sp) (ts : List Tsk) : numL w f ts ts.length = (List.range ts.length).map fun i => num w (f (tk ts i)) := by
 refine List.ext_getElem? fun i => ?_
 by_cases h : i < ts.length
 · rw [numL_get (Nat.le_refl _) h]; simp [h]
 · rw [List.getElem?_eq_none (by rw [numL_len (Nat.le_refl _)]; omega), List.getElem?_eq_none (by simp; omega)]
theorem caseOf_is (w : Bool) (ms : List Mch) (ts : List Tsk) (dl : List Wea) : CsIs (caseOf w ms ts dl) ms ts (numL w Tsk.ho ts ts.length) (numL w Tsk.wa ts ts.length) (numL w Tsk.fr ts ts.length) (rowsOf w ms dl ms.length) := by
 refine ⟨numL_rng _ _ _, numL_rng _ _ _, numL_rng _ _ _, fun _ => rfl, fun _ => rfl, fun _ => rfl, by simp [rowsOf], fun k r hr => ?_⟩
 rw [rowsOf, List.take_length, List.getElem?_map] at hr
 rcases hx : ms[k]? with _ | x
 · rw [hx] at hr; cases hr
 rw [hx] at hr
 obtain rfl := Option.some.inj hr
 refine ⟨by simp [caseOf], fun d hd => ?_⟩
 have hd2 : d < dl.length := hd
 show _ = wkB w (wkV (mc ms ((k : Int)).toNat) (dy dl d))
 rw [Int.toNat_natCast, mc_get hx, List.getD_eq_getElem?_getD]
 simp [hd2, wkF]
def CaseR (c : Cs) (ms : List Mch) (ts : List Tsk) (w : World) : Ending -> World -> Prop := fun e w' => ∃ (v1 v2 v3 v4 : Value) (lh lw lf : List Int) (rows : List (Value × List Bool)), e = .returned (.agg #[v1, v2, v3, v4]) ∧
 (CsIs c ms ts lh lw lf (rows.map (·.2)) /\ ∀ r ∈ rows, sliceB r.1 = true) /\ Bun w [rown intEnc 3 1 w.heap.size v1 lh, rown intEnc 3 1 w.heap.size v2 lw, rown intEnc 3 1 w.heap.size v3 lf, rown vEncS 56 1 w.heap.size v4 (rows.map (·.1)), rrws w.heap.size rows] w'
theorem rng_rcaseOf_c (t : Nat -> Value) : ((List.range 121).map t).toArray = List.toArray [t 0, t 1, t 2, t 3, t 4, t 5, t 6, t 7, t 8, t 9, t 10, t 11, t 12, t 13, t 14, t 15, t 16, t 17, t 18, t 19, t 20, t 21, t 22, t 23, t 24, t 25, t 26, t 27, t 28, t 29, t 30, t 31, t 32, t 33, t 34, t 35, t 36, t 37, t 38, t 39, t 40, t 41, t 42, t 43, t 44, t 45, t 46, t 47, t 48, t 49, t 50, t 51, t 52, t 53, t 54, t 55, t 56, t 57, t 58, t 59, t 60, t 61, t 62, t 63, t 64, t 65, t 66, t 67, t 68, t 69, t 70, t 71, t 72, t 73, t 74, t 75, t 76, t 77, t 78, t 79, t 80, t 81, t 82, t 83, t 84, t 85, t 86, t 87, t 88, t 89, t 90, t 91, t 92, t 93, t 94, t 95, t 96, t 97, t 98, t 99, t 100, t 101, t 102, t 103, t 104, t 105, t 106, t 107, t 108, t 109, t 110, t 111, t 112, t 113, t 114, t 115, t 116, t 117, t 118, t 119, t 120] := rfl
set_option maxHeartbeats 16000000 in
theorem rcaseOf_c (wb : Bool) (lo hi : Nat) (vm vt : Value) (ms : List Mch) (ts : List Tsk) (lo2 hi2 : Nat) (vd : Value) (dl : List Wea) (w : World) (hj : JobAt lo hi w vm vt ms ts) (h2 : hi <= w.heap.size) (hd : Sl weaEnc 6 lo2 hi2 w vd dl) (h3 : hi2 <= w.heap.size) (hnt : ts.length <= 1000) (hnm : ms.length <= 1000) (hnd : dl.length <= 1000) :
  Calls Try.prog 27 #[.agg #[vm, vt], vd, .bool (decide (isW wb))] w (CaseR (caseOf wb ms ts dl) ms ts w) := by
 have F1 : Bun w [] w := Bun.nil _
 obtain ⟨hms, hts, haf⟩ := hj
 have hm_ms := hms.len
 unfold maxLen at hm_ms
 obtain ⟨aM, cM, rfl⟩ := hms.any
 replace F1 := F1.sl0 hms h2 rfl
 clear hms
 have hm_ts := hts.len
 unfold maxLen at hm_ts
 obtain ⟨aT, cT, rfl⟩ := hts.any
 replace F1 := F1.sl0 hts h2 rfl
 clear hts
 replace F1 := F1.non0 (rafs lo hi ts) haf (fun _ h_ => Nat.lt_of_lt_of_le h_.2 h2) rfl rfl
 clear haf
 have hm_ds := hd.len
 unfold maxLen at hm_ds
 obtain ⟨ad, cd, rfl⟩ := hd.any
 replace F1 := F1.sl0 hd h3 rfl
 clear hd
 go_enter Try.func27, Try.ntmps27
 go_wp2_with fail
 replace F1 := F1.new 25 #[.slice aM ms.length cM, .slice aT ts.length cT] (n := w.heap.size) (by simp)
 replace F1 := F1.new 51 #[.slice none 0 0, .slice none 0 0, .slice none 0 0, .slice none 0 0] (n := (w.heap.size + 1)) (by simp)
 replace F1 := F1.new 51 #[.slice none 0 0, .slice none 0 0, .slice none 0 0, .slice none 0 0] (n := (w.heap.size + 2)) (by simp)
 replace F1 := F1.nilrow intEnc 3 1
 replace F1 := F1.nilrow intEnc 3 1
 replace F1 := F1.nilrow intEnc 3 1
 (skip)
 obtain ⟨HI12_, HI120⟩ : ∃ I : RelT, I = (fun t ds wr => ∃ (k : Nat) (vh vw vf : Value), t 1 = .slice ad dl.length cd /\ t 2 = .bool (decide (isW wb)) /\ t 3 = .pointer (some ⟨w.heap.size, 0, none⟩) /\ t 6 = .pointer (some ⟨w.heap.size + 1, 0, none⟩) /\ t 7 = .pointer (some ⟨w.heap.size + 2, 0, none⟩) /\ t 8 = .int .i64 (k : Int) /\ k <= ts.length /\ ds = [] /\ w.heap.size <= wr.heap.size /\ Bun w [rown intEnc 3 1 w.heap.size vh (numL wb Tsk.ho ts k), rown intEnc 3 1 w.heap.size vw (numL wb Tsk.wa ts k), rown intEnc 3 1 w.heap.size vf (numL wb Tsk.fr ts k), rbox (w.heap.size + 2) 51 #[vh, vw, vf, .slice none 0 0], rbox (w.heap.size + 1) 51 #[.slice none 0 0, .slice none 0 0, .slice none 0 0, .slice none 0 0], rbox w.heap.size 25 #[.slice aM ms.length cM, .slice aT ts.length cT], rsl weaEnc 6 lo2 hi2 (.slice ad dl.length cd) dl, rafs lo hi ts, rsl tskEnc 8 lo hi (.slice aT ts.length cT) ts, rsl mchEnc 3 lo hi (.slice aM ms.length cM) ms] wr) := ⟨_, rfl⟩
 have HI12 := lhd HI120
 clear HI120
 refine wp_loopS 121 rfl HI12_ (fun t wr => ts.length - (intOf (t 8)).toNat) ?atStart1 ?round1
 case round1 =>
  intro t ds wr hHid
  rw [HI12.out] at hHid
  obtain ⟨k, vh, vw, vf, e1, e2, e3, e6, e7, e8, hrel⟩ := hHid
  have e := rgT1121 t
  (try dsimp only at e)
  rw [e1, e2, e3, e6, e7, e8] at e
  rw [e]
  simp only [e8]
  clear e e1 e2 e3 e6 e7 e8
  obtain ⟨hk, rfl, hs14, hF13⟩ := hrel
  clear F1
  obtain ⟨w15, rfl⟩ : ∃ x_ : World, x_ = wr := ⟨_, rfl⟩
  by_cases c16 : (k : Int) < (ts.length : Int)
  ·
   have c16H := lhd c16
   obtain ⟨x17, o18, e_⟩ := Sl.addr (hF13.at 8 rfl : Sl tskEnc 8 lo hi _ (.slice aT ts.length cT) ts) (by omega)
   subst e_
   obtain ⟨z, hz19_⟩ : ∃ z_, ts[k]? = some z_ := ⟨_, List.getElem?_eq_getElem (by omega)⟩
   have hz19 := lhd hz19_
   clear hz19_
   obtain ⟨a_z, c_z, hav_z, hcap_z, hsl_z⟩ := Afs.open (hF13.at 7 rfl : Afs lo hi _ ts) hz19.out
   have HAV_z := lhd hav_z
   clear hav_z
   have F20 := hF13.more 7 (rsl intEnc 1 lo hi (.slice a_z z.af.length c_z) z.af) rfl rfl rfl (fun _ h_ => h_) hsl_z
   clear hF13
   have hm_z := (F20.at 0 rfl : Sl intEnc 1 lo hi _ (.slice a_z z.af.length c_z) z.af).len
   unfold maxLen at hm_z
   by_cases c21 : isW wb
   ·
    have c21H := lhd c21
    have b22 := F20.bx2 6 rfl
    have ge23 : World.cell? _ ⟨x17, o18 + k * 8, none⟩ = some (.int .i64 z.m) := (Sl.cells (F20.at 9 rfl) hz19.out 0 _ rfl)
    have gl24 := cell_lt ge23
    have ge25 : World.cell? _ ⟨x17, o18 + k * 8 + 1, none⟩ = some (.int .i64 z.ho.lo) := (Sl.cells (F20.at 9 rfl) hz19.out 1 _ rfl)
    have ge26 : World.cell? _ ⟨x17, o18 + k * 8 + 2, none⟩ = some (.int .i64 z.ho.hi) := (Sl.cells (F20.at 9 rfl) hz19.out 2 _ rfl)
    have ge27 : World.cell? _ ⟨x17, o18 + k * 8 + 3, none⟩ = some (.int .i64 z.wa.lo) := (Sl.cells (F20.at 9 rfl) hz19.out 3 _ rfl)
    have ge28 : World.cell? _ ⟨x17, o18 + k * 8 + 4, none⟩ = some (.int .i64 z.wa.hi) := (Sl.cells (F20.at 9 rfl) hz19.out 4 _ rfl)
    have ge29 : World.cell? _ ⟨x17, o18 + k * 8 + 5, none⟩ = some (.int .i64 z.fr.lo) := (Sl.cells (F20.at 9 rfl) hz19.out 5 _ rfl)
    have ge30 : World.cell? _ ⟨x17, o18 + k * 8 + 6, none⟩ = some (.int .i64 z.fr.hi) := (Sl.cells (F20.at 9 rfl) hz19.out 6 _ rfl)
    have ge31 : World.cell? _ ⟨x17, o18 + k * 8 + 7, none⟩ = some (.slice a_z z.af.length c_z) := (HAV_z.out ▸ (Sl.cells (F20.at 9 rfl) hz19.out 7 _ rfl))
    go_wp2_with fail
    clear b22 ge23 gl24 ge25 ge26 ge27 ge28 ge29 ge30 ge31
    replace F20 := F20.new 79 #[.int .i64 z.m, .int .i64 z.ho.lo, .int .i64 z.ho.hi, .int .i64 z.wa.lo, .int .i64 z.wa.hi, .int .i64 z.fr.lo, .int .i64 z.fr.hi, .slice a_z z.af.length c_z] (n := w15.heap.size) (by simp)
    have Fn_ := F20
    (try dsimp only [List.eraseIdx_cons_succ, List.eraseIdx_cons_zero] at Fn_)
    obtain ⟨w33, hx34, F36, hxs35⟩ := Fn_.name
    (try simp at hxs35)
    rw [hx34]
    clear hx34 F20 Fn_
    replace F36 := F36.drew
    refine ru_begin (fun W => W.cell? ⟨(w.heap.size + 2), 0, none⟩ = some vh /\ W.cell? ⟨w15.heap.size, 2, none⟩ = some (.int .i64 z.ho.hi) /\ W.cell? ⟨(w.heap.size + 2), 1, none⟩ = some vw /\ W.cell? ⟨w15.heap.size, 4, none⟩ = some (.int .i64 z.wa.hi) /\ W.cell? ⟨(w.heap.size + 2), 2, none⟩ = some vf /\ W.cell? ⟨w15.heap.size, 6, none⟩ = some (.int .i64 z.fr.hi)) 22 (by kernel_rfl) ?_ ?_
    · exact ⟨F36.q 5 0, F36.q 0 2, F36.q 5 1, F36.q 0 4, F36.q 5 2, F36.q 0 6⟩
    obtain ⟨wd39, hwd_⟩ : ∃ x : World, w33.drew = x := ⟨_, rfl⟩
    rw [hwd_] at F36 ⊢
    have wd39s : w33.heap.size <= wd39.heap.size := by rw [← hwd_]; exact Nat.le_refl _
    clear hwd_
    have hS38 := (And.intro (F36.q 5 0) (And.intro (F36.q 0 2) (And.intro (F36.q 5 1) (And.intro (F36.q 0 4) (And.intro (F36.q 5 2) (F36.q 0 6))))))
    refine ru_t 0 [] ?_
    refine ru_t 1 [] ?_
    refine ru_t 2 [] ?_
    refine ru_t 3 [] ?_
    refine ru_t 4 [] ?_
    refine ru_t 7 [] ?_
    refine ru_t 8 [] ?_
    refine ru_t 9 [20, 13, 12, 11, 10] ?_
    refine ru_t 10 [20, 13, 12, 11] ?_
    refine ru_t 11 [20, 13, 12] ?_
    refine ru_t 14 [] ?_
    refine ru_t 15 [] ?_
    refine ru_t 16 [20, 19, 18, 17] ?_
    refine ru_t 17 [20, 19, 18] ?_
    refine ru_t 18 [20, 19] ?_
    (try simp only [lpX])
    clear hS38
    refine ru_state 121 (fun t w_ => ∃ (yg5 : Nat) (yg6 : Nat) (yc6 : Nat) (yg12 : Nat) (yg13 : Nat) (yc13 : Nat) (yg19 : Nat) (yg20 : Nat) (yc20 : Nat), t 1 = .slice ad dl.length cd /\ t 2 = .bool true /\ t 3 = .pointer (some ⟨w.heap.size, 0, none⟩) /\ t 6 = .pointer (some ⟨w.heap.size + 1, 0, none⟩) /\ t 7 = .pointer (some ⟨w.heap.size + 2, 0, none⟩) /\ t 8 = .int .i64 (k : Int) /\ w33.heap.size <= w_.heap.size /\ Bun w [rbox (w.heap.size + 2) 51 #[.slice (some ⟨yg6, 0, none⟩) (k + 1) yc6, .slice (some ⟨yg13, 0, none⟩) (k + 1) yc13, .slice (some ⟨yg20, 0, none⟩) (k + 1) yc20, .slice none 0 0], rown intEnc 3 1 w.heap.size (.slice (some ⟨yg20, 0, none⟩) (k + 1) yc20) (numL wb Tsk.fr ts k ++ [z.fr.hi]), rbox yg19 3 #[.int .i64 z.fr.hi], rown intEnc 3 1 w.heap.size (.slice (some ⟨yg13, 0, none⟩) (k + 1) yc13) (numL wb Tsk.wa ts k ++ [z.wa.hi]), rbox yg12 3 #[.int .i64 z.wa.hi], rown intEnc 3 1 w.heap.size (.slice (some ⟨yg6, 0, none⟩) (k + 1) yc6) (numL wb Tsk.ho ts k ++ [z.ho.hi]), rbox yg5 3 #[.int .i64 z.ho.hi], rbox w15.heap.size 79 #[.int .i64 z.m, .int .i64 z.ho.lo, .int .i64 z.ho.hi, .int .i64 z.wa.lo, .int .i64 z.wa.hi, .int .i64 z.fr.lo, .int .i64 z.fr.hi, .slice a_z z.af.length c_z], rsl intEnc 1 lo hi (.slice a_z z.af.length c_z) z.af, rbox (w.heap.size + 1) 51 #[.slice none 0 0, .slice none 0 0, .slice none 0 0, .slice none 0 0], rbox w.heap.size 25 #[.slice aM ms.length cM, .slice (some ⟨x17, o18, none⟩) ts.length cT], rsl weaEnc 6 lo2 hi2 (.slice ad dl.length cd) dl, rafs lo hi ts, rsl tskEnc 8 lo hi (.slice (some ⟨x17, o18, none⟩) ts.length cT) ts, rsl mchEnc 3 lo hi (.slice aM ms.length cM) ms] w_) #[true, true, true, true, true, true, true, true, true, true, true, true, true, true, true, true, true, true, true, true, true, true, true, true, true, true, true] 0 ?st40 ?nx40
    case st40 =>
     rintro t w41 ⟨yg5, yg6, yc6, yg12, yg13, yc13, yg19, yg20, yc20, e1, e2, e3, e6, e7, e8, hsz40, F42⟩
     clear F36
     rw [rng_rcaseOf_c t, e1, e2, e3, e6, e7, e8]
     clear e1 e2 e3 e6 e7 e8
     have hws40 := F42.gb.size
     have yg20l := (F42.ltAt 1 rfl _ rfl).1
     have yg19l := F42.ltAt 2 rfl yg19 rfl
     have yg19b := yg19l.2 rfl
     have yg13l := (F42.ltAt 3 rfl _ rfl).1
     have yg12l := F42.ltAt 4 rfl yg12 rfl
     have yg12b := yg12l.2 rfl
     have yg6l := (F42.ltAt 5 rfl _ rfl).1
     have yg5l := F42.ltAt 6 rfl yg5 rfl
     have yg5b := yg5l.2 rfl
     refine ru_done (by kernel_rfl) ?_
     have Fn_ := ((((F42.drop 2 rfl).drop 3 rfl).drop 4 rfl).drop 4 rfl)
     (try dsimp only [List.eraseIdx_cons_succ, List.eraseIdx_cons_zero] at Fn_)
     obtain ⟨w43, hx44, F46, hxs45⟩ := Fn_.name
     (try simp at hxs45)
     rw [hx44]
     clear hx44 F42 Fn_
     go_wp2_with fail
     have F47 : Bun w [rown intEnc 3 1 w.heap.size (.slice (some ⟨yg6, 0, none⟩) (k + 1) yc6) (numL wb Tsk.ho ts k ++ [z.ho.hi]), rown intEnc 3 1 w.heap.size (.slice (some ⟨yg13, 0, none⟩) (k + 1) yc13) (numL wb Tsk.wa ts k ++ [z.wa.hi]), rown intEnc 3 1 w.heap.size (.slice (some ⟨yg20, 0, none⟩) (k + 1) yc20) (numL wb Tsk.fr ts k ++ [z.fr.hi]), rbox (w.heap.size + 2) 51 #[.slice (some ⟨yg6, 0, none⟩) (k + 1) yc6, .slice (some ⟨yg13, 0, none⟩) (k + 1) yc13, .slice (some ⟨yg20, 0, none⟩) (k + 1) yc20, .slice none 0 0], rbox (w.heap.size + 1) 51 #[.slice none 0 0, .slice none 0 0, .slice none 0 0, .slice none 0 0], rbox w.heap.size 25 #[.slice aM ms.length cM, .slice (some ⟨x17, o18, none⟩) ts.length cT], rsl weaEnc 6 lo2 hi2 (.slice ad dl.length cd) dl, rafs lo hi ts, rsl tskEnc 8 lo hi (.slice (some ⟨x17, o18, none⟩) ts.length cT) ts, rsl mchEnc 3 lo hi (.slice aM ms.length cM) ms] _ := F46.pick [3, 2, 1, 0, 5, 6, 7, 8, 9, 10] (by decide) rfl
     clear F46
     (first | refine ⟨by kernel_rfl, ?_, ?_⟩ | refine ⟨rfl, ?_, ?_⟩ | refine ⟨?_, ?_⟩)
     · rw [HI12.out]; exact ⟨k + 1, _, _, _, (by kernel_rfl), (congrArg Value.bool (dec_t c21).symm), (by kernel_rfl), (by kernel_rfl), (by kernel_rfl), (by show Value.int .i64 ((k : Int) + 1) = _; simp), (by omega), (by first | rfl | simp), (by first | omega | (simp; done) | (simp; omega)), (by rw [numL_t c21 hz19.out, numL_t c21 hz19.out, numL_t c21 hz19.out]; exact F47)⟩
     · simp [slot, intOf]; omega
    intro hZ40
    refine ru_state 121 (fun t w_ => ∃ (yg5 : Nat) (yg6 : Nat) (yc6 : Nat) (yg12 : Nat) (yg13 : Nat) (yc13 : Nat) (yg19 : Nat) (yg20 : Nat) (yc20 : Nat), t 1 = .slice ad dl.length cd /\ t 2 = .bool true /\ t 3 = .pointer (some ⟨w.heap.size, 0, none⟩) /\ t 6 = .pointer (some ⟨w.heap.size + 1, 0, none⟩) /\ t 7 = .pointer (some ⟨w.heap.size + 2, 0, none⟩) /\ t 8 = .int .i64 (k : Int) /\ t 47 = .slice (some ⟨yg20, 0, none⟩) (k + 1) yc20 /\ t 50 = .pointer (some ⟨w.heap.size + 2, 2, none⟩) /\ w33.heap.size <= w_.heap.size /\ Bun w [rbox (w.heap.size + 2) 51 #[.slice (some ⟨yg6, 0, none⟩) (k + 1) yc6, .slice (some ⟨yg13, 0, none⟩) (k + 1) yc13, vf, .slice none 0 0], rown intEnc 3 1 w.heap.size (.slice (some ⟨yg20, 0, none⟩) (k + 1) yc20) (numL wb Tsk.fr ts k ++ [z.fr.hi]), rbox yg19 3 #[.int .i64 z.fr.hi], rown intEnc 3 1 w.heap.size (.slice (some ⟨yg13, 0, none⟩) (k + 1) yc13) (numL wb Tsk.wa ts k ++ [z.wa.hi]), rbox yg12 3 #[.int .i64 z.wa.hi], rown intEnc 3 1 w.heap.size (.slice (some ⟨yg6, 0, none⟩) (k + 1) yc6) (numL wb Tsk.ho ts k ++ [z.ho.hi]), rbox yg5 3 #[.int .i64 z.ho.hi], rbox w15.heap.size 79 #[.int .i64 z.m, .int .i64 z.ho.lo, .int .i64 z.ho.hi, .int .i64 z.wa.lo, .int .i64 z.wa.hi, .int .i64 z.fr.lo, .int .i64 z.fr.hi, .slice a_z z.af.length c_z], rsl intEnc 1 lo hi (.slice a_z z.af.length c_z) z.af, rbox (w.heap.size + 1) 51 #[.slice none 0 0, .slice none 0 0, .slice none 0 0, .slice none 0 0], rbox w.heap.size 25 #[.slice aM ms.length cM, .slice (some ⟨x17, o18, none⟩) ts.length cT], rsl weaEnc 6 lo2 hi2 (.slice ad dl.length cd) dl, rafs lo hi ts, rsl tskEnc 8 lo hi (.slice (some ⟨x17, o18, none⟩) ts.length cT) ts, rsl mchEnc 3 lo hi (.slice aM ms.length cM) ms] w_) #[true, true, true, true, true, true, true, true, true, true, true, true, true, true, true, true, true, true, true, true, true, true, true, true, true, true, false] 1 ?st48 ?nx48
    case st48 =>
     rintro t w49 ⟨yg5, yg6, yc6, yg12, yg13, yc13, yg19, yg20, yc20, e1, e2, e3, e6, e7, e8, e47, e50, hsz48, F50⟩
     clear F36
     rw [rng_rcaseOf_c t, e1, e2, e3, e6, e7, e8, e47, e50]
     clear e1 e2 e3 e6 e7 e8 e47 e50
     have hws48 := F50.gb.size
     have yg20l := (F50.ltAt 1 rfl _ rfl).1
     have yg19l := F50.ltAt 2 rfl yg19 rfl
     have yg19b := yg19l.2 rfl
     have yg13l := (F50.ltAt 3 rfl _ rfl).1
     have yg12l := F50.ltAt 4 rfl yg12 rfl
     have yg12b := yg12l.2 rfl
     have yg6l := (F50.ltAt 5 rfl _ rfl).1
     have yg5l := F50.ltAt 6 rfl yg5 rfl
     have yg5b := yg5l.2 rfl
     refine ru_one 26 rfl (by kernel_rfl) (fun K hK => ?_)
     have kb_ := F50.bx4 0 rfl
     go_simp
     clear kb_
     have F51 := (F50.set 2 (.slice (some ⟨yg20, 0, none⟩) (k + 1) yc20)).nf #[.slice (some ⟨yg6, 0, none⟩) (k + 1) yc6, .slice (some ⟨yg13, 0, none⟩) (k + 1) yc13, .slice (some ⟨yg20, 0, none⟩) (k + 1) yc20, .slice none 0 0] rfl
     clear F50
     refine ru_back_late hK (by kernel_rfl) ?_
     exact hZ40.out _ _ _ (by kernel_rfl) (by kernel_rfl) rfl ⟨yg5, yg6, yc6, yg12, yg13, yc13, yg19, yg20, yc20, by (iterate 6 refine ⟨by kernel_rfl, ?_⟩); exact ⟨(by first | omega | (simp; done) | (simp; omega)), F51⟩⟩
    intro hZ48
    refine ru_state 121 (fun t w_ => ∃ (yg5 : Nat) (yg6 : Nat) (yc6 : Nat) (yg12 : Nat) (yg13 : Nat) (yc13 : Nat) (yg19 : Nat) (yg20 : Nat) (yc20 : Nat), t 1 = .slice ad dl.length cd /\ t 2 = .bool true /\ t 3 = .pointer (some ⟨w.heap.size, 0, none⟩) /\ t 6 = .pointer (some ⟨w.heap.size + 1, 0, none⟩) /\ t 7 = .pointer (some ⟨w.heap.size + 2, 0, none⟩) /\ t 8 = .int .i64 (k : Int) /\ t 40 = .slice (some ⟨yg13, 0, none⟩) (k + 1) yc13 /\ t 47 = .slice (some ⟨yg20, 0, none⟩) (k + 1) yc20 /\ t 49 = .pointer (some ⟨w.heap.size + 2, 1, none⟩) /\ w33.heap.size <= w_.heap.size /\ Bun w [rbox (w.heap.size + 2) 51 #[.slice (some ⟨yg6, 0, none⟩) (k + 1) yc6, vw, vf, .slice none 0 0], rown intEnc 3 1 w.heap.size (.slice (some ⟨yg20, 0, none⟩) (k + 1) yc20) (numL wb Tsk.fr ts k ++ [z.fr.hi]), rbox yg19 3 #[.int .i64 z.fr.hi], rown intEnc 3 1 w.heap.size (.slice (some ⟨yg13, 0, none⟩) (k + 1) yc13) (numL wb Tsk.wa ts k ++ [z.wa.hi]), rbox yg12 3 #[.int .i64 z.wa.hi], rown intEnc 3 1 w.heap.size (.slice (some ⟨yg6, 0, none⟩) (k + 1) yc6) (numL wb Tsk.ho ts k ++ [z.ho.hi]), rbox yg5 3 #[.int .i64 z.ho.hi], rbox w15.heap.size 79 #[.int .i64 z.m, .int .i64 z.ho.lo, .int .i64 z.ho.hi, .int .i64 z.wa.lo, .int .i64 z.wa.hi, .int .i64 z.fr.lo, .int .i64 z.fr.hi, .slice a_z z.af.length c_z], rsl intEnc 1 lo hi (.slice a_z z.af.length c_z) z.af, rbox (w.heap.size + 1) 51 #[.slice none 0 0, .slice none 0 0, .slice none 0 0, .slice none 0 0], rbox w.heap.size 25 #[.slice aM ms.length cM, .slice (some ⟨x17, o18, none⟩) ts.length cT], rsl weaEnc 6 lo2 hi2 (.slice ad dl.length cd) dl, rafs lo hi ts, rsl tskEnc 8 lo hi (.slice (some ⟨x17, o18, none⟩) ts.length cT) ts, rsl mchEnc 3 lo hi (.slice aM ms.length cM) ms] w_) #[true, true, true, true, true, true, true, true, true, true, true, true, true, true, true, true, true, true, true, true, true, true, true, true, false, false, false] 3 ?st52 ?nx52
    case st52 =>
     rintro t w53 ⟨yg5, yg6, yc6, yg12, yg13, yc13, yg19, yg20, yc20, e1, e2, e3, e6, e7, e8, e40, e47, e49, hsz52, F54⟩
     clear F36
     rw [rng_rcaseOf_c t, e1, e2, e3, e6, e7, e8, e40, e47, e49]
     clear e1 e2 e3 e6 e7 e8 e40 e47 e49
     have hws52 := F54.gb.size
     have yg20l := (F54.ltAt 1 rfl _ rfl).1
     have yg19l := F54.ltAt 2 rfl yg19 rfl
     have yg19b := yg19l.2 rfl
     have yg13l := (F54.ltAt 3 rfl _ rfl).1
     have yg12l := F54.ltAt 4 rfl yg12 rfl
     have yg12b := yg12l.2 rfl
     have yg6l := (F54.ltAt 5 rfl _ rfl).1
     have yg5l := F54.ltAt 6 rfl yg5 rfl
     have yg5b := yg5l.2 rfl
     refine ru_one 24 rfl (by kernel_rfl) (fun K hK => ?_)
     have kb_ := F54.bx4 0 rfl
     go_simp
     clear kb_
     have F55 := (F54.set 1 (.slice (some ⟨yg13, 0, none⟩) (k + 1) yc13)).nf #[.slice (some ⟨yg6, 0, none⟩) (k + 1) yc6, .slice (some ⟨yg13, 0, none⟩) (k + 1) yc13, vf, .slice none 0 0] rfl
     clear F54
     refine ru_back_late hK (by kernel_rfl) ?_
     clear hK K
     (try simp only [lpX])
     refine ru_p 25 ?_
     (try simp only [lpX])
     exact hZ48.out _ _ _ (by kernel_rfl) (by kernel_rfl) rfl ⟨yg5, yg6, yc6, yg12, yg13, yc13, yg19, yg20, yc20, by (iterate 8 refine ⟨by kernel_rfl, ?_⟩); exact ⟨(by first | omega | (simp; done) | (simp; omega)), F55⟩⟩
    intro hZ52
    refine ru_state 121 (fun t w_ => ∃ (yg5 : Nat) (yg6 : Nat) (yc6 : Nat) (yg12 : Nat) (yg13 : Nat) (yc13 : Nat) (yg19 : Nat) (yg20 : Nat) (yc20 : Nat), t 1 = .slice ad dl.length cd /\ t 2 = .bool true /\ t 3 = .pointer (some ⟨w.heap.size, 0, none⟩) /\ t 6 = .pointer (some ⟨w.heap.size + 1, 0, none⟩) /\ t 7 = .pointer (some ⟨w.heap.size + 2, 0, none⟩) /\ t 8 = .int .i64 (k : Int) /\ t 33 = .slice (some ⟨yg6, 0, none⟩) (k + 1) yc6 /\ t 40 = .slice (some ⟨yg13, 0, none⟩) (k + 1) yc13 /\ t 47 = .slice (some ⟨yg20, 0, none⟩) (k + 1) yc20 /\ t 48 = .pointer (some ⟨w.heap.size + 2, 0, none⟩) /\ w33.heap.size <= w_.heap.size /\ Bun w [rown intEnc 3 1 w.heap.size (.slice (some ⟨yg20, 0, none⟩) (k + 1) yc20) (numL wb Tsk.fr ts k ++ [z.fr.hi]), rbox yg19 3 #[.int .i64 z.fr.hi], rown intEnc 3 1 w.heap.size (.slice (some ⟨yg13, 0, none⟩) (k + 1) yc13) (numL wb Tsk.wa ts k ++ [z.wa.hi]), rbox yg12 3 #[.int .i64 z.wa.hi], rown intEnc 3 1 w.heap.size (.slice (some ⟨yg6, 0, none⟩) (k + 1) yc6) (numL wb Tsk.ho ts k ++ [z.ho.hi]), rbox yg5 3 #[.int .i64 z.ho.hi], rbox w15.heap.size 79 #[.int .i64 z.m, .int .i64 z.ho.lo, .int .i64 z.ho.hi, .int .i64 z.wa.lo, .int .i64 z.wa.hi, .int .i64 z.fr.lo, .int .i64 z.fr.hi, .slice a_z z.af.length c_z], rsl intEnc 1 lo hi (.slice a_z z.af.length c_z) z.af, rbox (w.heap.size + 2) 51 #[vh, vw, vf, .slice none 0 0], rbox (w.heap.size + 1) 51 #[.slice none 0 0, .slice none 0 0, .slice none 0 0, .slice none 0 0], rbox w.heap.size 25 #[.slice aM ms.length cM, .slice (some ⟨x17, o18, none⟩) ts.length cT], rsl weaEnc 6 lo2 hi2 (.slice ad dl.length cd) dl, rafs lo hi ts, rsl tskEnc 8 lo hi (.slice (some ⟨x17, o18, none⟩) ts.length cT) ts, rsl mchEnc 3 lo hi (.slice aM ms.length cM) ms] w_) #[true, true, true, true, true, true, true, true, true, true, true, true, true, true, true, true, true, true, true, true, true, true, false, false, false, false, false] 5 ?st56 ?nx56
    case st56 =>
     rintro t w57 ⟨yg5, yg6, yc6, yg12, yg13, yc13, yg19, yg20, yc20, e1, e2, e3, e6, e7, e8, e33, e40, e47, e48, hsz56, F58⟩
     clear F36
     rw [rng_rcaseOf_c t, e1, e2, e3, e6, e7, e8, e33, e40, e47, e48]
     clear e1 e2 e3 e6 e7 e8 e33 e40 e47 e48
     have hws56 := F58.gb.size
     have yg20l := (F58.ltAt 0 rfl _ rfl).1
     have yg19l := F58.ltAt 1 rfl yg19 rfl
     have yg19b := yg19l.2 rfl
     have yg13l := (F58.ltAt 2 rfl _ rfl).1
     have yg12l := F58.ltAt 3 rfl yg12 rfl
     have yg12b := yg12l.2 rfl
     have yg6l := (F58.ltAt 4 rfl _ rfl).1
     have yg5l := F58.ltAt 5 rfl yg5 rfl
     have yg5b := yg5l.2 rfl
     refine ru_one 22 rfl (by kernel_rfl) (fun K hK => ?_)
     have kb_ := F58.bx4 8 rfl
     go_simp
     clear kb_
     have F59 := ((F58.front 8 rfl rfl).set 0 (.slice (some ⟨yg6, 0, none⟩) (k + 1) yc6)).nf #[.slice (some ⟨yg6, 0, none⟩) (k + 1) yc6, vw, vf, .slice none 0 0] rfl
     clear F58
     refine ru_back_late hK (by kernel_rfl) ?_
     clear hK K
     (try simp only [lpX])
     refine ru_p 23 ?_
     (try simp only [lpX])
     exact hZ52.out _ _ _ (by kernel_rfl) (by kernel_rfl) rfl ⟨yg5, yg6, yc6, yg12, yg13, yc13, yg19, yg20, yc20, by (iterate 9 refine ⟨by kernel_rfl, ?_⟩); exact ⟨(by first | omega | (simp; done) | (simp; omega)), F59⟩⟩
    intro hZ56
    refine ru_state 121 (fun t w_ => ∃ (yg5 : Nat) (yg6 : Nat) (yc6 : Nat) (yg12 : Nat) (yg13 : Nat) (yc13 : Nat) (yg19 : Nat), t 1 = .slice ad dl.length cd /\ t 2 = .bool true /\ t 3 = .pointer (some ⟨w.heap.size, 0, none⟩) /\ t 6 = .pointer (some ⟨w.heap.size + 1, 0, none⟩) /\ t 7 = .pointer (some ⟨w.heap.size + 2, 0, none⟩) /\ t 8 = .int .i64 (k : Int) /\ t 33 = .slice (some ⟨yg6, 0, none⟩) (k + 1) yc6 /\ t 40 = .slice (some ⟨yg13, 0, none⟩) (k + 1) yc13 /\ t 42 = vf /\ t 46 = .slice (some ⟨yg19, 0, none⟩) 1 1 /\ t 48 = .pointer (some ⟨w.heap.size + 2, 0, none⟩) /\ w33.heap.size <= w_.heap.size /\ Bun w [rbox yg19 3 #[.int .i64 z.fr.hi], rown intEnc 3 1 w.heap.size (.slice (some ⟨yg13, 0, none⟩) (k + 1) yc13) (numL wb Tsk.wa ts k ++ [z.wa.hi]), rbox yg12 3 #[.int .i64 z.wa.hi], rown intEnc 3 1 w.heap.size (.slice (some ⟨yg6, 0, none⟩) (k + 1) yc6) (numL wb Tsk.ho ts k ++ [z.ho.hi]), rbox yg5 3 #[.int .i64 z.ho.hi], rbox w15.heap.size 79 #[.int .i64 z.m, .int .i64 z.ho.lo, .int .i64 z.ho.hi, .int .i64 z.wa.lo, .int .i64 z.wa.hi, .int .i64 z.fr.lo, .int .i64 z.fr.hi, .slice a_z z.af.length c_z], rsl intEnc 1 lo hi (.slice a_z z.af.length c_z) z.af, rown intEnc 3 1 w.heap.size vf (numL wb Tsk.fr ts k), rbox (w.heap.size + 2) 51 #[vh, vw, vf, .slice none 0 0], rbox (w.heap.size + 1) 51 #[.slice none 0 0, .slice none 0 0, .slice none 0 0, .slice none 0 0], rbox w.heap.size 25 #[.slice aM ms.length cM, .slice (some ⟨x17, o18, none⟩) ts.length cT], rsl weaEnc 6 lo2 hi2 (.slice ad dl.length cd) dl, rafs lo hi ts, rsl tskEnc 8 lo hi (.slice (some ⟨x17, o18, none⟩) ts.length cT) ts, rsl mchEnc 3 lo hi (.slice aM ms.length cM) ms] w_) #[true, true, true, true, true, true, true, true, true, true, true, true, true, true, true, true, true, true, true, true, false, true, false, false, false, false, false] 6 ?st60 ?nx60
    case st60 =>
     rintro t w61 ⟨yg5, yg6, yc6, yg12, yg13, yc13, yg19, e1, e2, e3, e6, e7, e8, e33, e40, e42, e46, e48, hsz60, F62⟩
     clear F36
     rw [rng_rcaseOf_c t, e1, e2, e3, e6, e7, e8, e33, e40, e42, e46, e48]
     clear e1 e2 e3 e6 e7 e8 e33 e40 e42 e46 e48
     have hws60 := F62.gb.size
     have yg19l := F62.ltAt 0 rfl yg19 rfl
     have yg19b := yg19l.2 rfl
     have yg13l := (F62.ltAt 1 rfl _ rfl).1
     have yg12l := F62.ltAt 2 rfl yg12 rfl
     have yg12b := yg12l.2 rfl
     have yg6l := (F62.ltAt 3 rfl _ rfl).1
     have yg5l := F62.ltAt 4 rfl yg5 rfl
     have yg5b := yg5l.2 rfl
     refine ru_one 20 rfl (by kernel_rfl) (fun K hK => ?_)
     refine step_app _ okInt rfl _ _ rfl w.heap.size vf (numL wb Tsk.fr ts k) [z.fr.hi] rfl (by exact (F62.at 7 rfl : Own intEnc 3 1 w.heap.size _ vf (numL wb Tsk.fr ts k))) ⟨_, 0, none⟩ 1 1 rfl rfl (by decide) (news_of (F62.at 0 rfl : Bk _ yg19 3 #[.int .i64 z.fr.hi])) (k + 1) (by rw [numL_len (by omega)]) (by omega) (by first | omega | (simp; omega)) _ rfl ?_
     intro g63 cap64 w65 hp66
     have hp66s := hp66.gb.size
     (try simp at hp66s)
     have F67 := (F62.front 7 rfl rfl).app hp66 (Nat.le_refl _)
     clear F62
     refine ru_back hK (by exact ⟨F67.q 8 0, F67.q 6 2, F67.q 8 1, F67.q 6 4, F67.q 8 2, F67.q 6 6⟩) (fun _ => ?_)
     exact hZ56.out _ _ _ (by kernel_rfl) (by kernel_rfl) rfl ⟨yg5, yg6, yc6, yg12, yg13, yc13, yg19, g63, cap64, by (iterate 10 refine ⟨by kernel_rfl, ?_⟩); exact ⟨(by first | omega | (simp; done) | (simp; omega)), F67⟩⟩
    intro hZ60
    refine ru_state 121 (fun t w_ => ∃ (yg5 : Nat) (yg6 : Nat) (yc6 : Nat) (yg12 : Nat) (yg13 : Nat) (yc13 : Nat), t 1 = .slice ad dl.length cd /\ t 2 = .bool true /\ t 3 = .pointer (some ⟨w.heap.size, 0, none⟩) /\ t 6 = .pointer (some ⟨w.heap.size + 1, 0, none⟩) /\ t 7 = .pointer (some ⟨w.heap.size + 2, 0, none⟩) /\ t 8 = .int .i64 (k : Int) /\ t 33 = .slice (some ⟨yg6, 0, none⟩) (k + 1) yc6 /\ t 40 = .slice (some ⟨yg13, 0, none⟩) (k + 1) yc13 /\ t 42 = vf /\ t 45 = .int .i64 z.fr.hi /\ t 48 = .pointer (some ⟨w.heap.size + 2, 0, none⟩) /\ w33.heap.size <= w_.heap.size /\ Bun w [rown intEnc 3 1 w.heap.size (.slice (some ⟨yg13, 0, none⟩) (k + 1) yc13) (numL wb Tsk.wa ts k ++ [z.wa.hi]), rbox yg12 3 #[.int .i64 z.wa.hi], rown intEnc 3 1 w.heap.size (.slice (some ⟨yg6, 0, none⟩) (k + 1) yc6) (numL wb Tsk.ho ts k ++ [z.ho.hi]), rbox yg5 3 #[.int .i64 z.ho.hi], rbox w15.heap.size 79 #[.int .i64 z.m, .int .i64 z.ho.lo, .int .i64 z.ho.hi, .int .i64 z.wa.lo, .int .i64 z.wa.hi, .int .i64 z.fr.lo, .int .i64 z.fr.hi, .slice a_z z.af.length c_z], rsl intEnc 1 lo hi (.slice a_z z.af.length c_z) z.af, rown intEnc 3 1 w.heap.size vf (numL wb Tsk.fr ts k), rbox (w.heap.size + 2) 51 #[vh, vw, vf, .slice none 0 0], rbox (w.heap.size + 1) 51 #[.slice none 0 0, .slice none 0 0, .slice none 0 0, .slice none 0 0], rbox w.heap.size 25 #[.slice aM ms.length cM, .slice (some ⟨x17, o18, none⟩) ts.length cT], rsl weaEnc 6 lo2 hi2 (.slice ad dl.length cd) dl, rafs lo hi ts, rsl tskEnc 8 lo hi (.slice (some ⟨x17, o18, none⟩) ts.length cT) ts, rsl mchEnc 3 lo hi (.slice aM ms.length cM) ms] w_) #[true, true, true, true, true, true, true, true, true, true, true, true, true, true, true, true, true, true, true, false, false, true, false, false, false, false, false] 7 ?st68 ?nx68
    case st68 =>
     rintro t w69 ⟨yg5, yg6, yc6, yg12, yg13, yc13, e1, e2, e3, e6, e7, e8, e33, e40, e42, e45, e48, hsz68, F70⟩
     clear F36
     rw [rng_rcaseOf_c t, e1, e2, e3, e6, e7, e8, e33, e40, e42, e45, e48]
     clear e1 e2 e3 e6 e7 e8 e33 e40 e42 e45 e48
     have hws68 := F70.gb.size
     have yg13l := (F70.ltAt 0 rfl _ rfl).1
     have yg12l := F70.ltAt 1 rfl yg12 rfl
     have yg12b := yg12l.2 rfl
     have yg6l := (F70.ltAt 2 rfl _ rfl).1
     have yg5l := F70.ltAt 3 rfl yg5 rfl
     have yg5b := yg5l.2 rfl
     refine ru_one 19 rfl (by kernel_rfl) (fun K hK => ?_)
     go_simp
     replace F70 := F70.new 3 #[.int .i64 z.fr.hi] (n := w69.heap.size) (by simp)
     refine ru_back hK (by exact ⟨F70.q 8 0, F70.q 5 2, F70.q 8 1, F70.q 5 4, F70.q 8 2, F70.q 5 6⟩) (fun _ => ?_)
     exact hZ60.out _ _ _ (by kernel_rfl) (by kernel_rfl) rfl ⟨yg5, yg6, yc6, yg12, yg13, yc13, w69.heap.size, by (iterate 11 refine ⟨by kernel_rfl, ?_⟩); exact ⟨(by first | omega | (simp; done) | (simp; omega)), F70⟩⟩
    intro hZ68
    refine ru_state 121 (fun t w_ => ∃ (yg5 : Nat) (yg6 : Nat) (yc6 : Nat) (yg12 : Nat) (yg19 : Nat), t 1 = .slice ad dl.length cd /\ t 2 = .bool true /\ t 3 = .pointer (some ⟨w.heap.size, 0, none⟩) /\ t 6 = .pointer (some ⟨w.heap.size + 1, 0, none⟩) /\ t 7 = .pointer (some ⟨w.heap.size + 2, 0, none⟩) /\ t 8 = .int .i64 (k : Int) /\ t 33 = .slice (some ⟨yg6, 0, none⟩) (k + 1) yc6 /\ t 35 = vw /\ t 39 = .slice (some ⟨yg12, 0, none⟩) 1 1 /\ t 42 = vf /\ t 46 = .slice (some ⟨yg19, 0, none⟩) 1 1 /\ t 48 = .pointer (some ⟨w.heap.size + 2, 0, none⟩) /\ w33.heap.size <= w_.heap.size /\ Bun w [rbox yg19 3 #[.int .i64 z.fr.hi], rbox yg12 3 #[.int .i64 z.wa.hi], rown intEnc 3 1 w.heap.size (.slice (some ⟨yg6, 0, none⟩) (k + 1) yc6) (numL wb Tsk.ho ts k ++ [z.ho.hi]), rbox yg5 3 #[.int .i64 z.ho.hi], rbox w15.heap.size 79 #[.int .i64 z.m, .int .i64 z.ho.lo, .int .i64 z.ho.hi, .int .i64 z.wa.lo, .int .i64 z.wa.hi, .int .i64 z.fr.lo, .int .i64 z.fr.hi, .slice a_z z.af.length c_z], rsl intEnc 1 lo hi (.slice a_z z.af.length c_z) z.af, rown intEnc 3 1 w.heap.size vw (numL wb Tsk.wa ts k), rown intEnc 3 1 w.heap.size vf (numL wb Tsk.fr ts k), rbox (w.heap.size + 2) 51 #[vh, vw, vf, .slice none 0 0], rbox (w.heap.size + 1) 51 #[.slice none 0 0, .slice none 0 0, .slice none 0 0, .slice none 0 0], rbox w.heap.size 25 #[.slice aM ms.length cM, .slice (some ⟨x17, o18, none⟩) ts.length cT], rsl weaEnc 6 lo2 hi2 (.slice ad dl.length cd) dl, rafs lo hi ts, rsl tskEnc 8 lo hi (.slice (some ⟨x17, o18, none⟩) ts.length cT) ts, rsl mchEnc 3 lo hi (.slice aM ms.length cM) ms] w_) #[true, true, true, true, true, true, true, true, true, true, true, true, true, false, true, true, true, true, true, true, false, true, false, false, false, false, false] 7 ?st72 ?nx72
    case st72 =>
     rintro t w73 ⟨yg5, yg6, yc6, yg12, yg19, e1, e2, e3, e6, e7, e8, e33, e35, e39, e42, e46, e48, hsz72, F74⟩
     clear F36
     rw [rng_rcaseOf_c t, e1, e2, e3, e6, e7, e8, e33, e35, e39, e42, e46, e48]
     clear e1 e2 e3 e6 e7 e8 e33 e35 e39 e42 e46 e48
     have hws72 := F74.gb.size
     have yg19l := F74.ltAt 0 rfl yg19 rfl
     have yg19b := yg19l.2 rfl
     have yg12l := F74.ltAt 1 rfl yg12 rfl
     have yg12b := yg12l.2 rfl
     have yg6l := (F74.ltAt 2 rfl _ rfl).1
     have yg5l := F74.ltAt 3 rfl yg5 rfl
     have yg5b := yg5l.2 rfl
     refine ru_one 13 rfl (by kernel_rfl) (fun K hK => ?_)
     refine step_app _ okInt rfl _ _ rfl w.heap.size vw (numL wb Tsk.wa ts k) [z.wa.hi] rfl (by exact (F74.at 6 rfl : Own intEnc 3 1 w.heap.size _ vw (numL wb Tsk.wa ts k))) ⟨_, 0, none⟩ 1 1 rfl rfl (by decide) (news_of (F74.at 1 rfl : Bk _ yg12 3 #[.int .i64 z.wa.hi])) (k + 1) (by rw [numL_len (by omega)]) (by omega) (by first | omega | (simp; omega)) _ rfl ?_
     intro g75 cap76 w77 hp78
     have hp78s := hp78.gb.size
     (try simp at hp78s)
     have F79 := (F74.front 6 rfl rfl).app hp78 (Nat.le_refl _)
     clear F74
     refine ru_back hK (by exact ⟨F79.q 8 0, F79.q 5 2, F79.q 8 1, F79.q 5 4, F79.q 8 2, F79.q 5 6⟩) (fun _ => ?_)
     exact hZ60.out _ _ _ (by kernel_rfl) (by kernel_rfl) rfl ⟨yg5, yg6, yc6, yg12, g75, cap76, yg19, by (iterate 11 refine ⟨by kernel_rfl, ?_⟩); exact ⟨(by first | omega | (simp; done) | (simp; omega)), (F79.pick [1, 0, 2, 3, 4, 5, 6, 7, 8, 9, 10, 11, 12, 13, 14] (by decide) rfl)⟩⟩
    intro hZ72
    refine ru_state 121 (fun t w_ => ∃ (yg5 : Nat) (yg6 : Nat) (yc6 : Nat) (yg12 : Nat), t 1 = .slice ad dl.length cd /\ t 2 = .bool true /\ t 3 = .pointer (some ⟨w.heap.size, 0, none⟩) /\ t 6 = .pointer (some ⟨w.heap.size + 1, 0, none⟩) /\ t 7 = .pointer (some ⟨w.heap.size + 2, 0, none⟩) /\ t 8 = .int .i64 (k : Int) /\ t 33 = .slice (some ⟨yg6, 0, none⟩) (k + 1) yc6 /\ t 35 = vw /\ t 39 = .slice (some ⟨yg12, 0, none⟩) 1 1 /\ t 42 = vf /\ t 45 = .int .i64 z.fr.hi /\ t 48 = .pointer (some ⟨w.heap.size + 2, 0, none⟩) /\ w33.heap.size <= w_.heap.size /\ Bun w [rbox yg12 3 #[.int .i64 z.wa.hi], rown intEnc 3 1 w.heap.size (.slice (some ⟨yg6, 0, none⟩) (k + 1) yc6) (numL wb Tsk.ho ts k ++ [z.ho.hi]), rbox yg5 3 #[.int .i64 z.ho.hi], rbox w15.heap.size 79 #[.int .i64 z.m, .int .i64 z.ho.lo, .int .i64 z.ho.hi, .int .i64 z.wa.lo, .int .i64 z.wa.hi, .int .i64 z.fr.lo, .int .i64 z.fr.hi, .slice a_z z.af.length c_z], rsl intEnc 1 lo hi (.slice a_z z.af.length c_z) z.af, rown intEnc 3 1 w.heap.size vw (numL wb Tsk.wa ts k), rown intEnc 3 1 w.heap.size vf (numL wb Tsk.fr ts k), rbox (w.heap.size + 2) 51 #[vh, vw, vf, .slice none 0 0], rbox (w.heap.size + 1) 51 #[.slice none 0 0, .slice none 0 0, .slice none 0 0, .slice none 0 0], rbox w.heap.size 25 #[.slice aM ms.length cM, .slice (some ⟨x17, o18, none⟩) ts.length cT], rsl weaEnc 6 lo2 hi2 (.slice ad dl.length cd) dl, rafs lo hi ts, rsl tskEnc 8 lo hi (.slice (some ⟨x17, o18, none⟩) ts.length cT) ts, rsl mchEnc 3 lo hi (.slice aM ms.length cM) ms] w_) #[true, true, true, true, true, true, true, true, true, true, true, true, true, false, true, true, true, true, true, false, false, true, false, false, false, false, false] 8 ?st80 ?nx80
    case st80 =>
     rintro t w81 ⟨yg5, yg6, yc6, yg12, e1, e2, e3, e6, e7, e8, e33, e35, e39, e42, e45, e48, hsz80, F82⟩
     clear F36
     rw [rng_rcaseOf_c t, e1, e2, e3, e6, e7, e8, e33, e35, e39, e42, e45, e48]
     clear e1 e2 e3 e6 e7 e8 e33 e35 e39 e42 e45 e48
     have hws80 := F82.gb.size
     have yg12l := F82.ltAt 0 rfl yg12 rfl
     have yg12b := yg12l.2 rfl
     have yg6l := (F82.ltAt 1 rfl _ rfl).1
     have yg5l := F82.ltAt 2 rfl yg5 rfl
     have yg5b := yg5l.2 rfl
     refine ru_two 13 19 rfl rfl (by kernel_rfl) ?_ ?_
     ·
      intro K hK
      refine step_app _ okInt rfl _ _ rfl w.heap.size vw (numL wb Tsk.wa ts k) [z.wa.hi] rfl (by exact (F82.at 5 rfl : Own intEnc 3 1 w.heap.size _ vw (numL wb Tsk.wa ts k))) ⟨_, 0, none⟩ 1 1 rfl rfl (by decide) (news_of (F82.at 0 rfl : Bk _ yg12 3 #[.int .i64 z.wa.hi])) (k + 1) (by rw [numL_len (by omega)]) (by omega) (by first | omega | (simp; omega)) _ rfl ?_
      intro g83 cap84 w85 hp86
      have hp86s := hp86.gb.size
      (try simp at hp86s)
      have F87 := (F82.front 5 rfl rfl).app hp86 (Nat.le_refl _)
      clear F82
      refine ru_back hK (by exact ⟨F87.q 7 0, F87.q 4 2, F87.q 7 1, F87.q 4 4, F87.q 7 2, F87.q 4 6⟩) (fun _ => ?_)
      exact hZ68.out _ _ _ (by kernel_rfl) (by kernel_rfl) rfl ⟨yg5, yg6, yc6, yg12, g83, cap84, by (iterate 11 refine ⟨by kernel_rfl, ?_⟩); exact ⟨(by first | omega | (simp; done) | (simp; omega)), F87⟩⟩
     intro K hK
     go_simp
     replace F82 := F82.new 3 #[.int .i64 z.fr.hi] (n := w81.heap.size) (by simp)
     refine ru_back hK (by exact ⟨F82.q 8 0, F82.q 4 2, F82.q 8 1, F82.q 4 4, F82.q 8 2, F82.q 4 6⟩) (fun _ => ?_)
     exact hZ72.out _ _ _ (by kernel_rfl) (by kernel_rfl) rfl ⟨yg5, yg6, yc6, yg12, w81.heap.size, by (iterate 12 refine ⟨by kernel_rfl, ?_⟩); exact ⟨(by first | omega | (simp; done) | (simp; omega)), F82⟩⟩
    intro hZ80
    refine ru_state 121 (fun t w_ => ∃ (yg5 : Nat) (yg6 : Nat) (yc6 : Nat) (yg19 : Nat), t 1 = .slice ad dl.length cd /\ t 2 = .bool true /\ t 3 = .pointer (some ⟨w.heap.size, 0, none⟩) /\ t 6 = .pointer (some ⟨w.heap.size + 1, 0, none⟩) /\ t 7 = .pointer (some ⟨w.heap.size + 2, 0, none⟩) /\ t 8 = .int .i64 (k : Int) /\ t 33 = .slice (some ⟨yg6, 0, none⟩) (k + 1) yc6 /\ t 35 = vw /\ t 38 = .int .i64 z.wa.hi /\ t 42 = vf /\ t 46 = .slice (some ⟨yg19, 0, none⟩) 1 1 /\ t 48 = .pointer (some ⟨w.heap.size + 2, 0, none⟩) /\ w33.heap.size <= w_.heap.size /\ Bun w [rbox yg19 3 #[.int .i64 z.fr.hi], rown intEnc 3 1 w.heap.size (.slice (some ⟨yg6, 0, none⟩) (k + 1) yc6) (numL wb Tsk.ho ts k ++ [z.ho.hi]), rbox yg5 3 #[.int .i64 z.ho.hi], rbox w15.heap.size 79 #[.int .i64 z.m, .int .i64 z.ho.lo, .int .i64 z.ho.hi, .int .i64 z.wa.lo, .int .i64 z.wa.hi, .int .i64 z.fr.lo, .int .i64 z.fr.hi, .slice a_z z.af.length c_z], rsl intEnc 1 lo hi (.slice a_z z.af.length c_z) z.af, rown intEnc 3 1 w.heap.size vw (numL wb Tsk.wa ts k), rown intEnc 3 1 w.heap.size vf (numL wb Tsk.fr ts k), rbox (w.heap.size + 2) 51 #[vh, vw, vf, .slice none 0 0], rbox (w.heap.size + 1) 51 #[.slice none 0 0, .slice none 0 0, .slice none 0 0, .slice none 0 0], rbox w.heap.size 25 #[.slice aM ms.length cM, .slice (some ⟨x17, o18, none⟩) ts.length cT], rsl weaEnc 6 lo2 hi2 (.slice ad dl.length cd) dl, rafs lo hi ts, rsl tskEnc 8 lo hi (.slice (some ⟨x17, o18, none⟩) ts.length cT) ts, rsl mchEnc 3 lo hi (.slice aM ms.length cM) ms] w_) #[true, true, true, true, true, true, true, true, true, true, true, true, false, false, true, true, true, true, true, true, false, true, false, false, false, false, false] 8 ?st89 ?nx89
    case st89 =>
     rintro t w90 ⟨yg5, yg6, yc6, yg19, e1, e2, e3, e6, e7, e8, e33, e35, e38, e42, e46, e48, hsz89, F91⟩
     clear F36
     rw [rng_rcaseOf_c t, e1, e2, e3, e6, e7, e8, e33, e35, e38, e42, e46, e48]
     clear e1 e2 e3 e6 e7 e8 e33 e35 e38 e42 e46 e48
     have hws89 := F91.gb.size
     have yg19l := F91.ltAt 0 rfl yg19 rfl
     have yg19b := yg19l.2 rfl
     have yg6l := (F91.ltAt 1 rfl _ rfl).1
     have yg5l := F91.ltAt 2 rfl yg5 rfl
     have yg5b := yg5l.2 rfl
     refine ru_one 12 rfl (by kernel_rfl) (fun K hK => ?_)
     go_simp
     replace F91 := F91.new 3 #[.int .i64 z.wa.hi] (n := w90.heap.size) (by simp)
     refine ru_back hK (by exact ⟨F91.q 8 0, F91.q 4 2, F91.q 8 1, F91.q 4 4, F91.q 8 2, F91.q 4 6⟩) (fun _ => ?_)
     exact hZ72.out _ _ _ (by kernel_rfl) (by kernel_rfl) rfl ⟨yg5, yg6, yc6, w90.heap.size, yg19, by (iterate 12 refine ⟨by kernel_rfl, ?_⟩); exact ⟨(by first | omega | (simp; done) | (simp; omega)), (F91.pick [1, 0, 2, 3, 4, 5, 6, 7, 8, 9, 10, 11, 12, 13, 14] (by decide) rfl)⟩⟩
    intro hZ89
    refine ru_state 121 (fun t w_ => ∃ (yg5 : Nat) (yg6 : Nat) (yc6 : Nat), t 1 = .slice ad dl.length cd /\ t 2 = .bool true /\ t 3 = .pointer (some ⟨w.heap.size, 0, none⟩) /\ t 6 = .pointer (some ⟨w.heap.size + 1, 0, none⟩) /\ t 7 = .pointer (some ⟨w.heap.size + 2, 0, none⟩) /\ t 8 = .int .i64 (k : Int) /\ t 33 = .slice (some ⟨yg6, 0, none⟩) (k + 1) yc6 /\ t 35 = vw /\ t 38 = .int .i64 z.wa.hi /\ t 42 = vf /\ t 45 = .int .i64 z.fr.hi /\ t 48 = .pointer (some ⟨w.heap.size + 2, 0, none⟩) /\ w33.heap.size <= w_.heap.size /\ Bun w [rown intEnc 3 1 w.heap.size (.slice (some ⟨yg6, 0, none⟩) (k + 1) yc6) (numL wb Tsk.ho ts k ++ [z.ho.hi]), rbox yg5 3 #[.int .i64 z.ho.hi], rbox w15.heap.size 79 #[.int .i64 z.m, .int .i64 z.ho.lo, .int .i64 z.ho.hi, .int .i64 z.wa.lo, .int .i64 z.wa.hi, .int .i64 z.fr.lo, .int .i64 z.fr.hi, .slice a_z z.af.length c_z], rsl intEnc 1 lo hi (.slice a_z z.af.length c_z) z.af, rown intEnc 3 1 w.heap.size vw (numL wb Tsk.wa ts k), rown intEnc 3 1 w.heap.size vf (numL wb Tsk.fr ts k), rbox (w.heap.size + 2) 51 #[vh, vw, vf, .slice none 0 0], rbox (w.heap.size + 1) 51 #[.slice none 0 0, .slice none 0 0, .slice none 0 0, .slice none 0 0], rbox w.heap.size 25 #[.slice aM ms.length cM, .slice (some ⟨x17, o18, none⟩) ts.length cT], rsl weaEnc 6 lo2 hi2 (.slice ad dl.length cd) dl, rafs lo hi ts, rsl tskEnc 8 lo hi (.slice (some ⟨x17, o18, none⟩) ts.length cT) ts, rsl mchEnc 3 lo hi (.slice aM ms.length cM) ms] w_) #[true, true, true, true, true, true, true, true, true, true, true, true, false, false, true, true, true, true, true, false, false, true, false, false, false, false, false] 9 ?st93 ?nx93
    case st93 =>
     rintro t w94 ⟨yg5, yg6, yc6, e1, e2, e3, e6, e7, e8, e33, e35, e38, e42, e45, e48, hsz93, F95⟩
     clear F36
     rw [rng_rcaseOf_c t, e1, e2, e3, e6, e7, e8, e33, e35, e38, e42, e45, e48]
     clear e1 e2 e3 e6 e7 e8 e33 e35 e38 e42 e45 e48
     have hws93 := F95.gb.size
     have yg6l := (F95.ltAt 0 rfl _ rfl).1
     have yg5l := F95.ltAt 1 rfl yg5 rfl
     have yg5b := yg5l.2 rfl
     refine ru_two 12 19 rfl rfl (by kernel_rfl) ?_ ?_
     ·
      intro K hK
      go_simp
      replace F95 := F95.new 3 #[.int .i64 z.wa.hi] (n := w94.heap.size) (by simp)
      refine ru_back hK (by exact ⟨F95.q 7 0, F95.q 3 2, F95.q 7 1, F95.q 3 4, F95.q 7 2, F95.q 3 6⟩) (fun _ => ?_)
      exact hZ80.out _ _ _ (by kernel_rfl) (by kernel_rfl) rfl ⟨yg5, yg6, yc6, w94.heap.size, by (iterate 12 refine ⟨by kernel_rfl, ?_⟩); exact ⟨(by first | omega | (simp; done) | (simp; omega)), F95⟩⟩
     intro K hK
     go_simp
     replace F95 := F95.new 3 #[.int .i64 z.fr.hi] (n := w94.heap.size) (by simp)
     refine ru_back hK (by exact ⟨F95.q 7 0, F95.q 3 2, F95.q 7 1, F95.q 3 4, F95.q 7 2, F95.q 3 6⟩) (fun _ => ?_)
     exact hZ89.out _ _ _ (by kernel_rfl) (by kernel_rfl) rfl ⟨yg5, yg6, yc6, w94.heap.size, by (iterate 12 refine ⟨by kernel_rfl, ?_⟩); exact ⟨(by first | omega | (simp; done) | (simp; omega)), F95⟩⟩
    intro hZ93
    refine ru_state 121 (fun t w_ => ∃ (yg5 : Nat) (yg12 : Nat) (yg19 : Nat), t 1 = .slice ad dl.length cd /\ t 2 = .bool true /\ t 3 = .pointer (some ⟨w.heap.size, 0, none⟩) /\ t 6 = .pointer (some ⟨w.heap.size + 1, 0, none⟩) /\ t 7 = .pointer (some ⟨w.heap.size + 2, 0, none⟩) /\ t 8 = .int .i64 (k : Int) /\ t 28 = vh /\ t 32 = .slice (some ⟨yg5, 0, none⟩) 1 1 /\ t 35 = vw /\ t 39 = .slice (some ⟨yg12, 0, none⟩) 1 1 /\ t 42 = vf /\ t 46 = .slice (some ⟨yg19, 0, none⟩) 1 1 /\ w33.heap.size <= w_.heap.size /\ Bun w [rbox yg19 3 #[.int .i64 z.fr.hi], rbox yg12 3 #[.int .i64 z.wa.hi], rbox yg5 3 #[.int .i64 z.ho.hi], rbox w15.heap.size 79 #[.int .i64 z.m, .int .i64 z.ho.lo, .int .i64 z.ho.hi, .int .i64 z.wa.lo, .int .i64 z.wa.hi, .int .i64 z.fr.lo, .int .i64 z.fr.hi, .slice a_z z.af.length c_z], rsl intEnc 1 lo hi (.slice a_z z.af.length c_z) z.af, rown intEnc 3 1 w.heap.size vh (numL wb Tsk.ho ts k), rown intEnc 3 1 w.heap.size vw (numL wb Tsk.wa ts k), rown intEnc 3 1 w.heap.size vf (numL wb Tsk.fr ts k), rbox (w.heap.size + 2) 51 #[vh, vw, vf, .slice none 0 0], rbox (w.heap.size + 1) 51 #[.slice none 0 0, .slice none 0 0, .slice none 0 0, .slice none 0 0], rbox w.heap.size 25 #[.slice aM ms.length cM, .slice (some ⟨x17, o18, none⟩) ts.length cT], rsl weaEnc 6 lo2 hi2 (.slice ad dl.length cd) dl, rafs lo hi ts, rsl tskEnc 8 lo hi (.slice (some ⟨x17, o18, none⟩) ts.length cT) ts, rsl mchEnc 3 lo hi (.slice aM ms.length cM) ms] w_) #[true, true, true, true, true, true, false, true, true, true, true, true, true, false, true, true, true, true, true, true, false, false, false, false, false, false, false] 9 ?st98 ?nx98
    case st98 =>
     rintro t w99 ⟨yg5, yg12, yg19, e1, e2, e3, e6, e7, e8, e28, e32, e35, e39, e42, e46, hsz98, F100⟩
     clear F36
     rw [rng_rcaseOf_c t, e1, e2, e3, e6, e7, e8, e28, e32, e35, e39, e42, e46]
     clear e1 e2 e3 e6 e7 e8 e28 e32 e35 e39 e42 e46
     have hws98 := F100.gb.size
     have yg19l := F100.ltAt 0 rfl yg19 rfl
     have yg19b := yg19l.2 rfl
     have yg12l := F100.ltAt 1 rfl yg12 rfl
     have yg12b := yg12l.2 rfl
     have yg5l := F100.ltAt 2 rfl yg5 rfl
     have yg5b := yg5l.2 rfl
     refine ru_one 6 rfl (by kernel_rfl) (fun K hK => ?_)
     refine step_app _ okInt rfl _ _ rfl w.heap.size vh (numL wb Tsk.ho ts k) [z.ho.hi] rfl (by exact (F100.at 5 rfl : Own intEnc 3 1 w.heap.size _ vh (numL wb Tsk.ho ts k))) ⟨_, 0, none⟩ 1 1 rfl rfl (by decide) (news_of (F100.at 2 rfl : Bk _ yg5 3 #[.int .i64 z.ho.hi])) (k + 1) (by rw [numL_len (by omega)]) (by omega) (by first | omega | (simp; omega)) _ rfl ?_
     intro g101 cap102 w103 hp104
     have hp104s := hp104.gb.size
     (try simp at hp104s)
     have F105 := (F100.front 5 rfl rfl).app hp104 (Nat.le_refl _)
     clear F100
     refine ru_back hK (by exact ⟨F105.q 8 0, F105.q 4 2, F105.q 8 1, F105.q 4 4, F105.q 8 2, F105.q 4 6⟩) (fun _ => ?_)
     clear hK K
     (try simp only [lpX])
     refine ru_p 21 ?_
     (try simp only [lpX])
     exact hZ72.out _ _ _ (by kernel_rfl) (by kernel_rfl) rfl ⟨yg5, g101, cap102, yg12, yg19, by (iterate 12 refine ⟨by kernel_rfl, ?_⟩); exact ⟨(by first | omega | (simp; done) | (simp; omega)), (F105.pick [1, 2, 0, 3, 4, 5, 6, 7, 8, 9, 10, 11, 12, 13, 14] (by decide) rfl)⟩⟩
    intro hZ98
    refine ru_state 121 (fun t w_ => ∃ (yg5 : Nat) (yg12 : Nat), t 1 = .slice ad dl.length cd /\ t 2 = .bool true /\ t 3 = .pointer (some ⟨w.heap.size, 0, none⟩) /\ t 6 = .pointer (some ⟨w.heap.size + 1, 0, none⟩) /\ t 7 = .pointer (some ⟨w.heap.size + 2, 0, none⟩) /\ t 8 = .int .i64 (k : Int) /\ t 28 = vh /\ t 32 = .slice (some ⟨yg5, 0, none⟩) 1 1 /\ t 35 = vw /\ t 39 = .slice (some ⟨yg12, 0, none⟩) 1 1 /\ t 42 = vf /\ t 45 = .int .i64 z.fr.hi /\ w33.heap.size <= w_.heap.size /\ Bun w [rbox yg12 3 #[.int .i64 z.wa.hi], rbox yg5 3 #[.int .i64 z.ho.hi], rbox w15.heap.size 79 #[.int .i64 z.m, .int .i64 z.ho.lo, .int .i64 z.ho.hi, .int .i64 z.wa.lo, .int .i64 z.wa.hi, .int .i64 z.fr.lo, .int .i64 z.fr.hi, .slice a_z z.af.length c_z], rsl intEnc 1 lo hi (.slice a_z z.af.length c_z) z.af, rown intEnc 3 1 w.heap.size vh (numL wb Tsk.ho ts k), rown intEnc 3 1 w.heap.size vw (numL wb Tsk.wa ts k), rown intEnc 3 1 w.heap.size vf (numL wb Tsk.fr ts k), rbox (w.heap.size + 2) 51 #[vh, vw, vf, .slice none 0 0], rbox (w.heap.size + 1) 51 #[.slice none 0 0, .slice none 0 0, .slice none 0 0, .slice none 0 0], rbox w.heap.size 25 #[.slice aM ms.length cM, .slice (some ⟨x17, o18, none⟩) ts.length cT], rsl weaEnc 6 lo2 hi2 (.slice ad dl.length cd) dl, rafs lo hi ts, rsl tskEnc 8 lo hi (.slice (some ⟨x17, o18, none⟩) ts.length cT) ts, rsl mchEnc 3 lo hi (.slice aM ms.length cM) ms] w_) #[true, true, true, true, true, true, false, true, true, true, true, true, true, false, true, true, true, true, true, false, false, false, false, false, false, false, false] 10 ?st106 ?nx106
    case st106 =>
     rintro t w107 ⟨yg5, yg12, e1, e2, e3, e6, e7, e8, e28, e32, e35, e39, e42, e45, hsz106, F108⟩
     clear F36
     rw [rng_rcaseOf_c t, e1, e2, e3, e6, e7, e8, e28, e32, e35, e39, e42, e45]
     clear e1 e2 e3 e6 e7 e8 e28 e32 e35 e39 e42 e45
     have hws106 := F108.gb.size
     have yg12l := F108.ltAt 0 rfl yg12 rfl
     have yg12b := yg12l.2 rfl
     have yg5l := F108.ltAt 1 rfl yg5 rfl
     have yg5b := yg5l.2 rfl
     refine ru_two 6 19 rfl rfl (by kernel_rfl) ?_ ?_
     ·
      intro K hK
      refine step_app _ okInt rfl _ _ rfl w.heap.size vh (numL wb Tsk.ho ts k) [z.ho.hi] rfl (by exact (F108.at 4 rfl : Own intEnc 3 1 w.heap.size _ vh (numL wb Tsk.ho ts k))) ⟨_, 0, none⟩ 1 1 rfl rfl (by decide) (news_of (F108.at 1 rfl : Bk _ yg5 3 #[.int .i64 z.ho.hi])) (k + 1) (by rw [numL_len (by omega)]) (by omega) (by first | omega | (simp; omega)) _ rfl ?_
      intro g109 cap110 w111 hp112
      have hp112s := hp112.gb.size
      (try simp at hp112s)
      have F113 := (F108.front 4 rfl rfl).app hp112 (Nat.le_refl _)
      clear F108
      refine ru_back hK (by exact ⟨F113.q 7 0, F113.q 3 2, F113.q 7 1, F113.q 3 4, F113.q 7 2, F113.q 3 6⟩) (fun _ => ?_)
      clear hK K
      (try simp only [lpX])
      refine ru_p 21 ?_
      (try simp only [lpX])
      exact hZ80.out _ _ _ (by kernel_rfl) (by kernel_rfl) rfl ⟨yg5, g109, cap110, yg12, by (iterate 12 refine ⟨by kernel_rfl, ?_⟩); exact ⟨(by first | omega | (simp; done) | (simp; omega)), (F113.pick [1, 0, 2, 3, 4, 5, 6, 7, 8, 9, 10, 11, 12, 13] (by decide) rfl)⟩⟩
     intro K hK
     go_simp
     replace F108 := F108.new 3 #[.int .i64 z.fr.hi] (n := w107.heap.size) (by simp)
     refine ru_back hK (by exact ⟨F108.q 8 0, F108.q 3 2, F108.q 8 1, F108.q 3 4, F108.q 8 2, F108.q 3 6⟩) (fun _ => ?_)
     exact hZ98.out _ _ _ (by kernel_rfl) (by kernel_rfl) rfl ⟨yg5, yg12, w107.heap.size, by (iterate 12 refine ⟨by kernel_rfl, ?_⟩); exact ⟨(by first | omega | (simp; done) | (simp; omega)), F108⟩⟩
    intro hZ106
    refine ru_state 121 (fun t w_ => ∃ (yg5 : Nat) (yg19 : Nat), t 1 = .slice ad dl.length cd /\ t 2 = .bool true /\ t 3 = .pointer (some ⟨w.heap.size, 0, none⟩) /\ t 6 = .pointer (some ⟨w.heap.size + 1, 0, none⟩) /\ t 7 = .pointer (some ⟨w.heap.size + 2, 0, none⟩) /\ t 8 = .int .i64 (k : Int) /\ t 28 = vh /\ t 32 = .slice (some ⟨yg5, 0, none⟩) 1 1 /\ t 35 = vw /\ t 38 = .int .i64 z.wa.hi /\ t 42 = vf /\ t 46 = .slice (some ⟨yg19, 0, none⟩) 1 1 /\ w33.heap.size <= w_.heap.size /\ Bun w [rbox yg19 3 #[.int .i64 z.fr.hi], rbox yg5 3 #[.int .i64 z.ho.hi], rbox w15.heap.size 79 #[.int .i64 z.m, .int .i64 z.ho.lo, .int .i64 z.ho.hi, .int .i64 z.wa.lo, .int .i64 z.wa.hi, .int .i64 z.fr.lo, .int .i64 z.fr.hi, .slice a_z z.af.length c_z], rsl intEnc 1 lo hi (.slice a_z z.af.length c_z) z.af, rown intEnc 3 1 w.heap.size vh (numL wb Tsk.ho ts k), rown intEnc 3 1 w.heap.size vw (numL wb Tsk.wa ts k), rown intEnc 3 1 w.heap.size vf (numL wb Tsk.fr ts k), rbox (w.heap.size + 2) 51 #[vh, vw, vf, .slice none 0 0], rbox (w.heap.size + 1) 51 #[.slice none 0 0, .slice none 0 0, .slice none 0 0, .slice none 0 0], rbox w.heap.size 25 #[.slice aM ms.length cM, .slice (some ⟨x17, o18, none⟩) ts.length cT], rsl weaEnc 6 lo2 hi2 (.slice ad dl.length cd) dl, rafs lo hi ts, rsl tskEnc 8 lo hi (.slice (some ⟨x17, o18, none⟩) ts.length cT) ts, rsl mchEnc 3 lo hi (.slice aM ms.length cM) ms] w_) #[true, true, true, true, true, true, false, true, true, true, true, true, false, false, true, true, true, true, true, true, false, false, false, false, false, false, false] 10 ?st115 ?nx115
    case st115 =>
     rintro t w116 ⟨yg5, yg19, e1, e2, e3, e6, e7, e8, e28, e32, e35, e38, e42, e46, hsz115, F117⟩
     clear F36
     rw [rng_rcaseOf_c t, e1, e2, e3, e6, e7, e8, e28, e32, e35, e38, e42, e46]
     clear e1 e2 e3 e6 e7 e8 e28 e32 e35 e38 e42 e46
     have hws115 := F117.gb.size
     have yg19l := F117.ltAt 0 rfl yg19 rfl
     have yg19b := yg19l.2 rfl
     have yg5l := F117.ltAt 1 rfl yg5 rfl
     have yg5b := yg5l.2 rfl
     refine ru_two 6 12 rfl rfl (by kernel_rfl) ?_ ?_
     ·
      intro K hK
      refine step_app _ okInt rfl _ _ rfl w.heap.size vh (numL wb Tsk.ho ts k) [z.ho.hi] rfl (by exact (F117.at 4 rfl : Own intEnc 3 1 w.heap.size _ vh (numL wb Tsk.ho ts k))) ⟨_, 0, none⟩ 1 1 rfl rfl (by decide) (news_of (F117.at 1 rfl : Bk _ yg5 3 #[.int .i64 z.ho.hi])) (k + 1) (by rw [numL_len (by omega)]) (by omega) (by first | omega | (simp; omega)) _ rfl ?_
      intro g118 cap119 w120 hp121
      have hp121s := hp121.gb.size
      (try simp at hp121s)
      have F122 := (F117.front 4 rfl rfl).app hp121 (Nat.le_refl _)
      clear F117
      refine ru_back hK (by exact ⟨F122.q 7 0, F122.q 3 2, F122.q 7 1, F122.q 3 4, F122.q 7 2, F122.q 3 6⟩) (fun _ => ?_)
      clear hK K
      (try simp only [lpX])
      refine ru_p 21 ?_
      (try simp only [lpX])
      exact hZ89.out _ _ _ (by kernel_rfl) (by kernel_rfl) rfl ⟨yg5, g118, cap119, yg19, by (iterate 12 refine ⟨by kernel_rfl, ?_⟩); exact ⟨(by first | omega | (simp; done) | (simp; omega)), (F122.pick [1, 0, 2, 3, 4, 5, 6, 7, 8, 9, 10, 11, 12, 13] (by decide) rfl)⟩⟩
     intro K hK
     go_simp
     replace F117 := F117.new 3 #[.int .i64 z.wa.hi] (n := w116.heap.size) (by simp)
     refine ru_back hK (by exact ⟨F117.q 8 0, F117.q 3 2, F117.q 8 1, F117.q 3 4, F117.q 8 2, F117.q 3 6⟩) (fun _ => ?_)
     exact hZ98.out _ _ _ (by kernel_rfl) (by kernel_rfl) rfl ⟨yg5, w116.heap.size, yg19, by (iterate 12 refine ⟨by kernel_rfl, ?_⟩); exact ⟨(by first | omega | (simp; done) | (simp; omega)), (F117.pick [1, 0, 2, 3, 4, 5, 6, 7, 8, 9, 10, 11, 12, 13, 14] (by decide) rfl)⟩⟩
    intro hZ115
    refine ru_state 121 (fun t w_ => ∃ (yg12 : Nat) (yg19 : Nat), t 1 = .slice ad dl.length cd /\ t 2 = .bool true /\ t 3 = .pointer (some ⟨w.heap.size, 0, none⟩) /\ t 6 = .pointer (some ⟨w.heap.size + 1, 0, none⟩) /\ t 7 = .pointer (some ⟨w.heap.size + 2, 0, none⟩) /\ t 8 = .int .i64 (k : Int) /\ t 28 = vh /\ t 31 = .int .i64 z.ho.hi /\ t 35 = vw /\ t 39 = .slice (some ⟨yg12, 0, none⟩) 1 1 /\ t 42 = vf /\ t 46 = .slice (some ⟨yg19, 0, none⟩) 1 1 /\ w33.heap.size <= w_.heap.size /\ Bun w [rbox yg19 3 #[.int .i64 z.fr.hi], rbox yg12 3 #[.int .i64 z.wa.hi], rbox w15.heap.size 79 #[.int .i64 z.m, .int .i64 z.ho.lo, .int .i64 z.ho.hi, .int .i64 z.wa.lo, .int .i64 z.wa.hi, .int .i64 z.fr.lo, .int .i64 z.fr.hi, .slice a_z z.af.length c_z], rsl intEnc 1 lo hi (.slice a_z z.af.length c_z) z.af, rown intEnc 3 1 w.heap.size vh (numL wb Tsk.ho ts k), rown intEnc 3 1 w.heap.size vw (numL wb Tsk.wa ts k), rown intEnc 3 1 w.heap.size vf (numL wb Tsk.fr ts k), rbox (w.heap.size + 2) 51 #[vh, vw, vf, .slice none 0 0], rbox (w.heap.size + 1) 51 #[.slice none 0 0, .slice none 0 0, .slice none 0 0, .slice none 0 0], rbox w.heap.size 25 #[.slice aM ms.length cM, .slice (some ⟨x17, o18, none⟩) ts.length cT], rsl weaEnc 6 lo2 hi2 (.slice ad dl.length cd) dl, rafs lo hi ts, rsl tskEnc 8 lo hi (.slice (some ⟨x17, o18, none⟩) ts.length cT) ts, rsl mchEnc 3 lo hi (.slice aM ms.length cM) ms] w_) #[true, true, true, true, true, false, false, true, true, true, true, true, true, false, true, true, true, true, true, true, false, false, false, false, false, false, false] 10 ?st124 ?nx124
    case st124 =>
     rintro t w125 ⟨yg12, yg19, e1, e2, e3, e6, e7, e8, e28, e31, e35, e39, e42, e46, hsz124, F126⟩
     clear F36
     rw [rng_rcaseOf_c t, e1, e2, e3, e6, e7, e8, e28, e31, e35, e39, e42, e46]
     clear e1 e2 e3 e6 e7 e8 e28 e31 e35 e39 e42 e46
     have hws124 := F126.gb.size
     have yg19l := F126.ltAt 0 rfl yg19 rfl
     have yg19b := yg19l.2 rfl
     have yg12l := F126.ltAt 1 rfl yg12 rfl
     have yg12b := yg12l.2 rfl
     refine ru_one 5 rfl (by kernel_rfl) (fun K hK => ?_)
     go_simp
     replace F126 := F126.new 3 #[.int .i64 z.ho.hi] (n := w125.heap.size) (by simp)
     refine ru_back hK (by exact ⟨F126.q 8 0, F126.q 3 2, F126.q 8 1, F126.q 3 4, F126.q 8 2, F126.q 3 6⟩) (fun _ => ?_)
     exact hZ98.out _ _ _ (by kernel_rfl) (by kernel_rfl) rfl ⟨w125.heap.size, yg12, yg19, by (iterate 12 refine ⟨by kernel_rfl, ?_⟩); exact ⟨(by first | omega | (simp; done) | (simp; omega)), (F126.pick [1, 2, 0, 3, 4, 5, 6, 7, 8, 9, 10, 11, 12, 13, 14] (by decide) rfl)⟩⟩
    intro hZ124
    refine ru_state 121 (fun t w_ => ∃ (yg5 : Nat), t 1 = .slice ad dl.length cd /\ t 2 = .bool true /\ t 3 = .pointer (some ⟨w.heap.size, 0, none⟩) /\ t 6 = .pointer (some ⟨w.heap.size + 1, 0, none⟩) /\ t 7 = .pointer (some ⟨w.heap.size + 2, 0, none⟩) /\ t 8 = .int .i64 (k : Int) /\ t 28 = vh /\ t 32 = .slice (some ⟨yg5, 0, none⟩) 1 1 /\ t 35 = vw /\ t 38 = .int .i64 z.wa.hi /\ t 42 = vf /\ t 45 = .int .i64 z.fr.hi /\ w33.heap.size <= w_.heap.size /\ Bun w [rbox yg5 3 #[.int .i64 z.ho.hi], rbox w15.heap.size 79 #[.int .i64 z.m, .int .i64 z.ho.lo, .int .i64 z.ho.hi, .int .i64 z.wa.lo, .int .i64 z.wa.hi, .int .i64 z.fr.lo, .int .i64 z.fr.hi, .slice a_z z.af.length c_z], rsl intEnc 1 lo hi (.slice a_z z.af.length c_z) z.af, rown intEnc 3 1 w.heap.size vh (numL wb Tsk.ho ts k), rown intEnc 3 1 w.heap.size vw (numL wb Tsk.wa ts k), rown intEnc 3 1 w.heap.size vf (numL wb Tsk.fr ts k), rbox (w.heap.size + 2) 51 #[vh, vw, vf, .slice none 0 0], rbox (w.heap.size + 1) 51 #[.slice none 0 0, .slice none 0 0, .slice none 0 0, .slice none 0 0], rbox w.heap.size 25 #[.slice aM ms.length cM, .slice (some ⟨x17, o18, none⟩) ts.length cT], rsl weaEnc 6 lo2 hi2 (.slice ad dl.length cd) dl, rafs lo hi ts, rsl tskEnc 8 lo hi (.slice (some ⟨x17, o18, none⟩) ts.length cT) ts, rsl mchEnc 3 lo hi (.slice aM ms.length cM) ms] w_) #[true, true, true, true, true, true, false, true, true, true, true, true, false, false, true, true, true, true, true, false, false, false, false, false, false, false, false] 11 ?st128 ?nx128
    case st128 =>
     rintro t w129 ⟨yg5, e1, e2, e3, e6, e7, e8, e28, e32, e35, e38, e42, e45, hsz128, F130⟩
     clear F36
     rw [rng_rcaseOf_c t, e1, e2, e3, e6, e7, e8, e28, e32, e35, e38, e42, e45]
     clear e1 e2 e3 e6 e7 e8 e28 e32 e35 e38 e42 e45
     have hws128 := F130.gb.size
     have yg5l := F130.ltAt 0 rfl yg5 rfl
     have yg5b := yg5l.2 rfl
     refine ru_three 6 12 19 rfl rfl rfl (by kernel_rfl) ?_ ?_ ?_
     ·
      intro K hK
      refine step_app _ okInt rfl _ _ rfl w.heap.size vh (numL wb Tsk.ho ts k) [z.ho.hi] rfl (by exact (F130.at 3 rfl : Own intEnc 3 1 w.heap.size _ vh (numL wb Tsk.ho ts k))) ⟨_, 0, none⟩ 1 1 rfl rfl (by decide) (news_of (F130.at 0 rfl : Bk _ yg5 3 #[.int .i64 z.ho.hi])) (k + 1) (by rw [numL_len (by omega)]) (by omega) (by first | omega | (simp; omega)) _ rfl ?_
      intro g131 cap132 w133 hp134
      have hp134s := hp134.gb.size
      (try simp at hp134s)
      have F135 := (F130.front 3 rfl rfl).app hp134 (Nat.le_refl _)
      clear F130
      refine ru_back hK (by exact ⟨F135.q 6 0, F135.q 2 2, F135.q 6 1, F135.q 2 4, F135.q 6 2, F135.q 2 6⟩) (fun _ => ?_)
      clear hK K
      (try simp only [lpX])
      refine ru_p 21 ?_
      (try simp only [lpX])
      exact hZ93.out _ _ _ (by kernel_rfl) (by kernel_rfl) rfl ⟨yg5, g131, cap132, by (iterate 12 refine ⟨by kernel_rfl, ?_⟩); exact ⟨(by first | omega | (simp; done) | (simp; omega)), F135⟩⟩
     ·
      intro K hK
      go_simp
      replace F130 := F130.new 3 #[.int .i64 z.wa.hi] (n := w129.heap.size) (by simp)
      refine ru_back hK (by exact ⟨F130.q 7 0, F130.q 2 2, F130.q 7 1, F130.q 2 4, F130.q 7 2, F130.q 2 6⟩) (fun _ => ?_)
      exact hZ106.out _ _ _ (by kernel_rfl) (by kernel_rfl) rfl ⟨yg5, w129.heap.size, by (iterate 12 refine ⟨by kernel_rfl, ?_⟩); exact ⟨(by first | omega | (simp; done) | (simp; omega)), F130⟩⟩
     intro K hK
     go_simp
     replace F130 := F130.new 3 #[.int .i64 z.fr.hi] (n := w129.heap.size) (by simp)
     refine ru_back hK (by exact ⟨F130.q 7 0, F130.q 2 2, F130.q 7 1, F130.q 2 4, F130.q 7 2, F130.q 2 6⟩) (fun _ => ?_)
     exact hZ115.out _ _ _ (by kernel_rfl) (by kernel_rfl) rfl ⟨yg5, w129.heap.size, by (iterate 12 refine ⟨by kernel_rfl, ?_⟩); exact ⟨(by first | omega | (simp; done) | (simp; omega)), F130⟩⟩
    intro hZ128
    refine ru_state 121 (fun t w_ => ∃ (yg12 : Nat), t 1 = .slice ad dl.length cd /\ t 2 = .bool true /\ t 3 = .pointer (some ⟨w.heap.size, 0, none⟩) /\ t 6 = .pointer (some ⟨w.heap.size + 1, 0, none⟩) /\ t 7 = .pointer (some ⟨w.heap.size + 2, 0, none⟩) /\ t 8 = .int .i64 (k : Int) /\ t 28 = vh /\ t 31 = .int .i64 z.ho.hi /\ t 35 = vw /\ t 39 = .slice (some ⟨yg12, 0, none⟩) 1 1 /\ t 42 = vf /\ t 45 = .int .i64 z.fr.hi /\ w33.heap.size <= w_.heap.size /\ Bun w [rbox yg12 3 #[.int .i64 z.wa.hi], rbox w15.heap.size 79 #[.int .i64 z.m, .int .i64 z.ho.lo, .int .i64 z.ho.hi, .int .i64 z.wa.lo, .int .i64 z.wa.hi, .int .i64 z.fr.lo, .int .i64 z.fr.hi, .slice a_z z.af.length c_z], rsl intEnc 1 lo hi (.slice a_z z.af.length c_z) z.af, rown intEnc 3 1 w.heap.size vh (numL wb Tsk.ho ts k), rown intEnc 3 1 w.heap.size vw (numL wb Tsk.wa ts k), rown intEnc 3 1 w.heap.size vf (numL wb Tsk.fr ts k), rbox (w.heap.size + 2) 51 #[vh, vw, vf, .slice none 0 0], rbox (w.heap.size + 1) 51 #[.slice none 0 0, .slice none 0 0, .slice none 0 0, .slice none 0 0], rbox w.heap.size 25 #[.slice aM ms.length cM, .slice (some ⟨x17, o18, none⟩) ts.length cT], rsl weaEnc 6 lo2 hi2 (.slice ad dl.length cd) dl, rafs lo hi ts, rsl tskEnc 8 lo hi (.slice (some ⟨x17, o18, none⟩) ts.length cT) ts, rsl mchEnc 3 lo hi (.slice aM ms.length cM) ms] w_) #[true, true, true, true, true, false, false, true, true, true, true, true, true, false, true, true, true, true, true, false, false, false, false, false, false, false, false] 11 ?st138 ?nx138
    case st138 =>
     rintro t w139 ⟨yg12, e1, e2, e3, e6, e7, e8, e28, e31, e35, e39, e42, e45, hsz138, F140⟩
     clear F36
     rw [rng_rcaseOf_c t, e1, e2, e3, e6, e7, e8, e28, e31, e35, e39, e42, e45]
     clear e1 e2 e3 e6 e7 e8 e28 e31 e35 e39 e42 e45
     have hws138 := F140.gb.size
     have yg12l := F140.ltAt 0 rfl yg12 rfl
     have yg12b := yg12l.2 rfl
     refine ru_two 5 19 rfl rfl (by kernel_rfl) ?_ ?_
     ·
      intro K hK
      go_simp
      replace F140 := F140.new 3 #[.int .i64 z.ho.hi] (n := w139.heap.size) (by simp)
      refine ru_back hK (by exact ⟨F140.q 7 0, F140.q 2 2, F140.q 7 1, F140.q 2 4, F140.q 7 2, F140.q 2 6⟩) (fun _ => ?_)
      exact hZ106.out _ _ _ (by kernel_rfl) (by kernel_rfl) rfl ⟨w139.heap.size, yg12, by (iterate 12 refine ⟨by kernel_rfl, ?_⟩); exact ⟨(by first | omega | (simp; done) | (simp; omega)), (F140.pick [1, 0, 2, 3, 4, 5, 6, 7, 8, 9, 10, 11, 12, 13] (by decide) rfl)⟩⟩
     intro K hK
     go_simp
     replace F140 := F140.new 3 #[.int .i64 z.fr.hi] (n := w139.heap.size) (by simp)
     refine ru_back hK (by exact ⟨F140.q 7 0, F140.q 2 2, F140.q 7 1, F140.q 2 4, F140.q 7 2, F140.q 2 6⟩) (fun _ => ?_)
     exact hZ124.out _ _ _ (by kernel_rfl) (by kernel_rfl) rfl ⟨yg12, w139.heap.size, by (iterate 12 refine ⟨by kernel_rfl, ?_⟩); exact ⟨(by first | omega | (simp; done) | (simp; omega)), F140⟩⟩
    intro hZ138
    refine ru_state 121 (fun t w_ => ∃ (yg19 : Nat), t 1 = .slice ad dl.length cd /\ t 2 = .bool true /\ t 3 = .pointer (some ⟨w.heap.size, 0, none⟩) /\ t 6 = .pointer (some ⟨w.heap.size + 1, 0, none⟩) /\ t 7 = .pointer (some ⟨w.heap.size + 2, 0, none⟩) /\ t 8 = .int .i64 (k : Int) /\ t 28 = vh /\ t 31 = .int .i64 z.ho.hi /\ t 35 = vw /\ t 38 = .int .i64 z.wa.hi /\ t 42 = vf /\ t 46 = .slice (some ⟨yg19, 0, none⟩) 1 1 /\ w33.heap.size <= w_.heap.size /\ Bun w [rbox yg19 3 #[.int .i64 z.fr.hi], rbox w15.heap.size 79 #[.int .i64 z.m, .int .i64 z.ho.lo, .int .i64 z.ho.hi, .int .i64 z.wa.lo, .int .i64 z.wa.hi, .int .i64 z.fr.lo, .int .i64 z.fr.hi, .slice a_z z.af.length c_z], rsl intEnc 1 lo hi (.slice a_z z.af.length c_z) z.af, rown intEnc 3 1 w.heap.size vh (numL wb Tsk.ho ts k), rown intEnc 3 1 w.heap.size vw (numL wb Tsk.wa ts k), rown intEnc 3 1 w.heap.size vf (numL wb Tsk.fr ts k), rbox (w.heap.size + 2) 51 #[vh, vw, vf, .slice none 0 0], rbox (w.heap.size + 1) 51 #[.slice none 0 0, .slice none 0 0, .slice none 0 0, .slice none 0 0], rbox w.heap.size 25 #[.slice aM ms.length cM, .slice (some ⟨x17, o18, none⟩) ts.length cT], rsl weaEnc 6 lo2 hi2 (.slice ad dl.length cd) dl, rafs lo hi ts, rsl tskEnc 8 lo hi (.slice (some ⟨x17, o18, none⟩) ts.length cT) ts, rsl mchEnc 3 lo hi (.slice aM ms.length cM) ms] w_) #[true, true, true, true, true, false, false, true, true, true, true, true, false, false, true, true, true, true, true, true, false, false, false, false, false, false, false] 11 ?st143 ?nx143
    case st143 =>
     rintro t w144 ⟨yg19, e1, e2, e3, e6, e7, e8, e28, e31, e35, e38, e42, e46, hsz143, F145⟩
     clear F36
     rw [rng_rcaseOf_c t, e1, e2, e3, e6, e7, e8, e28, e31, e35, e38, e42, e46]
     clear e1 e2 e3 e6 e7 e8 e28 e31 e35 e38 e42 e46
     have hws143 := F145.gb.size
     have yg19l := F145.ltAt 0 rfl yg19 rfl
     have yg19b := yg19l.2 rfl
     refine ru_two 5 12 rfl rfl (by kernel_rfl) ?_ ?_
     ·
      intro K hK
      go_simp
      replace F145 := F145.new 3 #[.int .i64 z.ho.hi] (n := w144.heap.size) (by simp)
      refine ru_back hK (by exact ⟨F145.q 7 0, F145.q 2 2, F145.q 7 1, F145.q 2 4, F145.q 7 2, F145.q 2 6⟩) (fun _ => ?_)
      exact hZ115.out _ _ _ (by kernel_rfl) (by kernel_rfl) rfl ⟨w144.heap.size, yg19, by (iterate 12 refine ⟨by kernel_rfl, ?_⟩); exact ⟨(by first | omega | (simp; done) | (simp; omega)), (F145.pick [1, 0, 2, 3, 4, 5, 6, 7, 8, 9, 10, 11, 12, 13] (by decide) rfl)⟩⟩
     intro K hK
     go_simp
     replace F145 := F145.new 3 #[.int .i64 z.wa.hi] (n := w144.heap.size) (by simp)
     refine ru_back hK (by exact ⟨F145.q 7 0, F145.q 2 2, F145.q 7 1, F145.q 2 4, F145.q 7 2, F145.q 2 6⟩) (fun _ => ?_)
     exact hZ124.out _ _ _ (by kernel_rfl) (by kernel_rfl) rfl ⟨w144.heap.size, yg19, by (iterate 12 refine ⟨by kernel_rfl, ?_⟩); exact ⟨(by first | omega | (simp; done) | (simp; omega)), (F145.pick [1, 0, 2, 3, 4, 5, 6, 7, 8, 9, 10, 11, 12, 13] (by decide) rfl)⟩⟩
    intro hZ143
    refine ru_three 5 12 19 rfl rfl rfl (by kernel_rfl) ?_ ?_ ?_
    ·
     intro K hK
     go_simp
     replace F36 := F36.new 3 #[.int .i64 z.ho.hi] (n := wd39.heap.size) (by simp)
     refine ru_back hK (by exact ⟨F36.q 6 0, F36.q 1 2, F36.q 6 1, F36.q 1 4, F36.q 6 2, F36.q 1 6⟩) (fun _ => ?_)
     exact hZ128.out _ _ _ (by kernel_rfl) (by kernel_rfl) rfl ⟨wd39.heap.size, by (iterate 12 refine ⟨by kernel_rfl, ?_⟩); exact ⟨(by first | omega | (simp; done) | (simp; omega)), F36⟩⟩
    ·
     intro K hK
     go_simp
     replace F36 := F36.new 3 #[.int .i64 z.wa.hi] (n := wd39.heap.size) (by simp)
     refine ru_back hK (by exact ⟨F36.q 6 0, F36.q 1 2, F36.q 6 1, F36.q 1 4, F36.q 6 2, F36.q 1 6⟩) (fun _ => ?_)
     exact hZ138.out _ _ _ (by kernel_rfl) (by kernel_rfl) rfl ⟨wd39.heap.size, by (iterate 12 refine ⟨by kernel_rfl, ?_⟩); exact ⟨(by first | omega | (simp; done) | (simp; omega)), F36⟩⟩
    intro K hK
    go_simp
    replace F36 := F36.new 3 #[.int .i64 z.fr.hi] (n := wd39.heap.size) (by simp)
    refine ru_back hK (by exact ⟨F36.q 6 0, F36.q 1 2, F36.q 6 1, F36.q 1 4, F36.q 6 2, F36.q 1 6⟩) (fun _ => ?_)
    exact hZ143.out _ _ _ (by kernel_rfl) (by kernel_rfl) rfl ⟨wd39.heap.size, by (iterate 12 refine ⟨by kernel_rfl, ?_⟩); exact ⟨(by first | omega | (simp; done) | (simp; omega)), F36⟩⟩
   have c21H := lhd c21
   have c21a : decide (isW wb) = false := dec_f c21
   have b151 := F20.bx2 6 rfl
   have ge152 : World.cell? _ ⟨x17, o18 + k * 8, none⟩ = some (.int .i64 z.m) := (Sl.cells (F20.at 9 rfl) hz19.out 0 _ rfl)
   have gl153 := cell_lt ge152
   have ge154 : World.cell? _ ⟨x17, o18 + k * 8 + 1, none⟩ = some (.int .i64 z.ho.lo) := (Sl.cells (F20.at 9 rfl) hz19.out 1 _ rfl)
   have ge155 : World.cell? _ ⟨x17, o18 + k * 8 + 2, none⟩ = some (.int .i64 z.ho.hi) := (Sl.cells (F20.at 9 rfl) hz19.out 2 _ rfl)
   have ge156 : World.cell? _ ⟨x17, o18 + k * 8 + 3, none⟩ = some (.int .i64 z.wa.lo) := (Sl.cells (F20.at 9 rfl) hz19.out 3 _ rfl)
   have ge157 : World.cell? _ ⟨x17, o18 + k * 8 + 4, none⟩ = some (.int .i64 z.wa.hi) := (Sl.cells (F20.at 9 rfl) hz19.out 4 _ rfl)
   have ge158 : World.cell? _ ⟨x17, o18 + k * 8 + 5, none⟩ = some (.int .i64 z.fr.lo) := (Sl.cells (F20.at 9 rfl) hz19.out 5 _ rfl)
   have ge159 : World.cell? _ ⟨x17, o18 + k * 8 + 6, none⟩ = some (.int .i64 z.fr.hi) := (Sl.cells (F20.at 9 rfl) hz19.out 6 _ rfl)
   have ge160 : World.cell? _ ⟨x17, o18 + k * 8 + 7, none⟩ = some (.slice a_z z.af.length c_z) := (HAV_z.out ▸ (Sl.cells (F20.at 9 rfl) hz19.out 7 _ rfl))
   go_wp2_with fail
   clear b151 ge152 gl153 ge154 ge155 ge156 ge157 ge158 ge159 ge160
   replace F20 := F20.new 79 #[.int .i64 z.m, .int .i64 z.ho.lo, .int .i64 z.ho.hi, .int .i64 z.wa.lo, .int .i64 z.wa.hi, .int .i64 z.fr.lo, .int .i64 z.fr.hi, .slice a_z z.af.length c_z] (n := w15.heap.size) (by simp)
   have Fn_ := F20
   (try dsimp only [List.eraseIdx_cons_succ, List.eraseIdx_cons_zero] at Fn_)
   obtain ⟨w162, hx163, F165, hxs164⟩ := Fn_.name
   (try simp at hxs164)
   rw [hx163]
   clear hx163 F20 Fn_
   replace F165 := F165.drew
   refine ru_begin (fun W => W.cell? ⟨(w.heap.size + 2), 0, none⟩ = some vh /\ W.cell? ⟨w15.heap.size, 1, none⟩ = some (.int .i64 z.ho.lo) /\ W.cell? ⟨(w.heap.size + 2), 1, none⟩ = some vw /\ W.cell? ⟨w15.heap.size, 3, none⟩ = some (.int .i64 z.wa.lo) /\ W.cell? ⟨(w.heap.size + 2), 2, none⟩ = some vf /\ W.cell? ⟨w15.heap.size, 5, none⟩ = some (.int .i64 z.fr.lo)) 22 (by kernel_rfl) ?_ ?_
   · exact ⟨F165.q 5 0, F165.q 0 1, F165.q 5 1, F165.q 0 3, F165.q 5 2, F165.q 0 5⟩
   obtain ⟨wd168, hwd_⟩ : ∃ x : World, w162.drew = x := ⟨_, rfl⟩
   rw [hwd_] at F165 ⊢
   have wd168s : w162.heap.size <= wd168.heap.size := by rw [← hwd_]; exact Nat.le_refl _
   clear hwd_
   have hS167 := (And.intro (F165.q 5 0) (And.intro (F165.q 0 1) (And.intro (F165.q 5 1) (And.intro (F165.q 0 3) (And.intro (F165.q 5 2) (F165.q 0 5))))))
   refine ru_t 0 [] ?_
   refine ru_t 1 [] ?_
   refine ru_t 2 [] ?_
   refine ru_t 3 [] ?_
   refine ru_t 4 [] ?_
   refine ru_t 7 [] ?_
   refine ru_t 8 [] ?_
   refine ru_t 9 [20, 13, 12, 11, 10] ?_
   refine ru_t 10 [20, 13, 12, 11] ?_
   refine ru_t 11 [20, 13, 12] ?_
   refine ru_t 14 [] ?_
   refine ru_t 15 [] ?_
   refine ru_t 16 [20, 19, 18, 17] ?_
   refine ru_t 17 [20, 19, 18] ?_
   refine ru_t 18 [20, 19] ?_
   (try simp only [lpX])
   clear hS167
   refine ru_state 121 (fun t w_ => ∃ (yg5 : Nat) (yg6 : Nat) (yc6 : Nat) (yg12 : Nat) (yg13 : Nat) (yc13 : Nat) (yg19 : Nat) (yg20 : Nat) (yc20 : Nat), t 1 = .slice ad dl.length cd /\ t 2 = .bool false /\ t 3 = .pointer (some ⟨w.heap.size, 0, none⟩) /\ t 6 = .pointer (some ⟨w.heap.size + 1, 0, none⟩) /\ t 7 = .pointer (some ⟨w.heap.size + 2, 0, none⟩) /\ t 8 = .int .i64 (k : Int) /\ w162.heap.size <= w_.heap.size /\ Bun w [rbox (w.heap.size + 2) 51 #[.slice (some ⟨yg6, 0, none⟩) (k + 1) yc6, .slice (some ⟨yg13, 0, none⟩) (k + 1) yc13, .slice (some ⟨yg20, 0, none⟩) (k + 1) yc20, .slice none 0 0], rown intEnc 3 1 w.heap.size (.slice (some ⟨yg20, 0, none⟩) (k + 1) yc20) (numL wb Tsk.fr ts k ++ [z.fr.lo]), rbox yg19 3 #[.int .i64 z.fr.lo], rown intEnc 3 1 w.heap.size (.slice (some ⟨yg13, 0, none⟩) (k + 1) yc13) (numL wb Tsk.wa ts k ++ [z.wa.lo]), rbox yg12 3 #[.int .i64 z.wa.lo], rown intEnc 3 1 w.heap.size (.slice (some ⟨yg6, 0, none⟩) (k + 1) yc6) (numL wb Tsk.ho ts k ++ [z.ho.lo]), rbox yg5 3 #[.int .i64 z.ho.lo], rbox w15.heap.size 79 #[.int .i64 z.m, .int .i64 z.ho.lo, .int .i64 z.ho.hi, .int .i64 z.wa.lo, .int .i64 z.wa.hi, .int .i64 z.fr.lo, .int .i64 z.fr.hi, .slice a_z z.af.length c_z], rsl intEnc 1 lo hi (.slice a_z z.af.length c_z) z.af, rbox (w.heap.size + 1) 51 #[.slice none 0 0, .slice none 0 0, .slice none 0 0, .slice none 0 0], rbox w.heap.size 25 #[.slice aM ms.length cM, .slice (some ⟨x17, o18, none⟩) ts.length cT], rsl weaEnc 6 lo2 hi2 (.slice ad dl.length cd) dl, rafs lo hi ts, rsl tskEnc 8 lo hi (.slice (some ⟨x17, o18, none⟩) ts.length cT) ts, rsl mchEnc 3 lo hi (.slice aM ms.length cM) ms] w_) #[true, true, true, true, true, true, true, true, true, true, true, true, true, true, true, true, true, true, true, true, true, true, true, true, true, true, true] 0 ?st169 ?nx169
   case st169 =>
    rintro t w170 ⟨yg5, yg6, yc6, yg12, yg13, yc13, yg19, yg20, yc20, e1, e2, e3, e6, e7, e8, hsz169, F171⟩
    clear F165
    rw [rng_rcaseOf_c t, e1, e2, e3, e6, e7, e8]
    clear e1 e2 e3 e6 e7 e8
    have hws169 := F171.gb.size
    have yg20l := (F171.ltAt 1 rfl _ rfl).1
    have yg19l := F171.ltAt 2 rfl yg19 rfl
    have yg19b := yg19l.2 rfl
    have yg13l := (F171.ltAt 3 rfl _ rfl).1
    have yg12l := F171.ltAt 4 rfl yg12 rfl
    have yg12b := yg12l.2 rfl
    have yg6l := (F171.ltAt 5 rfl _ rfl).1
    have yg5l := F171.ltAt 6 rfl yg5 rfl
    have yg5b := yg5l.2 rfl
    refine ru_done (by kernel_rfl) ?_
    have Fn_ := ((((F171.drop 2 rfl).drop 3 rfl).drop 4 rfl).drop 4 rfl)
    (try dsimp only [List.eraseIdx_cons_succ, List.eraseIdx_cons_zero] at Fn_)
    obtain ⟨w172, hx173, F175, hxs174⟩ := Fn_.name
    (try simp at hxs174)
    rw [hx173]
    clear hx173 F171 Fn_
    go_wp2_with fail
    have F176 : Bun w [rown intEnc 3 1 w.heap.size (.slice (some ⟨yg6, 0, none⟩) (k + 1) yc6) (numL wb Tsk.ho ts k ++ [z.ho.lo]), rown intEnc 3 1 w.heap.size (.slice (some ⟨yg13, 0, none⟩) (k + 1) yc13) (numL wb Tsk.wa ts k ++ [z.wa.lo]), rown intEnc 3 1 w.heap.size (.slice (some ⟨yg20, 0, none⟩) (k + 1) yc20) (numL wb Tsk.fr ts k ++ [z.fr.lo]), rbox (w.heap.size + 2) 51 #[.slice (some ⟨yg6, 0, none⟩) (k + 1) yc6, .slice (some ⟨yg13, 0, none⟩) (k + 1) yc13, .slice (some ⟨yg20, 0, none⟩) (k + 1) yc20, .slice none 0 0], rbox (w.heap.size + 1) 51 #[.slice none 0 0, .slice none 0 0, .slice none 0 0, .slice none 0 0], rbox w.heap.size 25 #[.slice aM ms.length cM, .slice (some ⟨x17, o18, none⟩) ts.length cT], rsl weaEnc 6 lo2 hi2 (.slice ad dl.length cd) dl, rafs lo hi ts, rsl tskEnc 8 lo hi (.slice (some ⟨x17, o18, none⟩) ts.length cT) ts, rsl mchEnc 3 lo hi (.slice aM ms.length cM) ms] _ := F175.pick [3, 2, 1, 0, 5, 6, 7, 8, 9, 10] (by decide) rfl
    clear F175
    (first | refine ⟨by kernel_rfl, ?_, ?_⟩ | refine ⟨rfl, ?_, ?_⟩ | refine ⟨?_, ?_⟩)
    · rw [HI12.out]; exact ⟨k + 1, _, _, _, (by kernel_rfl), (congrArg Value.bool (dec_f c21).symm), (by kernel_rfl), (by kernel_rfl), (by kernel_rfl), (by show Value.int .i64 ((k : Int) + 1) = _; simp), (by omega), (by first | rfl | simp), (by first | omega | (simp; done) | (simp; omega)), (by rw [numL_f c21 hz19.out, numL_f c21 hz19.out, numL_f c21 hz19.out]; exact F176)⟩
    · simp [slot, intOf]; omega
   intro hZ169
   refine ru_state 121 (fun t w_ => ∃ (yg5 : Nat) (yg6 : Nat) (yc6 : Nat) (yg12 : Nat) (yg13 : Nat) (yc13 : Nat) (yg19 : Nat) (yg20 : Nat) (yc20 : Nat), t 1 = .slice ad dl.length cd /\ t 2 = .bool false /\ t 3 = .pointer (some ⟨w.heap.size, 0, none⟩) /\ t 6 = .pointer (some ⟨w.heap.size + 1, 0, none⟩) /\ t 7 = .pointer (some ⟨w.heap.size + 2, 0, none⟩) /\ t 8 = .int .i64 (k : Int) /\ t 71 = .slice (some ⟨yg20, 0, none⟩) (k + 1) yc20 /\ t 74 = .pointer (some ⟨w.heap.size + 2, 2, none⟩) /\ w162.heap.size <= w_.heap.size /\ Bun w [rbox (w.heap.size + 2) 51 #[.slice (some ⟨yg6, 0, none⟩) (k + 1) yc6, .slice (some ⟨yg13, 0, none⟩) (k + 1) yc13, vf, .slice none 0 0], rown intEnc 3 1 w.heap.size (.slice (some ⟨yg20, 0, none⟩) (k + 1) yc20) (numL wb Tsk.fr ts k ++ [z.fr.lo]), rbox yg19 3 #[.int .i64 z.fr.lo], rown intEnc 3 1 w.heap.size (.slice (some ⟨yg13, 0, none⟩) (k + 1) yc13) (numL wb Tsk.wa ts k ++ [z.wa.lo]), rbox yg12 3 #[.int .i64 z.wa.lo], rown intEnc 3 1 w.heap.size (.slice (some ⟨yg6, 0, none⟩) (k + 1) yc6) (numL wb Tsk.ho ts k ++ [z.ho.lo]), rbox yg5 3 #[.int .i64 z.ho.lo], rbox w15.heap.size 79 #[.int .i64 z.m, .int .i64 z.ho.lo, .int .i64 z.ho.hi, .int .i64 z.wa.lo, .int .i64 z.wa.hi, .int .i64 z.fr.lo, .int .i64 z.fr.hi, .slice a_z z.af.length c_z], rsl intEnc 1 lo hi (.slice a_z z.af.length c_z) z.af, rbox (w.heap.size + 1) 51 #[.slice none 0 0, .slice none 0 0, .slice none 0 0, .slice none 0 0], rbox w.heap.size 25 #[.slice aM ms.length cM, .slice (some ⟨x17, o18, none⟩) ts.length cT], rsl weaEnc 6 lo2 hi2 (.slice ad dl.length cd) dl, rafs lo hi ts, rsl tskEnc 8 lo hi (.slice (some ⟨x17, o18, none⟩) ts.length cT) ts, rsl mchEnc 3 lo hi (.slice aM ms.length cM) ms] w_) #[true, true, true, true, true, true, true, true, true, true, true, true, true, true, true, true, true, true, true, true, true, true, true, true, true, true, false] 1 ?st177 ?nx177
   case st177 =>
    rintro t w178 ⟨yg5, yg6, yc6, yg12, yg13, yc13, yg19, yg20, yc20, e1, e2, e3, e6, e7, e8, e71, e74, hsz177, F179⟩
    clear F165
    rw [rng_rcaseOf_c t, e1, e2, e3, e6, e7, e8, e71, e74]
    clear e1 e2 e3 e6 e7 e8 e71 e74
    have hws177 := F179.gb.size
    have yg20l := (F179.ltAt 1 rfl _ rfl).1
    have yg19l := F179.ltAt 2 rfl yg19 rfl
    have yg19b := yg19l.2 rfl
    have yg13l := (F179.ltAt 3 rfl _ rfl).1
    have yg12l := F179.ltAt 4 rfl yg12 rfl
    have yg12b := yg12l.2 rfl
    have yg6l := (F179.ltAt 5 rfl _ rfl).1
    have yg5l := F179.ltAt 6 rfl yg5 rfl
    have yg5b := yg5l.2 rfl
    refine ru_one 26 rfl (by kernel_rfl) (fun K hK => ?_)
    have kb_ := F179.bx4 0 rfl
    go_simp
    clear kb_
    have F180 := (F179.set 2 (.slice (some ⟨yg20, 0, none⟩) (k + 1) yc20)).nf #[.slice (some ⟨yg6, 0, none⟩) (k + 1) yc6, .slice (some ⟨yg13, 0, none⟩) (k + 1) yc13, .slice (some ⟨yg20, 0, none⟩) (k + 1) yc20, .slice none 0 0] rfl
    clear F179
    refine ru_back_late hK (by kernel_rfl) ?_
    exact hZ169.out _ _ _ (by kernel_rfl) (by kernel_rfl) rfl ⟨yg5, yg6, yc6, yg12, yg13, yc13, yg19, yg20, yc20, by (iterate 6 refine ⟨by kernel_rfl, ?_⟩); exact ⟨(by first | omega | (simp; done) | (simp; omega)), F180⟩⟩
   intro hZ177
   refine ru_state 121 (fun t w_ => ∃ (yg5 : Nat) (yg6 : Nat) (yc6 : Nat) (yg12 : Nat) (yg13 : Nat) (yc13 : Nat) (yg19 : Nat) (yg20 : Nat) (yc20 : Nat), t 1 = .slice ad dl.length cd /\ t 2 = .bool false /\ t 3 = .pointer (some ⟨w.heap.size, 0, none⟩) /\ t 6 = .pointer (some ⟨w.heap.size + 1, 0, none⟩) /\ t 7 = .pointer (some ⟨w.heap.size + 2, 0, none⟩) /\ t 8 = .int .i64 (k : Int) /\ t 64 = .slice (some ⟨yg13, 0, none⟩) (k + 1) yc13 /\ t 71 = .slice (some ⟨yg20, 0, none⟩) (k + 1) yc20 /\ t 73 = .pointer (some ⟨w.heap.size + 2, 1, none⟩) /\ w162.heap.size <= w_.heap.size /\ Bun w [rbox (w.heap.size + 2) 51 #[.slice (some ⟨yg6, 0, none⟩) (k + 1) yc6, vw, vf, .slice none 0 0], rown intEnc 3 1 w.heap.size (.slice (some ⟨yg20, 0, none⟩) (k + 1) yc20) (numL wb Tsk.fr ts k ++ [z.fr.lo]), rbox yg19 3 #[.int .i64 z.fr.lo], rown intEnc 3 1 w.heap.size (.slice (some ⟨yg13, 0, none⟩) (k + 1) yc13) (numL wb Tsk.wa ts k ++ [z.wa.lo]), rbox yg12 3 #[.int .i64 z.wa.lo], rown intEnc 3 1 w.heap.size (.slice (some ⟨yg6, 0, none⟩) (k + 1) yc6) (numL wb Tsk.ho ts k ++ [z.ho.lo]), rbox yg5 3 #[.int .i64 z.ho.lo], rbox w15.heap.size 79 #[.int .i64 z.m, .int .i64 z.ho.lo, .int .i64 z.ho.hi, .int .i64 z.wa.lo, .int .i64 z.wa.hi, .int .i64 z.fr.lo, .int .i64 z.fr.hi, .slice a_z z.af.length c_z], rsl intEnc 1 lo hi (.slice a_z z.af.length c_z) z.af, rbox (w.heap.size + 1) 51 #[.slice none 0 0, .slice none 0 0, .slice none 0 0, .slice none 0 0], rbox w.heap.size 25 #[.slice aM ms.length cM, .slice (some ⟨x17, o18, none⟩) ts.length cT], rsl weaEnc 6 lo2 hi2 (.slice ad dl.length cd) dl, rafs lo hi ts, rsl tskEnc 8 lo hi (.slice (some ⟨x17, o18, none⟩) ts.length cT) ts, rsl mchEnc 3 lo hi (.slice aM ms.length cM) ms] w_) #[true, true, true, true, true, true, true, true, true, true, true, true, true, true, true, true, true, true, true, true, true, true, true, true, false, false, false] 3 ?st181 ?nx181
   case st181 =>
    rintro t w182 ⟨yg5, yg6, yc6, yg12, yg13, yc13, yg19, yg20, yc20, e1, e2, e3, e6, e7, e8, e64, e71, e73, hsz181, F183⟩
    clear F165
    rw [rng_rcaseOf_c t, e1, e2, e3, e6, e7, e8, e64, e71, e73]
    clear e1 e2 e3 e6 e7 e8 e64 e71 e73
    have hws181 := F183.gb.size
    have yg20l := (F183.ltAt 1 rfl _ rfl).1
    have yg19l := F183.ltAt 2 rfl yg19 rfl
    have yg19b := yg19l.2 rfl
    have yg13l := (F183.ltAt 3 rfl _ rfl).1
    have yg12l := F183.ltAt 4 rfl yg12 rfl
    have yg12b := yg12l.2 rfl
    have yg6l := (F183.ltAt 5 rfl _ rfl).1
    have yg5l := F183.ltAt 6 rfl yg5 rfl
    have yg5b := yg5l.2 rfl
    refine ru_one 24 rfl (by kernel_rfl) (fun K hK => ?_)
    have kb_ := F183.bx4 0 rfl
    go_simp
    clear kb_
    have F184 := (F183.set 1 (.slice (some ⟨yg13, 0, none⟩) (k + 1) yc13)).nf #[.slice (some ⟨yg6, 0, none⟩) (k + 1) yc6, .slice (some ⟨yg13, 0, none⟩) (k + 1) yc13, vf, .slice none 0 0] rfl
    clear F183
    refine ru_back_late hK (by kernel_rfl) ?_
    clear hK K
    (try simp only [lpX])
    refine ru_p 25 ?_
    (try simp only [lpX])
    exact hZ177.out _ _ _ (by kernel_rfl) (by kernel_rfl) rfl ⟨yg5, yg6, yc6, yg12, yg13, yc13, yg19, yg20, yc20, by (iterate 8 refine ⟨by kernel_rfl, ?_⟩); exact ⟨(by first | omega | (simp; done) | (simp; omega)), F184⟩⟩
   intro hZ181
   refine ru_state 121 (fun t w_ => ∃ (yg5 : Nat) (yg6 : Nat) (yc6 : Nat) (yg12 : Nat) (yg13 : Nat) (yc13 : Nat) (yg19 : Nat) (yg20 : Nat) (yc20 : Nat), t 1 = .slice ad dl.length cd /\ t 2 = .bool false /\ t 3 = .pointer (some ⟨w.heap.size, 0, none⟩) /\ t 6 = .pointer (some ⟨w.heap.size + 1, 0, none⟩) /\ t 7 = .pointer (some ⟨w.heap.size + 2, 0, none⟩) /\ t 8 = .int .i64 (k : Int) /\ t 57 = .slice (some ⟨yg6, 0, none⟩) (k + 1) yc6 /\ t 64 = .slice (some ⟨yg13, 0, none⟩) (k + 1) yc13 /\ t 71 = .slice (some ⟨yg20, 0, none⟩) (k + 1) yc20 /\ t 72 = .pointer (some ⟨w.heap.size + 2, 0, none⟩) /\ w162.heap.size <= w_.heap.size /\ Bun w [rown intEnc 3 1 w.heap.size (.slice (some ⟨yg20, 0, none⟩) (k + 1) yc20) (numL wb Tsk.fr ts k ++ [z.fr.lo]), rbox yg19 3 #[.int .i64 z.fr.lo], rown intEnc 3 1 w.heap.size (.slice (some ⟨yg13, 0, none⟩) (k + 1) yc13) (numL wb Tsk.wa ts k ++ [z.wa.lo]), rbox yg12 3 #[.int .i64 z.wa.lo], rown intEnc 3 1 w.heap.size (.slice (some ⟨yg6, 0, none⟩) (k + 1) yc6) (numL wb Tsk.ho ts k ++ [z.ho.lo]), rbox yg5 3 #[.int .i64 z.ho.lo], rbox w15.heap.size 79 #[.int .i64 z.m, .int .i64 z.ho.lo, .int .i64 z.ho.hi, .int .i64 z.wa.lo, .int .i64 z.wa.hi, .int .i64 z.fr.lo, .int .i64 z.fr.hi, .slice a_z z.af.length c_z], rsl intEnc 1 lo hi (.slice a_z z.af.length c_z) z.af, rbox (w.heap.size + 2) 51 #[vh, vw, vf, .slice none 0 0], rbox (w.heap.size + 1) 51 #[.slice none 0 0, .slice none 0 0, .slice none 0 0, .slice none 0 0], rbox w.heap.size 25 #[.slice aM ms.length cM, .slice (some ⟨x17, o18, none⟩) ts.length cT], rsl weaEnc 6 lo2 hi2 (.slice ad dl.length cd) dl, rafs lo hi ts, rsl tskEnc 8 lo hi (.slice (some ⟨x17, o18, none⟩) ts.length cT) ts, rsl mchEnc 3 lo hi (.slice aM ms.length cM) ms] w_) #[true, true, true, true, true, true, true, true, true, true, true, true, true, true, true, true, true, true, true, true, true, true, false, false, false, false, false] 5 ?st185 ?nx185
   case st185 =>
    rintro t w186 ⟨yg5, yg6, yc6, yg12, yg13, yc13, yg19, yg20, yc20, e1, e2, e3, e6, e7, e8, e57, e64, e71, e72, hsz185, F187⟩
    clear F165
    rw [rng_rcaseOf_c t, e1, e2, e3, e6, e7, e8, e57, e64, e71, e72]
    clear e1 e2 e3 e6 e7 e8 e57 e64 e71 e72
    have hws185 := F187.gb.size
    have yg20l := (F187.ltAt 0 rfl _ rfl).1
    have yg19l := F187.ltAt 1 rfl yg19 rfl
    have yg19b := yg19l.2 rfl
    have yg13l := (F187.ltAt 2 rfl _ rfl).1
    have yg12l := F187.ltAt 3 rfl yg12 rfl
    have yg12b := yg12l.2 rfl
    have yg6l := (F187.ltAt 4 rfl _ rfl).1
    have yg5l := F187.ltAt 5 rfl yg5 rfl
    have yg5b := yg5l.2 rfl
    refine ru_one 22 rfl (by kernel_rfl) (fun K hK => ?_)
    have kb_ := F187.bx4 8 rfl
    go_simp
    clear kb_
    have F188 := ((F187.front 8 rfl rfl).set 0 (.slice (some ⟨yg6, 0, none⟩) (k + 1) yc6)).nf #[.slice (some ⟨yg6, 0, none⟩) (k + 1) yc6, vw, vf, .slice none 0 0] rfl
    clear F187
    refine ru_back_late hK (by kernel_rfl) ?_
    clear hK K
    (try simp only [lpX])
    refine ru_p 23 ?_
    (try simp only [lpX])
    exact hZ181.out _ _ _ (by kernel_rfl) (by kernel_rfl) rfl ⟨yg5, yg6, yc6, yg12, yg13, yc13, yg19, yg20, yc20, by (iterate 9 refine ⟨by kernel_rfl, ?_⟩); exact ⟨(by first | omega | (simp; done) | (simp; omega)), F188⟩⟩
   intro hZ185
   refine ru_state 121 (fun t w_ => ∃ (yg5 : Nat) (yg6 : Nat) (yc6 : Nat) (yg12 : Nat) (yg13 : Nat) (yc13 : Nat) (yg19 : Nat), t 1 = .slice ad dl.length cd /\ t 2 = .bool false /\ t 3 = .pointer (some ⟨w.heap.size, 0, none⟩) /\ t 6 = .pointer (some ⟨w.heap.size + 1, 0, none⟩) /\ t 7 = .pointer (some ⟨w.heap.size + 2, 0, none⟩) /\ t 8 = .int .i64 (k : Int) /\ t 57 = .slice (some ⟨yg6, 0, none⟩) (k + 1) yc6 /\ t 64 = .slice (some ⟨yg13, 0, none⟩) (k + 1) yc13 /\ t 66 = vf /\ t 70 = .slice (some ⟨yg19, 0, none⟩) 1 1 /\ t 72 = .pointer (some ⟨w.heap.size + 2, 0, none⟩) /\ w162.heap.size <= w_.heap.size /\ Bun w [rbox yg19 3 #[.int .i64 z.fr.lo], rown intEnc 3 1 w.heap.size (.slice (some ⟨yg13, 0, none⟩) (k + 1) yc13) (numL wb Tsk.wa ts k ++ [z.wa.lo]), rbox yg12 3 #[.int .i64 z.wa.lo], rown intEnc 3 1 w.heap.size (.slice (some ⟨yg6, 0, none⟩) (k + 1) yc6) (numL wb Tsk.ho ts k ++ [z.ho.lo]), rbox yg5 3 #[.int .i64 z.ho.lo], rbox w15.heap.size 79 #[.int .i64 z.m, .int .i64 z.ho.lo, .int .i64 z.ho.hi, .int .i64 z.wa.lo, .int .i64 z.wa.hi, .int .i64 z.fr.lo, .int .i64 z.fr.hi, .slice a_z z.af.length c_z], rsl intEnc 1 lo hi (.slice a_z z.af.length c_z) z.af, rown intEnc 3 1 w.heap.size vf (numL wb Tsk.fr ts k), rbox (w.heap.size + 2) 51 #[vh, vw, vf, .slice none 0 0], rbox (w.heap.size + 1) 51 #[.slice none 0 0, .slice none 0 0, .slice none 0 0, .slice none 0 0], rbox w.heap.size 25 #[.slice aM ms.length cM, .slice (some ⟨x17, o18, none⟩) ts.length cT], rsl weaEnc 6 lo2 hi2 (.slice ad dl.length cd) dl, rafs lo hi ts, rsl tskEnc 8 lo hi (.slice (some ⟨x17, o18, none⟩) ts.length cT) ts, rsl mchEnc 3 lo hi (.slice aM ms.length cM) ms] w_) #[true, true, true, true, true, true, true, true, true, true, true, true, true, true, true, true, true, true, true, true, false, true, false, false, false, false, false] 6 ?st189 ?nx189
   case st189 =>
    rintro t w190 ⟨yg5, yg6, yc6, yg12, yg13, yc13, yg19, e1, e2, e3, e6, e7, e8, e57, e64, e66, e70, e72, hsz189, F191⟩
    clear F165
    rw [rng_rcaseOf_c t, e1, e2, e3, e6, e7, e8, e57, e64, e66, e70, e72]
    clear e1 e2 e3 e6 e7 e8 e57 e64 e66 e70 e72
    have hws189 := F191.gb.size
    have yg19l := F191.ltAt 0 rfl yg19 rfl
    have yg19b := yg19l.2 rfl
    have yg13l := (F191.ltAt 1 rfl _ rfl).1
    have yg12l := F191.ltAt 2 rfl yg12 rfl
    have yg12b := yg12l.2 rfl
    have yg6l := (F191.ltAt 3 rfl _ rfl).1
    have yg5l := F191.ltAt 4 rfl yg5 rfl
    have yg5b := yg5l.2 rfl
    refine ru_one 20 rfl (by kernel_rfl) (fun K hK => ?_)
    refine step_app _ okInt rfl _ _ rfl w.heap.size vf (numL wb Tsk.fr ts k) [z.fr.lo] rfl (by exact (F191.at 7 rfl : Own intEnc 3 1 w.heap.size _ vf (numL wb Tsk.fr ts k))) ⟨_, 0, none⟩ 1 1 rfl rfl (by decide) (news_of (F191.at 0 rfl : Bk _ yg19 3 #[.int .i64 z.fr.lo])) (k + 1) (by rw [numL_len (by omega)]) (by omega) (by first | omega | (simp; omega)) _ rfl ?_
    intro g192 cap193 w194 hp195
    have hp195s := hp195.gb.size
    (try simp at hp195s)
    have F196 := (F191.front 7 rfl rfl).app hp195 (Nat.le_refl _)
    clear F191
    refine ru_back hK (by exact ⟨F196.q 8 0, F196.q 6 1, F196.q 8 1, F196.q 6 3, F196.q 8 2, F196.q 6 5⟩) (fun _ => ?_)
    exact hZ185.out _ _ _ (by kernel_rfl) (by kernel_rfl) rfl ⟨yg5, yg6, yc6, yg12, yg13, yc13, yg19, g192, cap193, by (iterate 10 refine ⟨by kernel_rfl, ?_⟩); exact ⟨(by first | omega | (simp; done) | (simp; omega)), F196⟩⟩
   intro hZ189
   refine ru_state 121 (fun t w_ => ∃ (yg5 : Nat) (yg6 : Nat) (yc6 : Nat) (yg12 : Nat) (yg13 : Nat) (yc13 : Nat), t 1 = .slice ad dl.length cd /\ t 2 = .bool false /\ t 3 = .pointer (some ⟨w.heap.size, 0, none⟩) /\ t 6 = .pointer (some ⟨w.heap.size + 1, 0, none⟩) /\ t 7 = .pointer (some ⟨w.heap.size + 2, 0, none⟩) /\ t 8 = .int .i64 (k : Int) /\ t 57 = .slice (some ⟨yg6, 0, none⟩) (k + 1) yc6 /\ t 64 = .slice (some ⟨yg13, 0, none⟩) (k + 1) yc13 /\ t 66 = vf /\ t 69 = .int .i64 z.fr.lo /\ t 72 = .pointer (some ⟨w.heap.size + 2, 0, none⟩) /\ w162.heap.size <= w_.heap.size /\ Bun w [rown intEnc 3 1 w.heap.size (.slice (some ⟨yg13, 0, none⟩) (k + 1) yc13) (numL wb Tsk.wa ts k ++ [z.wa.lo]), rbox yg12 3 #[.int .i64 z.wa.lo], rown intEnc 3 1 w.heap.size (.slice (some ⟨yg6, 0, none⟩) (k + 1) yc6) (numL wb Tsk.ho ts k ++ [z.ho.lo]), rbox yg5 3 #[.int .i64 z.ho.lo], rbox w15.heap.size 79 #[.int .i64 z.m, .int .i64 z.ho.lo, .int .i64 z.ho.hi, .int .i64 z.wa.lo, .int .i64 z.wa.hi, .int .i64 z.fr.lo, .int .i64 z.fr.hi, .slice a_z z.af.length c_z], rsl intEnc 1 lo hi (.slice a_z z.af.length c_z) z.af, rown intEnc 3 1 w.heap.size vf (numL wb Tsk.fr ts k), rbox (w.heap.size + 2) 51 #[vh, vw, vf, .slice none 0 0], rbox (w.heap.size + 1) 51 #[.slice none 0 0, .slice none 0 0, .slice none 0 0, .slice none 0 0], rbox w.heap.size 25 #[.slice aM ms.length cM, .slice (some ⟨x17, o18, none⟩) ts.length cT], rsl weaEnc 6 lo2 hi2 (.slice ad dl.length cd) dl, rafs lo hi ts, rsl tskEnc 8 lo hi (.slice (some ⟨x17, o18, none⟩) ts.length cT) ts, rsl mchEnc 3 lo hi (.slice aM ms.length cM) ms] w_) #[true, true, true, true, true, true, true, true, true, true, true, true, true, true, true, true, true, true, true, false, false, true, false, false, false, false, false] 7 ?st197 ?nx197
   case st197 =>
    rintro t w198 ⟨yg5, yg6, yc6, yg12, yg13, yc13, e1, e2, e3, e6, e7, e8, e57, e64, e66, e69, e72, hsz197, F199⟩
    clear F165
    rw [rng_rcaseOf_c t, e1, e2, e3, e6, e7, e8, e57, e64, e66, e69, e72]
    clear e1 e2 e3 e6 e7 e8 e57 e64 e66 e69 e72
    have hws197 := F199.gb.size
    have yg13l := (F199.ltAt 0 rfl _ rfl).1
    have yg12l := F199.ltAt 1 rfl yg12 rfl
    have yg12b := yg12l.2 rfl
    have yg6l := (F199.ltAt 2 rfl _ rfl).1
    have yg5l := F199.ltAt 3 rfl yg5 rfl
    have yg5b := yg5l.2 rfl
    refine ru_one 19 rfl (by kernel_rfl) (fun K hK => ?_)
    go_simp
    replace F199 := F199.new 3 #[.int .i64 z.fr.lo] (n := w198.heap.size) (by simp)
    refine ru_back hK (by exact ⟨F199.q 8 0, F199.q 5 1, F199.q 8 1, F199.q 5 3, F199.q 8 2, F199.q 5 5⟩) (fun _ => ?_)
    exact hZ189.out _ _ _ (by kernel_rfl) (by kernel_rfl) rfl ⟨yg5, yg6, yc6, yg12, yg13, yc13, w198.heap.size, by (iterate 11 refine ⟨by kernel_rfl, ?_⟩); exact ⟨(by first | omega | (simp; done) | (simp; omega)), F199⟩⟩
   intro hZ197
   refine ru_state 121 (fun t w_ => ∃ (yg5 : Nat) (yg6 : Nat) (yc6 : Nat) (yg12 : Nat) (yg19 : Nat), t 1 = .slice ad dl.length cd /\ t 2 = .bool false /\ t 3 = .pointer (some ⟨w.heap.size, 0, none⟩) /\ t 6 = .pointer (some ⟨w.heap.size + 1, 0, none⟩) /\ t 7 = .pointer (some ⟨w.heap.size + 2, 0, none⟩) /\ t 8 = .int .i64 (k : Int) /\ t 57 = .slice (some ⟨yg6, 0, none⟩) (k + 1) yc6 /\ t 59 = vw /\ t 63 = .slice (some ⟨yg12, 0, none⟩) 1 1 /\ t 66 = vf /\ t 70 = .slice (some ⟨yg19, 0, none⟩) 1 1 /\ t 72 = .pointer (some ⟨w.heap.size + 2, 0, none⟩) /\ w162.heap.size <= w_.heap.size /\ Bun w [rbox yg19 3 #[.int .i64 z.fr.lo], rbox yg12 3 #[.int .i64 z.wa.lo], rown intEnc 3 1 w.heap.size (.slice (some ⟨yg6, 0, none⟩) (k + 1) yc6) (numL wb Tsk.ho ts k ++ [z.ho.lo]), rbox yg5 3 #[.int .i64 z.ho.lo], rbox w15.heap.size 79 #[.int .i64 z.m, .int .i64 z.ho.lo, .int .i64 z.ho.hi, .int .i64 z.wa.lo, .int .i64 z.wa.hi, .int .i64 z.fr.lo, .int .i64 z.fr.hi, .slice a_z z.af.length c_z], rsl intEnc 1 lo hi (.slice a_z z.af.length c_z) z.af, rown intEnc 3 1 w.heap.size vw (numL wb Tsk.wa ts k), rown intEnc 3 1 w.heap.size vf (numL wb Tsk.fr ts k), rbox (w.heap.size + 2) 51 #[vh, vw, vf, .slice none 0 0], rbox (w.heap.size + 1) 51 #[.slice none 0 0, .slice none 0 0, .slice none 0 0, .slice none 0 0], rbox w.heap.size 25 #[.slice aM ms.length cM, .slice (some ⟨x17, o18, none⟩) ts.length cT], rsl weaEnc 6 lo2 hi2 (.slice ad dl.length cd) dl, rafs lo hi ts, rsl tskEnc 8 lo hi (.slice (some ⟨x17, o18, none⟩) ts.length cT) ts, rsl mchEnc 3 lo hi (.slice aM ms.length cM) ms] w_) #[true, true, true, true, true, true, true, true, true, true, true, true, true, false, true, true, true, true, true, true, false, true, false, false, false, false, false] 7 ?st201 ?nx201
   case st201 =>
    rintro t w202 ⟨yg5, yg6, yc6, yg12, yg19, e1, e2, e3, e6, e7, e8, e57, e59, e63, e66, e70, e72, hsz201, F203⟩
    clear F165
    rw [rng_rcaseOf_c t, e1, e2, e3, e6, e7, e8, e57, e59, e63, e66, e70, e72]
    clear e1 e2 e3 e6 e7 e8 e57 e59 e63 e66 e70 e72
    have hws201 := F203.gb.size
    have yg19l := F203.ltAt 0 rfl yg19 rfl
    have yg19b := yg19l.2 rfl
    have yg12l := F203.ltAt 1 rfl yg12 rfl
    have yg12b := yg12l.2 rfl
    have yg6l := (F203.ltAt 2 rfl _ rfl).1
    have yg5l := F203.ltAt 3 rfl yg5 rfl
    have yg5b := yg5l.2 rfl
    refine ru_one 13 rfl (by kernel_rfl) (fun K hK => ?_)
    refine step_app _ okInt rfl _ _ rfl w.heap.size vw (numL wb Tsk.wa ts k) [z.wa.lo] rfl (by exact (F203.at 6 rfl : Own intEnc 3 1 w.heap.size _ vw (numL wb Tsk.wa ts k))) ⟨_, 0, none⟩ 1 1 rfl rfl (by decide) (news_of (F203.at 1 rfl : Bk _ yg12 3 #[.int .i64 z.wa.lo])) (k + 1) (by rw [numL_len (by omega)]) (by omega) (by first | omega | (simp; omega)) _ rfl ?_
    intro g204 cap205 w206 hp207
    have hp207s := hp207.gb.size
    (try simp at hp207s)
    have F208 := (F203.front 6 rfl rfl).app hp207 (Nat.le_refl _)
    clear F203
    refine ru_back hK (by exact ⟨F208.q 8 0, F208.q 5 1, F208.q 8 1, F208.q 5 3, F208.q 8 2, F208.q 5 5⟩) (fun _ => ?_)
    exact hZ189.out _ _ _ (by kernel_rfl) (by kernel_rfl) rfl ⟨yg5, yg6, yc6, yg12, g204, cap205, yg19, by (iterate 11 refine ⟨by kernel_rfl, ?_⟩); exact ⟨(by first | omega | (simp; done) | (simp; omega)), (F208.pick [1, 0, 2, 3, 4, 5, 6, 7, 8, 9, 10, 11, 12, 13, 14] (by decide) rfl)⟩⟩
   intro hZ201
   refine ru_state 121 (fun t w_ => ∃ (yg5 : Nat) (yg6 : Nat) (yc6 : Nat) (yg12 : Nat), t 1 = .slice ad dl.length cd /\ t 2 = .bool false /\ t 3 = .pointer (some ⟨w.heap.size, 0, none⟩) /\ t 6 = .pointer (some ⟨w.heap.size + 1, 0, none⟩) /\ t 7 = .pointer (some ⟨w.heap.size + 2, 0, none⟩) /\ t 8 = .int .i64 (k : Int) /\ t 57 = .slice (some ⟨yg6, 0, none⟩) (k + 1) yc6 /\ t 59 = vw /\ t 63 = .slice (some ⟨yg12, 0, none⟩) 1 1 /\ t 66 = vf /\ t 69 = .int .i64 z.fr.lo /\ t 72 = .pointer (some ⟨w.heap.size + 2, 0, none⟩) /\ w162.heap.size <= w_.heap.size /\ Bun w [rbox yg12 3 #[.int .i64 z.wa.lo], rown intEnc 3 1 w.heap.size (.slice (some ⟨yg6, 0, none⟩) (k + 1) yc6) (numL wb Tsk.ho ts k ++ [z.ho.lo]), rbox yg5 3 #[.int .i64 z.ho.lo], rbox w15.heap.size 79 #[.int .i64 z.m, .int .i64 z.ho.lo, .int .i64 z.ho.hi, .int .i64 z.wa.lo, .int .i64 z.wa.hi, .int .i64 z.fr.lo, .int .i64 z.fr.hi, .slice a_z z.af.length c_z], rsl intEnc 1 lo hi (.slice a_z z.af.length c_z) z.af, rown intEnc 3 1 w.heap.size vw (numL wb Tsk.wa ts k), rown intEnc 3 1 w.heap.size vf (numL wb Tsk.fr ts k), rbox (w.heap.size + 2) 51 #[vh, vw, vf, .slice none 0 0], rbox (w.heap.size + 1) 51 #[.slice none 0 0, .slice none 0 0, .slice none 0 0, .slice none 0 0], rbox w.heap.size 25 #[.slice aM ms.length cM, .slice (some ⟨x17, o18, none⟩) ts.length cT], rsl weaEnc 6 lo2 hi2 (.slice ad dl.length cd) dl, rafs lo hi ts, rsl tskEnc 8 lo hi (.slice (some ⟨x17, o18, none⟩) ts.length cT) ts, rsl mchEnc 3 lo hi (.slice aM ms.length cM) ms] w_) #[true, true, true, true, true, true, true, true, true, true, true, true, true, false, true, true, true, true, true, false, false, true, false, false, false, false, false] 8 ?st209 ?nx209
   case st209 =>
    rintro t w210 ⟨yg5, yg6, yc6, yg12, e1, e2, e3, e6, e7, e8, e57, e59, e63, e66, e69, e72, hsz209, F211⟩
    clear F165
    rw [rng_rcaseOf_c t, e1, e2, e3, e6, e7, e8, e57, e59, e63, e66, e69, e72]
    clear e1 e2 e3 e6 e7 e8 e57 e59 e63 e66 e69 e72
    have hws209 := F211.gb.size
    have yg12l := F211.ltAt 0 rfl yg12 rfl
    have yg12b := yg12l.2 rfl
    have yg6l := (F211.ltAt 1 rfl _ rfl).1
    have yg5l := F211.ltAt 2 rfl yg5 rfl
    have yg5b := yg5l.2 rfl
    refine ru_two 13 19 rfl rfl (by kernel_rfl) ?_ ?_
    ·
     intro K hK
     refine step_app _ okInt rfl _ _ rfl w.heap.size vw (numL wb Tsk.wa ts k) [z.wa.lo] rfl (by exact (F211.at 5 rfl : Own intEnc 3 1 w.heap.size _ vw (numL wb Tsk.wa ts k))) ⟨_, 0, none⟩ 1 1 rfl rfl (by decide) (news_of (F211.at 0 rfl : Bk _ yg12 3 #[.int .i64 z.wa.lo])) (k + 1) (by rw [numL_len (by omega)]) (by omega) (by first | omega | (simp; omega)) _ rfl ?_
     intro g212 cap213 w214 hp215
     have hp215s := hp215.gb.size
     (try simp at hp215s)
     have F216 := (F211.front 5 rfl rfl).app hp215 (Nat.le_refl _)
     clear F211
     refine ru_back hK (by exact ⟨F216.q 7 0, F216.q 4 1, F216.q 7 1, F216.q 4 3, F216.q 7 2, F216.q 4 5⟩) (fun _ => ?_)
     exact hZ197.out _ _ _ (by kernel_rfl) (by kernel_rfl) rfl ⟨yg5, yg6, yc6, yg12, g212, cap213, by (iterate 11 refine ⟨by kernel_rfl, ?_⟩); exact ⟨(by first | omega | (simp; done) | (simp; omega)), F216⟩⟩
    intro K hK
    go_simp
    replace F211 := F211.new 3 #[.int .i64 z.fr.lo] (n := w210.heap.size) (by simp)
    refine ru_back hK (by exact ⟨F211.q 8 0, F211.q 4 1, F211.q 8 1, F211.q 4 3, F211.q 8 2, F211.q 4 5⟩) (fun _ => ?_)
    exact hZ201.out _ _ _ (by kernel_rfl) (by kernel_rfl) rfl ⟨yg5, yg6, yc6, yg12, w210.heap.size, by (iterate 12 refine ⟨by kernel_rfl, ?_⟩); exact ⟨(by first | omega | (simp; done) | (simp; omega)), F211⟩⟩
   intro hZ209
   refine ru_state 121 (fun t w_ => ∃ (yg5 : Nat) (yg6 : Nat) (yc6 : Nat) (yg19 : Nat), t 1 = .slice ad dl.length cd /\ t 2 = .bool false /\ t 3 = .pointer (some ⟨w.heap.size, 0, none⟩) /\ t 6 = .pointer (some ⟨w.heap.size + 1, 0, none⟩) /\ t 7 = .pointer (some ⟨w.heap.size + 2, 0, none⟩) /\ t 8 = .int .i64 (k : Int) /\ t 57 = .slice (some ⟨yg6, 0, none⟩) (k + 1) yc6 /\ t 59 = vw /\ t 62 = .int .i64 z.wa.lo /\ t 66 = vf /\ t 70 = .slice (some ⟨yg19, 0, none⟩) 1 1 /\ t 72 = .pointer (some ⟨w.heap.size + 2, 0, none⟩) /\ w162.heap.size <= w_.heap.size /\ Bun w [rbox yg19 3 #[.int .i64 z.fr.lo], rown intEnc 3 1 w.heap.size (.slice (some ⟨yg6, 0, none⟩) (k + 1) yc6) (numL wb Tsk.ho ts k ++ [z.ho.lo]), rbox yg5 3 #[.int .i64 z.ho.lo], rbox w15.heap.size 79 #[.int .i64 z.m, .int .i64 z.ho.lo, .int .i64 z.ho.hi, .int .i64 z.wa.lo, .int .i64 z.wa.hi, .int .i64 z.fr.lo, .int .i64 z.fr.hi, .slice a_z z.af.length c_z], rsl intEnc 1 lo hi (.slice a_z z.af.length c_z) z.af, rown intEnc 3 1 w.heap.size vw (numL wb Tsk.wa ts k), rown intEnc 3 1 w.heap.size vf (numL wb Tsk.fr ts k), rbox (w.heap.size + 2) 51 #[vh, vw, vf, .slice none 0 0], rbox (w.heap.size + 1) 51 #[.slice none 0 0, .slice none 0 0, .slice none 0 0, .slice none 0 0], rbox w.heap.size 25 #[.slice aM ms.length cM, .slice (some ⟨x17, o18, none⟩) ts.length cT], rsl weaEnc 6 lo2 hi2 (.slice ad dl.length cd) dl, rafs lo hi ts, rsl tskEnc 8 lo hi (.slice (some ⟨x17, o18, none⟩) ts.length cT) ts, rsl mchEnc 3 lo hi (.slice aM ms.length cM) ms] w_) #[true, true, true, true, true, true, true, true, true, true, true, true, false, false, true, true, true, true, true, true, false, true, false, false, false, false, false] 8 ?st218 ?nx218
   case st218 =>
    rintro t w219 ⟨yg5, yg6, yc6, yg19, e1, e2, e3, e6, e7, e8, e57, e59, e62, e66, e70, e72, hsz218, F220⟩
    clear F165
    rw [rng_rcaseOf_c t, e1, e2, e3, e6, e7, e8, e57, e59, e62, e66, e70, e72]
    clear e1 e2 e3 e6 e7 e8 e57 e59 e62 e66 e70 e72
    have hws218 := F220.gb.size
    have yg19l := F220.ltAt 0 rfl yg19 rfl
    have yg19b := yg19l.2 rfl
    have yg6l := (F220.ltAt 1 rfl _ rfl).1
    have yg5l := F220.ltAt 2 rfl yg5 rfl
    have yg5b := yg5l.2 rfl
    refine ru_one 12 rfl (by kernel_rfl) (fun K hK => ?_)
    go_simp
    replace F220 := F220.new 3 #[.int .i64 z.wa.lo] (n := w219.heap.size) (by simp)
    refine ru_back hK (by exact ⟨F220.q 8 0, F220.q 4 1, F220.q 8 1, F220.q 4 3, F220.q 8 2, F220.q 4 5⟩) (fun _ => ?_)
    exact hZ201.out _ _ _ (by kernel_rfl) (by kernel_rfl) rfl ⟨yg5, yg6, yc6, w219.heap.size, yg19, by (iterate 12 refine ⟨by kernel_rfl, ?_⟩); exact ⟨(by first | omega | (simp; done) | (simp; omega)), (F220.pick [1, 0, 2, 3, 4, 5, 6, 7, 8, 9, 10, 11, 12, 13, 14] (by decide) rfl)⟩⟩
   intro hZ218
   refine ru_state 121 (fun t w_ => ∃ (yg5 : Nat) (yg6 : Nat) (yc6 : Nat), t 1 = .slice ad dl.length cd /\ t 2 = .bool false /\ t 3 = .pointer (some ⟨w.heap.size, 0, none⟩) /\ t 6 = .pointer (some ⟨w.heap.size + 1, 0, none⟩) /\ t 7 = .pointer (some ⟨w.heap.size + 2, 0, none⟩) /\ t 8 = .int .i64 (k : Int) /\ t 57 = .slice (some ⟨yg6, 0, none⟩) (k + 1) yc6 /\ t 59 = vw /\ t 62 = .int .i64 z.wa.lo /\ t 66 = vf /\ t 69 = .int .i64 z.fr.lo /\ t 72 = .pointer (some ⟨w.heap.size + 2, 0, none⟩) /\ w162.heap.size <= w_.heap.size /\ Bun w [rown intEnc 3 1 w.heap.size (.slice (some ⟨yg6, 0, none⟩) (k + 1) yc6) (numL wb Tsk.ho ts k ++ [z.ho.lo]), rbox yg5 3 #[.int .i64 z.ho.lo], rbox w15.heap.size 79 #[.int .i64 z.m, .int .i64 z.ho.lo, .int .i64 z.ho.hi, .int .i64 z.wa.lo, .int .i64 z.wa.hi, .int .i64 z.fr.lo, .int .i64 z.fr.hi, .slice a_z z.af.length c_z], rsl intEnc 1 lo hi (.slice a_z z.af.length c_z) z.af, rown intEnc 3 1 w.heap.size vw (numL wb Tsk.wa ts k), rown intEnc 3 1 w.heap.size vf (numL wb Tsk.fr ts k), rbox (w.heap.size + 2) 51 #[vh, vw, vf, .slice none 0 0], rbox (w.heap.size + 1) 51 #[.slice none 0 0, .slice none 0 0, .slice none 0 0, .slice none 0 0], rbox w.heap.size 25 #[.slice aM ms.length cM, .slice (some ⟨x17, o18, none⟩) ts.length cT], rsl weaEnc 6 lo2 hi2 (.slice ad dl.length cd) dl, rafs lo hi ts, rsl tskEnc 8 lo hi (.slice (some ⟨x17, o18, none⟩) ts.length cT) ts, rsl mchEnc 3 lo hi (.slice aM ms.length cM) ms] w_) #[true, true, true, true, true, true, true, true, true, true, true, true, false, false, true, true, true, true, true, false, false, true, false, false, false, false, false] 9 ?st222 ?nx222
   case st222 =>
    rintro t w223 ⟨yg5, yg6, yc6, e1, e2, e3, e6, e7, e8, e57, e59, e62, e66, e69, e72, hsz222, F224⟩
    clear F165
    rw [rng_rcaseOf_c t, e1, e2, e3, e6, e7, e8, e57, e59, e62, e66, e69, e72]
    clear e1 e2 e3 e6 e7 e8 e57 e59 e62 e66 e69 e72
    have hws222 := F224.gb.size
    have yg6l := (F224.ltAt 0 rfl _ rfl).1
    have yg5l := F224.ltAt 1 rfl yg5 rfl
    have yg5b := yg5l.2 rfl
    refine ru_two 12 19 rfl rfl (by kernel_rfl) ?_ ?_
    ·
     intro K hK
     go_simp
     replace F224 := F224.new 3 #[.int .i64 z.wa.lo] (n := w223.heap.size) (by simp)
     refine ru_back hK (by exact ⟨F224.q 7 0, F224.q 3 1, F224.q 7 1, F224.q 3 3, F224.q 7 2, F224.q 3 5⟩) (fun _ => ?_)
     exact hZ209.out _ _ _ (by kernel_rfl) (by kernel_rfl) rfl ⟨yg5, yg6, yc6, w223.heap.size, by (iterate 12 refine ⟨by kernel_rfl, ?_⟩); exact ⟨(by first | omega | (simp; done) | (simp; omega)), F224⟩⟩
    intro K hK
    go_simp
    replace F224 := F224.new 3 #[.int .i64 z.fr.lo] (n := w223.heap.size) (by simp)
    refine ru_back hK (by exact ⟨F224.q 7 0, F224.q 3 1, F224.q 7 1, F224.q 3 3, F224.q 7 2, F224.q 3 5⟩) (fun _ => ?_)
    exact hZ218.out _ _ _ (by kernel_rfl) (by kernel_rfl) rfl ⟨yg5, yg6, yc6, w223.heap.size, by (iterate 12 refine ⟨by kernel_rfl, ?_⟩); exact ⟨(by first | omega | (simp; done) | (simp; omega)), F224⟩⟩
   intro hZ222
   refine ru_state 121 (fun t w_ => ∃ (yg5 : Nat) (yg12 : Nat) (yg19 : Nat), t 1 = .slice ad dl.length cd /\ t 2 = .bool false /\ t 3 = .pointer (some ⟨w.heap.size, 0, none⟩) /\ t 6 = .pointer (some ⟨w.heap.size + 1, 0, none⟩) /\ t 7 = .pointer (some ⟨w.heap.size + 2, 0, none⟩) /\ t 8 = .int .i64 (k : Int) /\ t 52 = vh /\ t 56 = .slice (some ⟨yg5, 0, none⟩) 1 1 /\ t 59 = vw /\ t 63 = .slice (some ⟨yg12, 0, none⟩) 1 1 /\ t 66 = vf /\ t 70 = .slice (some ⟨yg19, 0, none⟩) 1 1 /\ w162.heap.size <= w_.heap.size /\ Bun w [rbox yg19 3 #[.int .i64 z.fr.lo], rbox yg12 3 #[.int .i64 z.wa.lo], rbox yg5 3 #[.int .i64 z.ho.lo], rbox w15.heap.size 79 #[.int .i64 z.m, .int .i64 z.ho.lo, .int .i64 z.ho.hi, .int .i64 z.wa.lo, .int .i64 z.wa.hi, .int .i64 z.fr.lo, .int .i64 z.fr.hi, .slice a_z z.af.length c_z], rsl intEnc 1 lo hi (.slice a_z z.af.length c_z) z.af, rown intEnc 3 1 w.heap.size vh (numL wb Tsk.ho ts k), rown intEnc 3 1 w.heap.size vw (numL wb Tsk.wa ts k), rown intEnc 3 1 w.heap.size vf (numL wb Tsk.fr ts k), rbox (w.heap.size + 2) 51 #[vh, vw, vf, .slice none 0 0], rbox (w.heap.size + 1) 51 #[.slice none 0 0, .slice none 0 0, .slice none 0 0, .slice none 0 0], rbox w.heap.size 25 #[.slice aM ms.length cM, .slice (some ⟨x17, o18, none⟩) ts.length cT], rsl weaEnc 6 lo2 hi2 (.slice ad dl.length cd) dl, rafs lo hi ts, rsl tskEnc 8 lo hi (.slice (some ⟨x17, o18, none⟩) ts.length cT) ts, rsl mchEnc 3 lo hi (.slice aM ms.length cM) ms] w_) #[true, true, true, true, true, true, false, true, true, true, true, true, true, false, true, true, true, true, true, true, false, false, false, false, false, false, false] 9 ?st227 ?nx227
   case st227 =>
    rintro t w228 ⟨yg5, yg12, yg19, e1, e2, e3, e6, e7, e8, e52, e56, e59, e63, e66, e70, hsz227, F229⟩
    clear F165
    rw [rng_rcaseOf_c t, e1, e2, e3, e6, e7, e8, e52, e56, e59, e63, e66, e70]
    clear e1 e2 e3 e6 e7 e8 e52 e56 e59 e63 e66 e70
    have hws227 := F229.gb.size
    have yg19l := F229.ltAt 0 rfl yg19 rfl
    have yg19b := yg19l.2 rfl
    have yg12l := F229.ltAt 1 rfl yg12 rfl
    have yg12b := yg12l.2 rfl
    have yg5l := F229.ltAt 2 rfl yg5 rfl
    have yg5b := yg5l.2 rfl
    refine ru_one 6 rfl (by kernel_rfl) (fun K hK => ?_)
    refine step_app _ okInt rfl _ _ rfl w.heap.size vh (numL wb Tsk.ho ts k) [z.ho.lo] rfl (by exact (F229.at 5 rfl : Own intEnc 3 1 w.heap.size _ vh (numL wb Tsk.ho ts k))) ⟨_, 0, none⟩ 1 1 rfl rfl (by decide) (news_of (F229.at 2 rfl : Bk _ yg5 3 #[.int .i64 z.ho.lo])) (k + 1) (by rw [numL_len (by omega)]) (by omega) (by first | omega | (simp; omega)) _ rfl ?_
    intro g230 cap231 w232 hp233
    have hp233s := hp233.gb.size
    (try simp at hp233s)
    have F234 := (F229.front 5 rfl rfl).app hp233 (Nat.le_refl _)
    clear F229
    refine ru_back hK (by exact ⟨F234.q 8 0, F234.q 4 1, F234.q 8 1, F234.q 4 3, F234.q 8 2, F234.q 4 5⟩) (fun _ => ?_)
    clear hK K
    (try simp only [lpX])
    refine ru_p 21 ?_
    (try simp only [lpX])
    exact hZ201.out _ _ _ (by kernel_rfl) (by kernel_rfl) rfl ⟨yg5, g230, cap231, yg12, yg19, by (iterate 12 refine ⟨by kernel_rfl, ?_⟩); exact ⟨(by first | omega | (simp; done) | (simp; omega)), (F234.pick [1, 2, 0, 3, 4, 5, 6, 7, 8, 9, 10, 11, 12, 13, 14] (by decide) rfl)⟩⟩
   intro hZ227
   refine ru_state 121 (fun t w_ => ∃ (yg5 : Nat) (yg12 : Nat), t 1 = .slice ad dl.length cd /\ t 2 = .bool false /\ t 3 = .pointer (some ⟨w.heap.size, 0, none⟩) /\ t 6 = .pointer (some ⟨w.heap.size + 1, 0, none⟩) /\ t 7 = .pointer (some ⟨w.heap.size + 2, 0, none⟩) /\ t 8 = .int .i64 (k : Int) /\ t 52 = vh /\ t 56 = .slice (some ⟨yg5, 0, none⟩) 1 1 /\ t 59 = vw /\ t 63 = .slice (some ⟨yg12, 0, none⟩) 1 1 /\ t 66 = vf /\ t 69 = .int .i64 z.fr.lo /\ w162.heap.size <= w_.heap.size /\ Bun w [rbox yg12 3 #[.int .i64 z.wa.lo], rbox yg5 3 #[.int .i64 z.ho.lo], rbox w15.heap.size 79 #[.int .i64 z.m, .int .i64 z.ho.lo, .int .i64 z.ho.hi, .int .i64 z.wa.lo, .int .i64 z.wa.hi, .int .i64 z.fr.lo, .int .i64 z.fr.hi, .slice a_z z.af.length c_z], rsl intEnc 1 lo hi (.slice a_z z.af.length c_z) z.af, rown intEnc 3 1 w.heap.size vh (numL wb Tsk.ho ts k), rown intEnc 3 1 w.heap.size vw (numL wb Tsk.wa ts k), rown intEnc 3 1 w.heap.size vf (numL wb Tsk.fr ts k), rbox (w.heap.size + 2) 51 #[vh, vw, vf, .slice none 0 0], rbox (w.heap.size + 1) 51 #[.slice none 0 0, .slice none 0 0, .slice none 0 0, .slice none 0 0], rbox w.heap.size 25 #[.slice aM ms.length cM, .slice (some ⟨x17, o18, none⟩) ts.length cT], rsl weaEnc 6 lo2 hi2 (.slice ad dl.length cd) dl, rafs lo hi ts, rsl tskEnc 8 lo hi (.slice (some ⟨x17, o18, none⟩) ts.length cT) ts, rsl mchEnc 3 lo hi (.slice aM ms.length cM) ms] w_) #[true, true, true, true, true, true, false, true, true, true, true, true, true, false, true, true, true, true, true, false, false, false, false, false, false, false, false] 10 ?st235 ?nx235
   case st235 =>
    rintro t w236 ⟨yg5, yg12, e1, e2, e3, e6, e7, e8, e52, e56, e59, e63, e66, e69, hsz235, F237⟩
    clear F165
    rw [rng_rcaseOf_c t, e1, e2, e3, e6, e7, e8, e52, e56, e59, e63, e66, e69]
    clear e1 e2 e3 e6 e7 e8 e52 e56 e59 e63 e66 e69
    have hws235 := F237.gb.size
    have yg12l := F237.ltAt 0 rfl yg12 rfl
    have yg12b := yg12l.2 rfl
    have yg5l := F237.ltAt 1 rfl yg5 rfl
    have yg5b := yg5l.2 rfl
    refine ru_two 6 19 rfl rfl (by kernel_rfl) ?_ ?_
    ·
     intro K hK
     refine step_app _ okInt rfl _ _ rfl w.heap.size vh (numL wb Tsk.ho ts k) [z.ho.lo] rfl (by exact (F237.at 4 rfl : Own intEnc 3 1 w.heap.size _ vh (numL wb Tsk.ho ts k))) ⟨_, 0, none⟩ 1 1 rfl rfl (by decide) (news_of (F237.at 1 rfl : Bk _ yg5 3 #[.int .i64 z.ho.lo])) (k + 1) (by rw [numL_len (by omega)]) (by omega) (by first | omega | (simp; omega)) _ rfl ?_
     intro g238 cap239 w240 hp241
     have hp241s := hp241.gb.size
     (try simp at hp241s)
     have F242 := (F237.front 4 rfl rfl).app hp241 (Nat.le_refl _)
     clear F237
     refine ru_back hK (by exact ⟨F242.q 7 0, F242.q 3 1, F242.q 7 1, F242.q 3 3, F242.q 7 2, F242.q 3 5⟩) (fun _ => ?_)
     clear hK K
     (try simp only [lpX])
     refine ru_p 21 ?_
     (try simp only [lpX])
     exact hZ209.out _ _ _ (by kernel_rfl) (by kernel_rfl) rfl ⟨yg5, g238, cap239, yg12, by (iterate 12 refine ⟨by kernel_rfl, ?_⟩); exact ⟨(by first | omega | (simp; done) | (simp; omega)), (F242.pick [1, 0, 2, 3, 4, 5, 6, 7, 8, 9, 10, 11, 12, 13] (by decide) rfl)⟩⟩
    intro K hK
    go_simp
    replace F237 := F237.new 3 #[.int .i64 z.fr.lo] (n := w236.heap.size) (by simp)
    refine ru_back hK (by exact ⟨F237.q 8 0, F237.q 3 1, F237.q 8 1, F237.q 3 3, F237.q 8 2, F237.q 3 5⟩) (fun _ => ?_)
    exact hZ227.out _ _ _ (by kernel_rfl) (by kernel_rfl) rfl ⟨yg5, yg12, w236.heap.size, by (iterate 12 refine ⟨by kernel_rfl, ?_⟩); exact ⟨(by first | omega | (simp; done) | (simp; omega)), F237⟩⟩
   intro hZ235
   refine ru_state 121 (fun t w_ => ∃ (yg5 : Nat) (yg19 : Nat), t 1 = .slice ad dl.length cd /\ t 2 = .bool false /\ t 3 = .pointer (some ⟨w.heap.size, 0, none⟩) /\ t 6 = .pointer (some ⟨w.heap.size + 1, 0, none⟩) /\ t 7 = .pointer (some ⟨w.heap.size + 2, 0, none⟩) /\ t 8 = .int .i64 (k : Int) /\ t 52 = vh /\ t 56 = .slice (some ⟨yg5, 0, none⟩) 1 1 /\ t 59 = vw /\ t 62 = .int .i64 z.wa.lo /\ t 66 = vf /\ t 70 = .slice (some ⟨yg19, 0, none⟩) 1 1 /\ w162.heap.size <= w_.heap.size /\ Bun w [rbox yg19 3 #[.int .i64 z.fr.lo], rbox yg5 3 #[.int .i64 z.ho.lo], rbox w15.heap.size 79 #[.int .i64 z.m, .int .i64 z.ho.lo, .int .i64 z.ho.hi, .int .i64 z.wa.lo, .int .i64 z.wa.hi, .int .i64 z.fr.lo, .int .i64 z.fr.hi, .slice a_z z.af.length c_z], rsl intEnc 1 lo hi (.slice a_z z.af.length c_z) z.af, rown intEnc 3 1 w.heap.size vh (numL wb Tsk.ho ts k), rown intEnc 3 1 w.heap.size vw (numL wb Tsk.wa ts k), rown intEnc 3 1 w.heap.size vf (numL wb Tsk.fr ts k), rbox (w.heap.size + 2) 51 #[vh, vw, vf, .slice none 0 0], rbox (w.heap.size + 1) 51 #[.slice none 0 0, .slice none 0 0, .slice none 0 0, .slice none 0 0], rbox w.heap.size 25 #[.slice aM ms.length cM, .slice (some ⟨x17, o18, none⟩) ts.length cT], rsl weaEnc 6 lo2 hi2 (.slice ad dl.length cd) dl, rafs lo hi ts, rsl tskEnc 8 lo hi (.slice (some ⟨x17, o18, none⟩) ts.length cT) ts, rsl mchEnc 3 lo hi (.slice aM ms.length cM) ms] w_) #[true, true, true, true, true, true, false, true, true, true, true, true, false, false, true, true, true, true, true, true, false, false, false, false, false, false, false] 10 ?st244 ?nx244
   case st244 =>
    rintro t w245 ⟨yg5, yg19, e1, e2, e3, e6, e7, e8, e52, e56, e59, e62, e66, e70, hsz244, F246⟩
    clear F165
    rw [rng_rcaseOf_c t, e1, e2, e3, e6, e7, e8, e52, e56, e59, e62, e66, e70]
    clear e1 e2 e3 e6 e7 e8 e52 e56 e59 e62 e66 e70
    have hws244 := F246.gb.size
    have yg19l := F246.ltAt 0 rfl yg19 rfl
    have yg19b := yg19l.2 rfl
    have yg5l := F246.ltAt 1 rfl yg5 rfl
    have yg5b := yg5l.2 rfl
    refine ru_two 6 12 rfl rfl (by kernel_rfl) ?_ ?_
    ·
     intro K hK
     refine step_app _ okInt rfl _ _ rfl w.heap.size vh (numL wb Tsk.ho ts k) [z.ho.lo] rfl (by exact (F246.at 4 rfl : Own intEnc 3 1 w.heap.size _ vh (numL wb Tsk.ho ts k))) ⟨_, 0, none⟩ 1 1 rfl rfl (by decide) (news_of (F246.at 1 rfl : Bk _ yg5 3 #[.int .i64 z.ho.lo])) (k + 1) (by rw [numL_len (by omega)]) (by omega) (by first | omega | (simp; omega)) _ rfl ?_
     intro g247 cap248 w249 hp250
     have hp250s := hp250.gb.size
     (try simp at hp250s)
     have F251 := (F246.front 4 rfl rfl).app hp250 (Nat.le_refl _)
     clear F246
     refine ru_back hK (by exact ⟨F251.q 7 0, F251.q 3 1, F251.q 7 1, F251.q 3 3, F251.q 7 2, F251.q 3 5⟩) (fun _ => ?_)
     clear hK K
     (try simp only [lpX])
     refine ru_p 21 ?_
     (try simp only [lpX])
     exact hZ218.out _ _ _ (by kernel_rfl) (by kernel_rfl) rfl ⟨yg5, g247, cap248, yg19, by (iterate 12 refine ⟨by kernel_rfl, ?_⟩); exact ⟨(by first | omega | (simp; done) | (simp; omega)), (F251.pick [1, 0, 2, 3, 4, 5, 6, 7, 8, 9, 10, 11, 12, 13] (by decide) rfl)⟩⟩
    intro K hK
    go_simp
    replace F246 := F246.new 3 #[.int .i64 z.wa.lo] (n := w245.heap.size) (by simp)
    refine ru_back hK (by exact ⟨F246.q 8 0, F246.q 3 1, F246.q 8 1, F246.q 3 3, F246.q 8 2, F246.q 3 5⟩) (fun _ => ?_)
    exact hZ227.out _ _ _ (by kernel_rfl) (by kernel_rfl) rfl ⟨yg5, w245.heap.size, yg19, by (iterate 12 refine ⟨by kernel_rfl, ?_⟩); exact ⟨(by first | omega | (simp; done) | (simp; omega)), (F246.pick [1, 0, 2, 3, 4, 5, 6, 7, 8, 9, 10, 11, 12, 13, 14] (by decide) rfl)⟩⟩
   intro hZ244
   refine ru_state 121 (fun t w_ => ∃ (yg12 : Nat) (yg19 : Nat), t 1 = .slice ad dl.length cd /\ t 2 = .bool false /\ t 3 = .pointer (some ⟨w.heap.size, 0, none⟩) /\ t 6 = .pointer (some ⟨w.heap.size + 1, 0, none⟩) /\ t 7 = .pointer (some ⟨w.heap.size + 2, 0, none⟩) /\ t 8 = .int .i64 (k : Int) /\ t 52 = vh /\ t 55 = .int .i64 z.ho.lo /\ t 59 = vw /\ t 63 = .slice (some ⟨yg12, 0, none⟩) 1 1 /\ t 66 = vf /\ t 70 = .slice (some ⟨yg19, 0, none⟩) 1 1 /\ w162.heap.size <= w_.heap.size /\ Bun w [rbox yg19 3 #[.int .i64 z.fr.lo], rbox yg12 3 #[.int .i64 z.wa.lo], rbox w15.heap.size 79 #[.int .i64 z.m, .int .i64 z.ho.lo, .int .i64 z.ho.hi, .int .i64 z.wa.lo, .int .i64 z.wa.hi, .int .i64 z.fr.lo, .int .i64 z.fr.hi, .slice a_z z.af.length c_z], rsl intEnc 1 lo hi (.slice a_z z.af.length c_z) z.af, rown intEnc 3 1 w.heap.size vh (numL wb Tsk.ho ts k), rown intEnc 3 1 w.heap.size vw (numL wb Tsk.wa ts k), rown intEnc 3 1 w.heap.size vf (numL wb Tsk.fr ts k), rbox (w.heap.size + 2) 51 #[vh, vw, vf, .slice none 0 0], rbox (w.heap.size + 1) 51 #[.slice none 0 0, .slice none 0 0, .slice none 0 0, .slice none 0 0], rbox w.heap.size 25 #[.slice aM ms.length cM, .slice (some ⟨x17, o18, none⟩) ts.length cT], rsl weaEnc 6 lo2 hi2 (.slice ad dl.length cd) dl, rafs lo hi ts, rsl tskEnc 8 lo hi (.slice (some ⟨x17, o18, none⟩) ts.length cT) ts, rsl mchEnc 3 lo hi (.slice aM ms.length cM) ms] w_) #[true, true, true, true, true, false, false, true, true, true, true, true, true, false, true, true, true, true, true, true, false, false, false, false, false, false, false] 10 ?st253 ?nx253
   case st253 =>
    rintro t w254 ⟨yg12, yg19, e1, e2, e3, e6, e7, e8, e52, e55, e59, e63, e66, e70, hsz253, F255⟩
    clear F165
    rw [rng_rcaseOf_c t, e1, e2, e3, e6, e7, e8, e52, e55, e59, e63, e66, e70]
    clear e1 e2 e3 e6 e7 e8 e52 e55 e59 e63 e66 e70
    have hws253 := F255.gb.size
    have yg19l := F255.ltAt 0 rfl yg19 rfl
    have yg19b := yg19l.2 rfl
    have yg12l := F255.ltAt 1 rfl yg12 rfl
    have yg12b := yg12l.2 rfl
    refine ru_one 5 rfl (by kernel_rfl) (fun K hK => ?_)
    go_simp
    replace F255 := F255.new 3 #[.int .i64 z.ho.lo] (n := w254.heap.size) (by simp)
    refine ru_back hK (by exact ⟨F255.q 8 0, F255.q 3 1, F255.q 8 1, F255.q 3 3, F255.q 8 2, F255.q 3 5⟩) (fun _ => ?_)
    exact hZ227.out _ _ _ (by kernel_rfl) (by kernel_rfl) rfl ⟨w254.heap.size, yg12, yg19, by (iterate 12 refine ⟨by kernel_rfl, ?_⟩); exact ⟨(by first | omega | (simp; done) | (simp; omega)), (F255.pick [1, 2, 0, 3, 4, 5, 6, 7, 8, 9, 10, 11, 12, 13, 14] (by decide) rfl)⟩⟩
   intro hZ253
   refine ru_state 121 (fun t w_ => ∃ (yg5 : Nat), t 1 = .slice ad dl.length cd /\ t 2 = .bool false /\ t 3 = .pointer (some ⟨w.heap.size, 0, none⟩) /\ t 6 = .pointer (some ⟨w.heap.size + 1, 0, none⟩) /\ t 7 = .pointer (some ⟨w.heap.size + 2, 0, none⟩) /\ t 8 = .int .i64 (k : Int) /\ t 52 = vh /\ t 56 = .slice (some ⟨yg5, 0, none⟩) 1 1 /\ t 59 = vw /\ t 62 = .int .i64 z.wa.lo /\ t 66 = vf /\ t 69 = .int .i64 z.fr.lo /\ w162.heap.size <= w_.heap.size /\ Bun w [rbox yg5 3 #[.int .i64 z.ho.lo], rbox w15.heap.size 79 #[.int .i64 z.m, .int .i64 z.ho.lo, .int .i64 z.ho.hi, .int .i64 z.wa.lo, .int .i64 z.wa.hi, .int .i64 z.fr.lo, .int .i64 z.fr.hi, .slice a_z z.af.length c_z], rsl intEnc 1 lo hi (.slice a_z z.af.length c_z) z.af, rown intEnc 3 1 w.heap.size vh (numL wb Tsk.ho ts k), rown intEnc 3 1 w.heap.size vw (numL wb Tsk.wa ts k), rown intEnc 3 1 w.heap.size vf (numL wb Tsk.fr ts k), rbox (w.heap.size + 2) 51 #[vh, vw, vf, .slice none 0 0], rbox (w.heap.size + 1) 51 #[.slice none 0 0, .slice none 0 0, .slice none 0 0, .slice none 0 0], rbox w.heap.size 25 #[.slice aM ms.length cM, .slice (some ⟨x17, o18, none⟩) ts.length cT], rsl weaEnc 6 lo2 hi2 (.slice ad dl.length cd) dl, rafs lo hi ts, rsl tskEnc 8 lo hi (.slice (some ⟨x17, o18, none⟩) ts.length cT) ts, rsl mchEnc 3 lo hi (.slice aM ms.length cM) ms] w_) #[true, true, true, true, true, true, false, true, true, true, true, true, false, false, true, true, true, true, true, false, false, false, false, false, false, false, false] 11 ?st257 ?nx257
   case st257 =>
    rintro t w258 ⟨yg5, e1, e2, e3, e6, e7, e8, e52, e56, e59, e62, e66, e69, hsz257, F259⟩
    clear F165
    rw [rng_rcaseOf_c t, e1, e2, e3, e6, e7, e8, e52, e56, e59, e62, e66, e69]
    clear e1 e2 e3 e6 e7 e8 e52 e56 e59 e62 e66 e69
    have hws257 := F259.gb.size
    have yg5l := F259.ltAt 0 rfl yg5 rfl
    have yg5b := yg5l.2 rfl
    refine ru_three 6 12 19 rfl rfl rfl (by kernel_rfl) ?_ ?_ ?_
    ·
     intro K hK
     refine step_app _ okInt rfl _ _ rfl w.heap.size vh (numL wb Tsk.ho ts k) [z.ho.lo] rfl (by exact (F259.at 3 rfl : Own intEnc 3 1 w.heap.size _ vh (numL wb Tsk.ho ts k))) ⟨_, 0, none⟩ 1 1 rfl rfl (by decide) (news_of (F259.at 0 rfl : Bk _ yg5 3 #[.int .i64 z.ho.lo])) (k + 1) (by rw [numL_len (by omega)]) (by omega) (by first | omega | (simp; omega)) _ rfl ?_
     intro g260 cap261 w262 hp263
     have hp263s := hp263.gb.size
     (try simp at hp263s)
     have F264 := (F259.front 3 rfl rfl).app hp263 (Nat.le_refl _)
     clear F259
     refine ru_back hK (by exact ⟨F264.q 6 0, F264.q 2 1, F264.q 6 1, F264.q 2 3, F264.q 6 2, F264.q 2 5⟩) (fun _ => ?_)
     clear hK K
     (try simp only [lpX])
     refine ru_p 21 ?_
     (try simp only [lpX])
     exact hZ222.out _ _ _ (by kernel_rfl) (by kernel_rfl) rfl ⟨yg5, g260, cap261, by (iterate 12 refine ⟨by kernel_rfl, ?_⟩); exact ⟨(by first | omega | (simp; done) | (simp; omega)), F264⟩⟩
    ·
     intro K hK
     go_simp
     replace F259 := F259.new 3 #[.int .i64 z.wa.lo] (n := w258.heap.size) (by simp)
     refine ru_back hK (by exact ⟨F259.q 7 0, F259.q 2 1, F259.q 7 1, F259.q 2 3, F259.q 7 2, F259.q 2 5⟩) (fun _ => ?_)
     exact hZ235.out _ _ _ (by kernel_rfl) (by kernel_rfl) rfl ⟨yg5, w258.heap.size, by (iterate 12 refine ⟨by kernel_rfl, ?_⟩); exact ⟨(by first | omega | (simp; done) | (simp; omega)), F259⟩⟩
    intro K hK
    go_simp
    replace F259 := F259.new 3 #[.int .i64 z.fr.lo] (n := w258.heap.size) (by simp)
    refine ru_back hK (by exact ⟨F259.q 7 0, F259.q 2 1, F259.q 7 1, F259.q 2 3, F259.q 7 2, F259.q 2 5⟩) (fun _ => ?_)
    exact hZ244.out _ _ _ (by kernel_rfl) (by kernel_rfl) rfl ⟨yg5, w258.heap.size, by (iterate 12 refine ⟨by kernel_rfl, ?_⟩); exact ⟨(by first | omega | (simp; done) | (simp; omega)), F259⟩⟩
   intro hZ257
   refine ru_state 121 (fun t w_ => ∃ (yg12 : Nat), t 1 = .slice ad dl.length cd /\ t 2 = .bool false /\ t 3 = .pointer (some ⟨w.heap.size, 0, none⟩) /\ t 6 = .pointer (some ⟨w.heap.size + 1, 0, none⟩) /\ t 7 = .pointer (some ⟨w.heap.size + 2, 0, none⟩) /\ t 8 = .int .i64 (k : Int) /\ t 52 = vh /\ t 55 = .int .i64 z.ho.lo /\ t 59 = vw /\ t 63 = .slice (some ⟨yg12, 0, none⟩) 1 1 /\ t 66 = vf /\ t 69 = .int .i64 z.fr.lo /\ w162.heap.size <= w_.heap.size /\ Bun w [rbox yg12 3 #[.int .i64 z.wa.lo], rbox w15.heap.size 79 #[.int .i64 z.m, .int .i64 z.ho.lo, .int .i64 z.ho.hi, .int .i64 z.wa.lo, .int .i64 z.wa.hi, .int .i64 z.fr.lo, .int .i64 z.fr.hi, .slice a_z z.af.length c_z], rsl intEnc 1 lo hi (.slice a_z z.af.length c_z) z.af, rown intEnc 3 1 w.heap.size vh (numL wb Tsk.ho ts k), rown intEnc 3 1 w.heap.size vw (numL wb Tsk.wa ts k), rown intEnc 3 1 w.heap.size vf (numL wb Tsk.fr ts k), rbox (w.heap.size + 2) 51 #[vh, vw, vf, .slice none 0 0], rbox (w.heap.size + 1) 51 #[.slice none 0 0, .slice none 0 0, .slice none 0 0, .slice none 0 0], rbox w.heap.size 25 #[.slice aM ms.length cM, .slice (some ⟨x17, o18, none⟩) ts.length cT], rsl weaEnc 6 lo2 hi2 (.slice ad dl.length cd) dl, rafs lo hi ts, rsl tskEnc 8 lo hi (.slice (some ⟨x17, o18, none⟩) ts.length cT) ts, rsl mchEnc 3 lo hi (.slice aM ms.length cM) ms] w_) #[true, true, true, true, true, false, false, true, true, true, true, true, true, false, true, true, true, true, true, false, false, false, false, false, false, false, false] 11 ?st267 ?nx267
   case st267 =>
    rintro t w268 ⟨yg12, e1, e2, e3, e6, e7, e8, e52, e55, e59, e63, e66, e69, hsz267, F269⟩
    clear F165
    rw [rng_rcaseOf_c t, e1, e2, e3, e6, e7, e8, e52, e55, e59, e63, e66, e69]
    clear e1 e2 e3 e6 e7 e8 e52 e55 e59 e63 e66 e69
    have hws267 := F269.gb.size
    have yg12l := F269.ltAt 0 rfl yg12 rfl
    have yg12b := yg12l.2 rfl
    refine ru_two 5 19 rfl rfl (by kernel_rfl) ?_ ?_
    ·
     intro K hK
     go_simp
     replace F269 := F269.new 3 #[.int .i64 z.ho.lo] (n := w268.heap.size) (by simp)
     refine ru_back hK (by exact ⟨F269.q 7 0, F269.q 2 1, F269.q 7 1, F269.q 2 3, F269.q 7 2, F269.q 2 5⟩) (fun _ => ?_)
     exact hZ235.out _ _ _ (by kernel_rfl) (by kernel_rfl) rfl ⟨w268.heap.size, yg12, by (iterate 12 refine ⟨by kernel_rfl, ?_⟩); exact ⟨(by first | omega | (simp; done) | (simp; omega)), (F269.pick [1, 0, 2, 3, 4, 5, 6, 7, 8, 9, 10, 11, 12, 13] (by decide) rfl)⟩⟩
    intro K hK
    go_simp
    replace F269 := F269.new 3 #[.int .i64 z.fr.lo] (n := w268.heap.size) (by simp)
    refine ru_back hK (by exact ⟨F269.q 7 0, F269.q 2 1, F269.q 7 1, F269.q 2 3, F269.q 7 2, F269.q 2 5⟩) (fun _ => ?_)
    exact hZ253.out _ _ _ (by kernel_rfl) (by kernel_rfl) rfl ⟨yg12, w268.heap.size, by (iterate 12 refine ⟨by kernel_rfl, ?_⟩); exact ⟨(by first | omega | (simp; done) | (simp; omega)), F269⟩⟩
   intro hZ267
   refine ru_state 121 (fun t w_ => ∃ (yg19 : Nat), t 1 = .slice ad dl.length cd /\ t 2 = .bool false /\ t 3 = .pointer (some ⟨w.heap.size, 0, none⟩) /\ t 6 = .pointer (some ⟨w.heap.size + 1, 0, none⟩) /\ t 7 = .pointer (some ⟨w.heap.size + 2, 0, none⟩) /\ t 8 = .int .i64 (k : Int) /\ t 52 = vh /\ t 55 = .int .i64 z.ho.lo /\ t 59 = vw /\ t 62 = .int .i64 z.wa.lo /\ t 66 = vf /\ t 70 = .slice (some ⟨yg19, 0, none⟩) 1 1 /\ w162.heap.size <= w_.heap.size /\ Bun w [rbox yg19 3 #[.int .i64 z.fr.lo], rbox w15.heap.size 79 #[.int .i64 z.m, .int .i64 z.ho.lo, .int .i64 z.ho.hi, .int .i64 z.wa.lo, .int .i64 z.wa.hi, .int .i64 z.fr.lo, .int .i64 z.fr.hi, .slice a_z z.af.length c_z], rsl intEnc 1 lo hi (.slice a_z z.af.length c_z) z.af, rown intEnc 3 1 w.heap.size vh (numL wb Tsk.ho ts k), rown intEnc 3 1 w.heap.size vw (numL wb Tsk.wa ts k), rown intEnc 3 1 w.heap.size vf (numL wb Tsk.fr ts k), rbox (w.heap.size + 2) 51 #[vh, vw, vf, .slice none 0 0], rbox (w.heap.size + 1) 51 #[.slice none 0 0, .slice none 0 0, .slice none 0 0, .slice none 0 0], rbox w.heap.size 25 #[.slice aM ms.length cM, .slice (some ⟨x17, o18, none⟩) ts.length cT], rsl weaEnc 6 lo2 hi2 (.slice ad dl.length cd) dl, rafs lo hi ts, rsl tskEnc 8 lo hi (.slice (some ⟨x17, o18, none⟩) ts.length cT) ts, rsl mchEnc 3 lo hi (.slice aM ms.length cM) ms] w_) #[true, true, true, true, true, false, false, true, true, true, true, true, false, false, true, true, true, true, true, true, false, false, false, false, false, false, false] 11 ?st272 ?nx272
   case st272 =>
    rintro t w273 ⟨yg19, e1, e2, e3, e6, e7, e8, e52, e55, e59, e62, e66, e70, hsz272, F274⟩
    clear F165
    rw [rng_rcaseOf_c t, e1, e2, e3, e6, e7, e8, e52, e55, e59, e62, e66, e70]
    clear e1 e2 e3 e6 e7 e8 e52 e55 e59 e62 e66 e70
    have hws272 := F274.gb.size
    have yg19l := F274.ltAt 0 rfl yg19 rfl
    have yg19b := yg19l.2 rfl
    refine ru_two 5 12 rfl rfl (by kernel_rfl) ?_ ?_
    ·
     intro K hK
     go_simp
     replace F274 := F274.new 3 #[.int .i64 z.ho.lo] (n := w273.heap.size) (by simp)
     refine ru_back hK (by exact ⟨F274.q 7 0, F274.q 2 1, F274.q 7 1, F274.q 2 3, F274.q 7 2, F274.q 2 5⟩) (fun _ => ?_)
     exact hZ244.out _ _ _ (by kernel_rfl) (by kernel_rfl) rfl ⟨w273.heap.size, yg19, by (iterate 12 refine ⟨by kernel_rfl, ?_⟩); exact ⟨(by first | omega | (simp; done) | (simp; omega)), (F274.pick [1, 0, 2, 3, 4, 5, 6, 7, 8, 9, 10, 11, 12, 13] (by decide) rfl)⟩⟩
    intro K hK
    go_simp
    replace F274 := F274.new 3 #[.int .i64 z.wa.lo] (n := w273.heap.size) (by simp)
    refine ru_back hK (by exact ⟨F274.q 7 0, F274.q 2 1, F274.q 7 1, F274.q 2 3, F274.q 7 2, F274.q 2 5⟩) (fun _ => ?_)
    exact hZ253.out _ _ _ (by kernel_rfl) (by kernel_rfl) rfl ⟨w273.heap.size, yg19, by (iterate 12 refine ⟨by kernel_rfl, ?_⟩); exact ⟨(by first | omega | (simp; done) | (simp; omega)), (F274.pick [1, 0, 2, 3, 4, 5, 6, 7, 8, 9, 10, 11, 12, 13] (by decide) rfl)⟩⟩
   intro hZ272
   refine ru_three 5 12 19 rfl rfl rfl (by kernel_rfl) ?_ ?_ ?_
   ·
    intro K hK
    go_simp
    replace F165 := F165.new 3 #[.int .i64 z.ho.lo] (n := wd168.heap.size) (by simp)
    refine ru_back hK (by exact ⟨F165.q 6 0, F165.q 1 1, F165.q 6 1, F165.q 1 3, F165.q 6 2, F165.q 1 5⟩) (fun _ => ?_)
    exact hZ257.out _ _ _ (by kernel_rfl) (by kernel_rfl) rfl ⟨wd168.heap.size, by (iterate 12 refine ⟨by kernel_rfl, ?_⟩); exact ⟨(by first | omega | (simp; done) | (simp; omega)), F165⟩⟩
   ·
    intro K hK
    go_simp
    replace F165 := F165.new 3 #[.int .i64 z.wa.lo] (n := wd168.heap.size) (by simp)
    refine ru_back hK (by exact ⟨F165.q 6 0, F165.q 1 1, F165.q 6 1, F165.q 1 3, F165.q 6 2, F165.q 1 5⟩) (fun _ => ?_)
    exact hZ267.out _ _ _ (by kernel_rfl) (by kernel_rfl) rfl ⟨wd168.heap.size, by (iterate 12 refine ⟨by kernel_rfl, ?_⟩); exact ⟨(by first | omega | (simp; done) | (simp; omega)), F165⟩⟩
   intro K hK
   go_simp
   replace F165 := F165.new 3 #[.int .i64 z.fr.lo] (n := wd168.heap.size) (by simp)
   refine ru_back hK (by exact ⟨F165.q 6 0, F165.q 1 1, F165.q 6 1, F165.q 1 3, F165.q 6 2, F165.q 1 5⟩) (fun _ => ?_)
   exact hZ272.out _ _ _ (by kernel_rfl) (by kernel_rfl) rfl ⟨wd168.heap.size, by (iterate 12 refine ⟨by kernel_rfl, ?_⟩); exact ⟨(by first | omega | (simp; done) | (simp; omega)), F165⟩⟩
  have c16H := lhd c16
  have c16a : decide ((k : Int) < (ts.length : Int)) = false := dec_f c16
  obtain rfl : k = ts.length := by omega
  have b280 := hF13.bx2 5 rfl
  obtain ⟨oa281, oc282, e_, _⟩ := Own.slN (hF13.at 0 rfl : Own intEnc 3 1 w.heap.size _ vh (numL wb Tsk.ho ts ts.length)) (fun _ => rfl) (numL_len (Nat.le_refl _))
  subst e_
  obtain ⟨oa283, oc284, e_, _⟩ := Own.slN (hF13.at 1 rfl : Own intEnc 3 1 w.heap.size _ vw (numL wb Tsk.wa ts ts.length)) (fun _ => rfl) (numL_len (Nat.le_refl _))
  subst e_
  obtain ⟨oa285, oc286, e_, _⟩ := Own.slN (hF13.at 2 rfl : Own intEnc 3 1 w.heap.size _ vf (numL wb Tsk.fr ts ts.length)) (fun _ => rfl) (numL_len (Nat.le_refl _))
  subst e_
  go_wp2_with fail
  clear b280
  have F287 := hF13.nilrow vEncS 56 1
  clear hF13
  replace F287 := F287.rws0 w.heap.size
  (skip)
  obtain ⟨HI289_, HI2890⟩ : ∃ I : RelT, I = (fun t ds wr => ∃ (k : Nat) (v4 : Value) (rows : List (Value × List Bool)), t 1 = .slice ad dl.length cd /\ t 2 = .bool (decide (isW wb)) /\ t 3 = .pointer (some ⟨w.heap.size, 0, none⟩) /\ t 6 = .pointer (some ⟨w.heap.size + 1, 0, none⟩) /\ t 7 = .pointer (some ⟨w.heap.size + 2, 0, none⟩) /\ t 10 = .int .i64 (k : Int) /\ k <= ms.length /\ rows.map (·.2) = rowsOf wb ms dl k /\ (∀ r_ ∈ rows, sliceB r_.1 = true) /\ ds = [] /\ w15.heap.size <= wr.heap.size /\ Bun w [rrws w.heap.size rows, rown vEncS 56 1 w.heap.size v4 (rows.map (·.1)), rown intEnc 3 1 w.heap.size (.slice oa281 ts.length oc282) (numL wb Tsk.ho ts ts.length), rown intEnc 3 1 w.heap.size (.slice oa283 ts.length oc284) (numL wb Tsk.wa ts ts.length), rown intEnc 3 1 w.heap.size (.slice oa285 ts.length oc286) (numL wb Tsk.fr ts ts.length), rbox (w.heap.size + 2) 51 #[.slice oa281 ts.length oc282, .slice oa283 ts.length oc284, .slice oa285 ts.length oc286, v4], rbox (w.heap.size + 1) 51 #[.slice none 0 0, .slice none 0 0, .slice none 0 0, .slice none 0 0], rbox w.heap.size 25 #[.slice aM ms.length cM, .slice aT ts.length cT], rsl weaEnc 6 lo2 hi2 (.slice ad dl.length cd) dl, rafs lo hi ts, rsl tskEnc 8 lo hi (.slice aT ts.length cT) ts, rsl mchEnc 3 lo hi (.slice aM ms.length cM) ms] wr) := ⟨_, rfl⟩
  have HI289 := lhd HI2890
  clear HI2890
  refine wp_loopS 121 rfl HI289_ (fun t wr => ms.length - (intOf (t 10)).toNat) ?atStart2 ?round2
  case round2 =>
   intro t ds wr hHid
   rw [HI289.out] at hHid
   obtain ⟨k, v4, rows, e1, e2, e3, e6, e7, e10, hrel⟩ := hHid
   have e := rgT1121 t
   (try dsimp only at e)
   rw [e1, e2, e3, e6, e7, e10] at e
   rw [e]
   simp only [e10]
   clear e e1 e2 e3 e6 e7 e10
   obtain ⟨hk, hro, hrs, rfl, hs291, hF290⟩ := hrel
   clear F287
   obtain ⟨w292, rfl⟩ : ∃ x_ : World, x_ = wr := ⟨_, rfl⟩
   have HRO := lhd hro
   have HRS := lhd hrs
   have hrl : rows.length <= k /\ k <= rows.length := by have h_ := congrArg List.length hro; simp only [List.length_map, rowsOf, List.length_take] at h_; omega
   clear hro hrs
   by_cases c293 : (k : Int) < (ms.length : Int)
   ·
    have c293H := lhd c293
    obtain ⟨x294, o295, e_⟩ := Sl.addr (hF290.at 11 rfl : Sl mchEnc 3 lo hi _ (.slice aM ms.length cM) ms) (by omega)
    subst e_
    obtain ⟨x, hz296_⟩ : ∃ z_, ms[k]? = some z_ := ⟨_, List.getElem?_eq_getElem (by omega)⟩
    have hz296 := lhd hz296_
    clear hz296_
    have b297 := hF290.bx2 7 rfl
    go_wp2_with (at_make; refine wpList_mkBool rfl _ _ rfl dl.length rfl rfl hF290 (by omega) w292.heap.size (by first | rfl | simp) ?_; intro w298 hB299 hs300; refine Hid.out ?_)
    refine lhd ?_
    (try simp at hs300)
    clear b297
    have F301 := hB299
    clear hF290
    go_wp2_with fail
    rw [mixF_rep (wkF wb x dl)] at F301
    (skip)
    obtain ⟨HI302_, HI3020⟩ : ∃ I : RelT, I = (fun t ds wr => ∃ (d : Nat), t 1 = .slice ad dl.length cd /\ t 2 = .bool (decide (isW wb)) /\ t 3 = .pointer (some ⟨w.heap.size, 0, none⟩) /\ t 6 = .pointer (some ⟨w.heap.size + 1, 0, none⟩) /\ t 7 = .pointer (some ⟨w.heap.size + 2, 0, none⟩) /\ t 10 = .int .i64 (k : Int) /\ t 11 = .slice (some ⟨w292.heap.size, 0, none⟩) dl.length dl.length /\ t 12 = .int .i64 (d : Int) /\ d <= dl.length /\ ds = [] /\ w298.heap.size <= wr.heap.size /\ Bun w [rown boEnc 4 1 w.heap.size (.slice (some ⟨w292.heap.size, 0, none⟩) dl.length dl.length) (mixF noF (wkF wb x dl) dl.length d), rrws w.heap.size rows, rown vEncS 56 1 w.heap.size v4 (rows.map (·.1)), rown intEnc 3 1 w.heap.size (.slice oa281 ts.length oc282) (numL wb Tsk.ho ts ts.length), rown intEnc 3 1 w.heap.size (.slice oa283 ts.length oc284) (numL wb Tsk.wa ts ts.length), rown intEnc 3 1 w.heap.size (.slice oa285 ts.length oc286) (numL wb Tsk.fr ts ts.length), rbox (w.heap.size + 2) 51 #[.slice oa281 ts.length oc282, .slice oa283 ts.length oc284, .slice oa285 ts.length oc286, v4], rbox (w.heap.size + 1) 51 #[.slice none 0 0, .slice none 0 0, .slice none 0 0, .slice none 0 0], rbox w.heap.size 25 #[.slice (some ⟨x294, o295, none⟩) ms.length cM, .slice aT ts.length cT], rsl weaEnc 6 lo2 hi2 (.slice ad dl.length cd) dl, rafs lo hi ts, rsl tskEnc 8 lo hi (.slice aT ts.length cT) ts, rsl mchEnc 3 lo hi (.slice (some ⟨x294, o295, none⟩) ms.length cM) ms] wr) := ⟨_, rfl⟩
    have HI302 := lhd HI3020
    clear HI3020
    refine wp_loopS 121 rfl HI302_ (fun t wr => dl.length - (intOf (t 12)).toNat) ?atStart3 ?round3
    case round3 =>
     intro t ds wr hHid
     rw [HI302.out] at hHid
     obtain ⟨d, e1, e2, e3, e6, e7, e10, e11, e12, hrel⟩ := hHid
     have e := rgT1121 t
     (try dsimp only at e)
     rw [e1, e2, e3, e6, e7, e10, e11, e12] at e
     rw [e]
     simp only [e12]
     clear e e1 e2 e3 e6 e7 e10 e11 e12
     obtain ⟨hd_, rfl, hs304, hF303⟩ := hrel
     clear F301
     obtain ⟨w305, rfl⟩ : ∃ x_ : World, x_ = wr := ⟨_, rfl⟩
     by_cases c306 : (d : Int) < (dl.length : Int)
     ·
      have c306H := lhd c306
      obtain ⟨x307, o308, e_⟩ := Sl.addr (hF303.at 9 rfl : Sl weaEnc 6 lo2 hi2 _ (.slice ad dl.length cd) dl) (by omega)
      subst e_
      obtain ⟨y, hz309_⟩ : ∃ z_, dl[d]? = some z_ := ⟨_, List.getElem?_eq_getElem (by omega)⟩
      have hz309 := lhd hz309_
      clear hz309_
      have hz310 : Hid ((mixF noF (wkF wb x dl) dl.length d)[d]? = some false) := lhd (mixF_at (F := noF) (by omega))
      go_wp2_with fail
      have F311 := hF303.drew
      clear hF303
      refine ru_begin (fun W => W.cell? ⟨w.heap.size, 0, none⟩ = some (.slice (some ⟨x294, o295, none⟩) ms.length cM) /\ W.cell? ⟨x294, o295 + k * 3, none⟩ = some (.int .i64 x.mild) /\ W.cell? ⟨x294, o295 + k * 3 + 1, none⟩ = some (.int .i64 x.hard) /\ W.cell? ⟨x294, o295 + k * 3 + 2, none⟩ = some (.int .i64 x.shift) /\ W.cell? ⟨x307, o308 + d * 6, none⟩ = some (.int .i64 y.cold.lo) /\ W.cell? ⟨x307, o308 + d * 6 + 1, none⟩ = some (.int .i64 y.cold.hi) /\ W.cell? ⟨x307, o308 + d * 6 + 2, none⟩ = some (.int .i64 y.fall.lo) /\ W.cell? ⟨x307, o308 + d * 6 + 3, none⟩ = some (.int .i64 y.fall.hi) /\ W.cell? ⟨x307, o308 + d * 6 + 4, none⟩ = some (.int .i64 y.water) /\ W.cell? ⟨x307, o308 + d * 6 + 5, none⟩ = some (.bool y.clear)) 10 (by kernel_rfl) ?_ ?_
      · exact ⟨F311.q 8 0, (Sl.cells (F311.at 12 rfl) hz296.out 0 _ rfl), (Sl.cells (F311.at 12 rfl) hz296.out 1 _ rfl), (Sl.cells (F311.at 12 rfl) hz296.out 2 _ rfl), (Sl.cells (F311.at 9 rfl) hz309.out 0 _ rfl), (Sl.cells (F311.at 9 rfl) hz309.out 1 _ rfl), (Sl.cells (F311.at 9 rfl) hz309.out 2 _ rfl), (Sl.cells (F311.at 9 rfl) hz309.out 3 _ rfl), (Sl.cells (F311.at 9 rfl) hz309.out 4 _ rfl), (Sl.cells (F311.at 9 rfl) hz309.out 5 _ rfl)⟩
      obtain ⟨wd313, hwd_⟩ : ∃ x : World, w305.drew = x := ⟨_, rfl⟩
      rw [hwd_] at F311 ⊢
      have wd313s : w305.heap.size <= wd313.heap.size := by rw [← hwd_]; exact Nat.le_refl _
      clear hwd_
      have hS312 := (And.intro (F311.q 8 0) (And.intro ((Sl.cells (F311.at 12 rfl) hz296.out 0 _ rfl)) (And.intro ((Sl.cells (F311.at 12 rfl) hz296.out 1 _ rfl)) (And.intro ((Sl.cells (F311.at 12 rfl) hz296.out 2 _ rfl)) (And.intro ((Sl.cells (F311.at 9 rfl) hz309.out 0 _ rfl)) (And.intro ((Sl.cells (F311.at 9 rfl) hz309.out 1 _ rfl)) (And.intro ((Sl.cells (F311.at 9 rfl) hz309.out 2 _ rfl)) (And.intro ((Sl.cells (F311.at 9 rfl) hz309.out 3 _ rfl)) (And.intro ((Sl.cells (F311.at 9 rfl) hz309.out 4 _ rfl)) ((Sl.cells (F311.at 9 rfl) hz309.out 5 _ rfl)))))))))))
      refine ru_t 0 [] ?_
      refine ru_t 1 [] ?_
      refine ru_t 2 [] ?_
      refine ru_t 3 [] ?_
      refine ru_t 4 [] ?_
      refine ru_t 5 [] ?_
      refine ru_t 6 [] ?_
      refine ru_t 7 [] ?_
      refine ru_t 8 [] ?_
      (try simp only [lpX])
      clear hS312
      refine ru_one 9 rfl (by kernel_rfl) (fun K hK => ?_)
      go_simp
      refine (rworks_c x y _).mono ?_
      rintro e w316 ⟨rfl, hg314⟩
      have hg314s := hg314.size
      (try simp at hg314s)
      replace F311 := F311.gn hg314
      refine ru_back hK (by exact ⟨F311.q 8 0, (Sl.cells (F311.at 12 rfl) hz296.out 0 _ rfl), (Sl.cells (F311.at 12 rfl) hz296.out 1 _ rfl), (Sl.cells (F311.at 12 rfl) hz296.out 2 _ rfl), (Sl.cells (F311.at 9 rfl) hz309.out 0 _ rfl), (Sl.cells (F311.at 9 rfl) hz309.out 1 _ rfl), (Sl.cells (F311.at 9 rfl) hz309.out 2 _ rfl), (Sl.cells (F311.at 9 rfl) hz309.out 3 _ rfl), (Sl.cells (F311.at 9 rfl) hz309.out 4 _ rfl), (Sl.cells (F311.at 9 rfl) hz309.out 5 _ rfl)⟩) (fun _ => ?_)
      clear hK K
      (try simp only [lpX])
      refine ru_one 10 rfl (by kernel_rfl) (fun K hK => ?_)
      go_simp
      refine ru_back_late hK (by kernel_rfl) ?_
      clear hK K
      (try simp only [lpX])
      refine ru_done (by kernel_rfl) ?_
      have Fn_ := F311
      (try dsimp only [List.eraseIdx_cons_succ, List.eraseIdx_cons_zero] at Fn_)
      obtain ⟨w318, hx319, F321, hxs320⟩ := Fn_.name
      (try simp at hxs320)
      rw [hx319]
      clear hx319 F311 Fn_
      by_cases c322 : wkV x y = 1
      ·
       have c322a : ((wkV x y) == 1) = true := beq_t c322
       have c322b : ((wkV x y) != 1) = false := bne_f c322
       have c322H := lhd c322
       clear c322
       have ge323 : World.cell? _ ⟨w292.heap.size, d, none⟩ = some (.bool false) := (by simpa using (Own.sl (F321.at 0 rfl : Own boEnc 4 1 w.heap.size _ (.slice (some ⟨w292.heap.size, 0, none⟩) dl.length dl.length) (mixF noF (wkF wb x dl) dl.length d)) (fun _ => rfl)).cells hz310.out 0 _ rfl)
       have gl324 := cell_lt ge323
       have ge325 : World.frozen? _ ⟨w292.heap.size, d, none⟩ = false := Own.live (F321.at 0 rfl : Own boEnc 4 1 w.heap.size _ (.slice (some ⟨w292.heap.size, 0, none⟩) dl.length dl.length) (mixF noF (wkF wb x dl) dl.length d)) _
       go_wp2_with fail
       clear ge323 gl324 ge325
       have F326 := Bun.setOwn (sz := 1) (fun _ => rfl) F321 hz310.out (y := true) (j := 0) (u := (.bool true)) (k := d) (by decide) rfl (by omega)
       clear F321
       (first | refine ⟨by kernel_rfl, ?_, ?_⟩ | refine ⟨rfl, ?_, ?_⟩ | refine ⟨?_, ?_⟩)
       · rw [HI302.out]; exact ⟨d + 1, by (iterate 7 refine ⟨by kernel_rfl, ?_⟩); exact ⟨(by show Value.int .i64 ((d : Int) + 1) = _; simp), (by omega), (by first | rfl | simp), (by first | omega | (simp; done) | (simp; omega)), (by rw [← mixF_set (wkF_of hz309.out (wkB_1 c322H.out))]; exact F326)⟩⟩
       · simp [slot, intOf]; omega
      have c322a : ((wkV x y) == 1) = false := beq_f c322
      have c322b : ((wkV x y) != 1) = true := bne_t c322
      have c322H := lhd c322
      clear c322
      by_cases c327 : wkV x y = 3
      ·
       have c327a : ((wkV x y) == 3) = true := beq_t c327
       have c327b : ((wkV x y) != 3) = false := bne_f c327
       have c327H := lhd c327
       clear c327
       have ge328 : World.cell? _ ⟨w292.heap.size, d, none⟩ = some (.bool false) := (by simpa using (Own.sl (F321.at 0 rfl : Own boEnc 4 1 w.heap.size _ (.slice (some ⟨w292.heap.size, 0, none⟩) dl.length dl.length) (mixF noF (wkF wb x dl) dl.length d)) (fun _ => rfl)).cells hz310.out 0 _ rfl)
       have gl329 := cell_lt ge328
       have ge330 : World.frozen? _ ⟨w292.heap.size, d, none⟩ = false := Own.live (F321.at 0 rfl : Own boEnc 4 1 w.heap.size _ (.slice (some ⟨w292.heap.size, 0, none⟩) dl.length dl.length) (mixF noF (wkF wb x dl) dl.length d)) _
       go_wp2_with fail
       clear ge328 gl329 ge330
       have F331 := Bun.setOwn (sz := 1) (fun _ => rfl) F321 hz310.out (y := (!(decide (isW wb)))) (j := 0) (u := (.bool (!(decide (isW wb))))) (k := d) (by decide) rfl (by omega)
       clear F321
       (first | refine ⟨by kernel_rfl, ?_, ?_⟩ | refine ⟨rfl, ?_, ?_⟩ | refine ⟨?_, ?_⟩)
       · rw [HI302.out]; exact ⟨d + 1, by (iterate 7 refine ⟨by kernel_rfl, ?_⟩); exact ⟨(by show Value.int .i64 ((d : Int) + 1) = _; simp), (by omega), (by first | rfl | simp), (by first | omega | (simp; done) | (simp; omega)), (by rw [← mixF_set (wkF_of hz309.out (wkB_3 c327H.out))]; exact F331)⟩⟩
       · simp [slot, intOf]; omega
      have c327a : ((wkV x y) == 3) = false := beq_f c327
      have c327b : ((wkV x y) != 3) = true := bne_t c327
      have c327H := lhd c327
      clear c327
      have ge332 : World.cell? _ ⟨w292.heap.size, d, none⟩ = some (.bool false) := (by simpa using (Own.sl (F321.at 0 rfl : Own boEnc 4 1 w.heap.size _ (.slice (some ⟨w292.heap.size, 0, none⟩) dl.length dl.length) (mixF noF (wkF wb x dl) dl.length d)) (fun _ => rfl)).cells hz310.out 0 _ rfl)
      have gl333 := cell_lt ge332
      have ge334 : World.frozen? _ ⟨w292.heap.size, d, none⟩ = false := Own.live (F321.at 0 rfl : Own boEnc 4 1 w.heap.size _ (.slice (some ⟨w292.heap.size, 0, none⟩) dl.length dl.length) (mixF noF (wkF wb x dl) dl.length d)) _
      go_wp2_with fail
      clear ge332 gl333 ge334
      have F335 := Bun.setOwn (sz := 1) (fun _ => rfl) F321 hz310.out (y := false) (j := 0) (u := (.bool false)) (k := d) (by decide) rfl (by omega)
      clear F321
      (first | refine ⟨by kernel_rfl, ?_, ?_⟩ | refine ⟨rfl, ?_, ?_⟩ | refine ⟨?_, ?_⟩)
      · rw [HI302.out]; exact ⟨d + 1, by (iterate 7 refine ⟨by kernel_rfl, ?_⟩); exact ⟨(by show Value.int .i64 ((d : Int) + 1) = _; simp), (by omega), (by first | rfl | simp), (by first | omega | (simp; done) | (simp; omega)), (by rw [← mixF_set (wkF_of hz309.out (wkB_2 c322H.out c327H.out))]; exact F335)⟩⟩
      · simp [slot, intOf]; omega
     have c306H := lhd c306
     have c306a : decide ((d : Int) < (dl.length : Int)) = false := dec_f c306
     obtain rfl : d = dl.length := by omega
     have b336 := hF303.bx4 6 rfl
     go_wp2_with (at_builtin; refine wpList_app _ okRB rfl _ _ rfl w.heap.size v4 (rows.map (·.1)) [(.slice (some ⟨w292.heap.size, 0, none⟩) dl.length dl.length : Value)] rfl (by exact ((hF303.at 2 rfl : Own vEncS 56 1 w.heap.size _ v4 (rows.map (·.1)))).alloc _) ⟨_, 0, none⟩ 1 1 rfl rfl (by decide) (news_of (Bk.newAt _ _ _ (by simp))) (rows.length + 1) (by simp) (by omega) (by first | omega | (simp; omega)) _ rfl ?_; intro g337 cap338 w339 hp340; refine Hid.out ?_)
     refine lhd ?_
     have hp340s := hp340.gb.size
     (try simp at hp340s)
     clear b336
     have F341 := ((hF303.alloc (.cells #[.slice (some ⟨w292.heap.size, 0, none⟩) dl.length dl.length] 56)).front 2 rfl rfl).app hp340 (by simp)
     clear hF303
     have b342 := F341.bx4 6 rfl
     go_wp2_with fail
     clear b342
     have F343 := ((F341.front 6 rfl rfl).set 3 (.slice (some ⟨g337, 0, none⟩) (rows.length + 1) cap338)).nf #[.slice oa281 ts.length oc282, .slice oa283 ts.length oc284, .slice oa285 ts.length oc286, .slice (some ⟨g337, 0, none⟩) (rows.length + 1) cap338] rfl
     clear F341
     go_wp2_with fail
     have F344 : Bun w [rown boEnc 4 1 w.heap.size (.slice (some ⟨w292.heap.size, 0, none⟩) dl.length dl.length) (mixF noF (wkF wb x dl) dl.length dl.length), rrws w.heap.size rows, rbox (w.heap.size + 2) 51 #[.slice oa281 ts.length oc282, .slice oa283 ts.length oc284, .slice oa285 ts.length oc286, .slice (some ⟨g337, 0, none⟩) (rows.length + 1) cap338], rown vEncS 56 1 w.heap.size (.slice (some ⟨g337, 0, none⟩) (rows.length + 1) cap338) ((rows.map (·.1)) ++ [(.slice (some ⟨w292.heap.size, 0, none⟩) dl.length dl.length : Value)]), rown intEnc 3 1 w.heap.size (.slice oa281 ts.length oc282) (numL wb Tsk.ho ts ts.length), rown intEnc 3 1 w.heap.size (.slice oa283 ts.length oc284) (numL wb Tsk.wa ts ts.length), rown intEnc 3 1 w.heap.size (.slice oa285 ts.length oc286) (numL wb Tsk.fr ts ts.length), rbox (w.heap.size + 1) 51 #[.slice none 0 0, .slice none 0 0, .slice none 0 0, .slice none 0 0], rbox w.heap.size 25 #[.slice (some ⟨x294, o295, none⟩) ms.length cM, .slice aT ts.length cT], rsl weaEnc 6 lo2 hi2 (.slice ad dl.length cd) dl, rafs lo hi ts, rsl tskEnc 8 lo hi (.slice aT ts.length cT) ts, rsl mchEnc 3 lo hi (.slice (some ⟨x294, o295, none⟩) ms.length cM) ms] _ := F343.pick [2, 3, 0, 1, 4, 5, 6, 7, 8, 9, 10, 11, 12] (by decide) rfl
     clear F343
     replace F344 := F344.rws
     (skip)
     have F346 : Bun w [rrws w.heap.size (rows ++ [(.slice (some ⟨w292.heap.size, 0, none⟩) dl.length dl.length, mixF noF (wkF wb x dl) dl.length dl.length)]), rown vEncS 56 1 w.heap.size (.slice (some ⟨g337, 0, none⟩) (rows.length + 1) cap338) ((rows.map (·.1)) ++ [(.slice (some ⟨w292.heap.size, 0, none⟩) dl.length dl.length : Value)]), rown intEnc 3 1 w.heap.size (.slice oa281 ts.length oc282) (numL wb Tsk.ho ts ts.length), rown intEnc 3 1 w.heap.size (.slice oa283 ts.length oc284) (numL wb Tsk.wa ts ts.length), rown intEnc 3 1 w.heap.size (.slice oa285 ts.length oc286) (numL wb Tsk.fr ts ts.length), rbox (w.heap.size + 2) 51 #[.slice oa281 ts.length oc282, .slice oa283 ts.length oc284, .slice oa285 ts.length oc286, .slice (some ⟨g337, 0, none⟩) (rows.length + 1) cap338], rbox (w.heap.size + 1) 51 #[.slice none 0 0, .slice none 0 0, .slice none 0 0, .slice none 0 0], rbox w.heap.size 25 #[.slice (some ⟨x294, o295, none⟩) ms.length cM, .slice aT ts.length cT], rsl weaEnc 6 lo2 hi2 (.slice ad dl.length cd) dl, rafs lo hi ts, rsl tskEnc 8 lo hi (.slice aT ts.length cT) ts, rsl mchEnc 3 lo hi (.slice (some ⟨x294, o295, none⟩) ms.length cM) ms] _ := F344.pick [0, 2, 3, 4, 5, 1, 6, 7, 8, 9, 10, 11] (by decide) rfl
     clear F344
     (first | refine ⟨by kernel_rfl, ?_, ?_⟩ | refine ⟨rfl, ?_, ?_⟩ | refine ⟨?_, ?_⟩)
     · rw [HI289.out]; exact ⟨k + 1, _, rows ++ [(.slice (some ⟨w292.heap.size, 0, none⟩) dl.length dl.length, mixF noF (wkF wb x dl) dl.length dl.length)], by (iterate 5 refine ⟨by kernel_rfl, ?_⟩); exact ⟨(by show Value.int .i64 ((k : Int) + 1) = _; simp), (by omega), (by rw [List.map_append, HRO.out, rowsOf_succ hz296.out, mixF_all]; rfl), (fun r_ h_ => by rcases List.mem_append.1 h_ with h_ | h_; exact HRS.out r_ h_; obtain rfl := List.mem_singleton.1 h_; rfl), (by first | rfl | simp), (by first | omega | (simp; done) | (simp; omega)), (by rw [List.map_append]; exact F346)⟩⟩
     · simp [slot, intOf]; omega
    case atStart3 =>
     rw [HI302.out]
     exact ⟨0, by (iterate 7 refine ⟨by kernel_rfl, ?_⟩); exact ⟨rfl, Nat.zero_le _, rfl, (by first | exact Nat.le_refl _ | omega | (simp; done) | (simp; omega)), F301⟩⟩
   have c293H := lhd c293
   have c293a : decide ((k : Int) < (ms.length : Int)) = false := dec_f c293
   have b347 := hF290.bx2 7 rfl
   obtain ⟨oa348, oc349, e_, _⟩ := Own.slN (hF290.at 1 rfl : Own vEncS 56 1 w.heap.size _ v4 (rows.map (·.1))) (fun _ => rfl) (List.length_map _)
   subst e_
   have b350 := hF290.bx4 5 rfl
   have b351 := hF290.bx4 6 rfl
   go_wp2_with fail
   clear b350 b351
   clear b347
   have F352 := (hF290.front 6 rfl rfl).pt4 (.slice oa281 ts.length oc282) (.slice oa283 ts.length oc284) (.slice oa285 ts.length oc286) (.slice oa348 rows.length oc349)
   clear hF290
   have kb353 := F352.bx4 0 rfl
   go_wp2_with fail
   have F354 : Bun w [rown intEnc 3 1 w.heap.size (.slice oa281 ts.length oc282) (numL wb Tsk.ho ts ts.length), rown intEnc 3 1 w.heap.size (.slice oa283 ts.length oc284) (numL wb Tsk.wa ts ts.length), rown intEnc 3 1 w.heap.size (.slice oa285 ts.length oc286) (numL wb Tsk.fr ts ts.length), rown vEncS 56 1 w.heap.size (.slice oa348 rows.length oc349) (rows.map (·.1)), rrws w.heap.size rows] _ := F352.pick [3, 4, 5, 2, 1] (by decide) rfl
   clear F352
   exact bodyPost_ret (v := .agg #[.slice oa281 ts.length oc282, .slice oa283 ts.length oc284, .slice oa285 ts.length oc286, .slice oa348 rows.length oc349]) (by simp [results, Try.results27, go_sem, kb353]) rfl ((by obtain rfl : k = ms.length := (by omega); exact ⟨_, _, _, _, _, _, _, rows, rfl, ⟨by rw [HRO.out]; exact caseOf_is wb ms ts dl, HRS.out⟩, F354⟩))
  case atStart2 =>
   rw [HI289.out]
   exact ⟨0, .slice none 0 0, [], by (iterate 5 refine ⟨by kernel_rfl, ?_⟩); exact ⟨rfl, Nat.zero_le _, rfl, (fun _ h => by cases h), rfl, (by first | exact Nat.le_refl _ | omega | (simp; done) | (simp; omega)), F287⟩⟩
 case atStart1 =>
  rw [HI12.out]
  exact ⟨0, _, _, _, by (iterate 5 refine ⟨by kernel_rfl, ?_⟩); exact ⟨rfl, Nat.zero_le _, rfl, (by first | exact Nat.le_refl _ | omega | (simp; done) | (simp; omega)), F1⟩⟩
end Go.Proofs.Ytokelpmngahnoaa
