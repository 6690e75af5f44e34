/- build and its reference: Times. -/
import Derived.Test.YtcoldeolmleeiaaGreatKJ9
import Derived.Test.YtcoldeolmleeiaaGreatKK1
set_option linter.unusedVariables false
set_option linter.unusedSimpArgs false
set_option linter.unnecessarySimpa false
namespace Go.Proofs.YtcoldeolmleeiaaGreat
open Go.RowKit
set_option maxRecDepth 100000
attribute [local go_sem] Oper.semAt_some
attribute [local go_sem] run_store_fn
theorem Bun.joinV {w0 A B : World} {L L2 : List Res} (h : Bun w0 L A) (h2 : Bun A L2 B) (hm : ∀ r ∈ L2, ∀ g, r.X g -> A.heap.size <= g) : Bun w0 (L2 ++ L) B := by
 have hg := h.gn h2.gb
 refine ⟨fun r hr => ?_, fun r hr g hx => ?_, ?_, hg.gb⟩
 ·
  rcases List.mem_append.1 hr with hr | hr
  · exact h2.all r hr
  · exact hg.all r hr
 ·
  rcases List.mem_append.1 hr with hr | hr
  · exact ⟨(h2.bd r hr g hx).1, fun _ => Nat.le_trans h.gb.size (hm r hr g hx)⟩
  · exact hg.bd r hr g hx
 rw [List.pairwise_append]
 refine ⟨h2.dis, h.dis, fun a ha b hb _ g hx hy => ?_⟩
 have h3 := hm a ha g hx
 have h4 := (h.bd b hb g hy).1
 omega
theorem Bun.sl2 {α β : Type} {enc : α -> List Value} {enc2 : β -> List Value} {sz sz2 lo hi : Nat} {v v2 : Value} {l : List α} {l2 : List β} {w w' : World} (h1 : w.heap.size <= lo) (h2 : hi <= w'.heap.size) (s1 : Sl enc sz lo hi w' v l) (s2 : Sl enc2 sz2 lo hi w' v2 l2) (hg : w.grownBy w' none) :
  Bun w [rsl enc sz lo hi v l, rsl enc2 sz2 lo hi v2 l2] w' :=
 ((Bun.nil w).add (rsl enc2 sz2 lo hi v2 l2) hg s2 (rsl_in h1 h2)).more 0 (rsl enc sz lo hi v l) rfl rfl rfl (fun _ h => h) s1
structure Tim where
 b : Sp
 e : Sp
 deriving DecidableEq
def timEnc (t : Tim) : List Value := [.int .i64 t.b.lo, .int .i64 t.b.hi, .int .i64 t.e.lo, .int .i64 t.e.hi]
def timAt (c d : Cs) (n i : Nat) : Tim := ⟨⟨bgAt (c.plan n) i, bgAt (d.plan n) i⟩, ⟨enAt (c.plan n) i, enAt (d.plan n) i⟩⟩
def timN (c d : Cs) (n k : Nat) : List Tim := (List.range k).map (timAt c d n)
theorem timN_len (c d : Cs) (n k : Nat) : (timN c d n k).length = k := by simp [timN]
theorem timN_succ (c d : Cs) (n k : Nat) : timN c d n (k + 1) = timN c d n k ++ [timAt c d n k] := by simp [timN, List.range_succ]
theorem infoTim : (Tryz.prog.info? 47).map (fun i => (i.zero, i.size, i.bytes)) = some (some (.agg #[.int .i64 0, .int .i64 0, .int .i64 0, .int .i64 0]), 4, 32) := by kernel_rfl
theorem okTim : ElemOk Tryz.prog 43 47 4 32 timEnc where
 under := Tryz.underlying43
 info := info5 infoTim rfl
 pos := by omega
 small := by omega
 len := fun _ => rfl
 one := fun x u hu => by
  simp [timEnc] at hu
  rcases hu with rfl | rfl | rfl | rfl <;> rfl
def timsOf (ms : List Mch) (ts : List Tsk) (dl : List Wea) : List Tim := if bothErr ms ts dl = 0 then timN (caseOf false ms ts dl) (caseOf true ms ts dl) ts.length ts.length else []
def opnOf (ms : List Mch) (ts : List Tsk) (dl : List Wea) : Sp := if bothErr ms ts dl = 0 then ⟨(caseOf false ms ts dl).opn ts.length, (caseOf true ms ts dl).opn ts.length⟩ else ⟨0, 0⟩
def TimesR (ms : List Mch) (ts : List Tsk) (dl : List Wea) (w : World) : Ending -> World -> Prop := fun e w' => ∃ (a : Option Addr) (cp lo hi : Nat), e = .returned (.tuple #[.slice a (timsOf ms ts dl).length cp, .agg #[.int .i64 (opnOf ms ts dl).lo, .int .i64 (opnOf ms ts dl).hi], .int .i64 (bothErr ms ts dl)]) ∧
 (w.heap.size <= lo /\ hi <= w'.heap.size) /\ Sl timEnc 4 lo hi w' (.slice a (timsOf ms ts dl).length cp) (timsOf ms ts dl) /\ w.grownBy w' none
theorem bothOk {ms : List Mch} {ts : List Tsk} {dl : List Wea} (h : bothErr ms ts dl = 0) : JobOk ms ts /\ dl.length <= 400 := by
 unfold bothErr at h
 split at h
 · contradiction
 rename_i h1
 exact ⟨jobOk (Classical.not_not.1 h1), (daysOk h).1⟩
theorem TimesR.yes {ms : List Mch} {ts : List Tsk} {dl : List Wea} {w w' : World} {e : Ending} {v : Value} {x y : Int} (h : bothErr ms ts dl = 0) (hx : (caseOf false ms ts dl).opn ts.length = x) (hy : (caseOf true ms ts dl).opn ts.length = y) (ho : Own timEnc 47 4 w.heap.size w' v (timN (caseOf false ms ts dl) (caseOf true ms ts dl) ts.length ts.length)) (hg : w.grownBy w' none)
  (he : e = .returned (.tuple #[v, .agg #[.int .i64 x, .int .i64 y], .int .i64 0])) : TimesR ms ts dl w e w' := by
 have e1 : timsOf ms ts dl = timN (caseOf false ms ts dl) (caseOf true ms ts dl) ts.length ts.length := by rw [timsOf, if_pos h]
 have e2 : opnOf ms ts dl = ⟨(caseOf false ms ts dl).opn ts.length, (caseOf true ms ts dl).opn ts.length⟩ := by rw [opnOf, if_pos h]
 obtain ⟨a, cp, rfl, hs⟩ := Own.slN ho (fun _ => rfl) (timN_len _ _ _ _)
 unfold TimesR
 rw [e1, e2, h, timN_len]
 subst hx hy
 exact ⟨a, cp, _, _, he, ⟨Nat.le_refl _, Nat.le_refl _⟩, hs, hg⟩
theorem TimesR.no {ms : List Mch} {ts : List Tsk} {dl : List Wea} {w w' : World} {e : Ending} (h : ¬ bothErr ms ts dl = 0) (hg : w.grownBy w' none) (he : e = .returned (.tuple #[.slice none 0 0, .agg #[.int .i64 0, .int .i64 0], .int .i64 (bothErr ms ts dl)])) : TimesR ms ts dl w e w' := by
 have e1 : timsOf ms ts dl = [] := by rw [timsOf, if_neg h]
 have e2 : opnOf ms ts dl = ⟨0, 0⟩ := by rw [opnOf, if_neg h]
 unfold TimesR
 rw [e1, e2]
 exact ⟨none, 0, w.heap.size, w.heap.size, he, ⟨Nat.le_refl _, hg.size⟩, Sl.of_nil _ _, hg⟩
theorem timesb_b (lo hi : Nat) (vm vt : Value) (ms : List Mch) (ts : List Tsk) (lo2 hi2 : Nat) (vd : Value) (dl : List Wea) (w : World) (hj : JobAt lo hi w vm vt ms ts) (h2 : hi <= w.heap.size) (hd : Sl weaEnc 6 lo2 hi2 w vd dl) (h3 : hi2 <= w.heap.size) (hok : JobOk ms ts) (hn : dl.length <= 400) :
  Calls Tryz.prog 22 #[.agg #[.func (.func 41) #[] #[], .func (.func 42) #[] #[], vm, vt, vd]] w (fun e w' => ∃ (op : Int) (a1 a2 : Option Addr) (c1 c2 lo hi : Nat), e = .returned (.tuple #[.slice a1 ts.length c1, .slice a2 ts.length c2, .int .i64 op]) /\ w.heap.size <= lo /\ (caseOf false ms ts dl).opn ts.length = op ∧
   Bun w [rsl intEnc 1 lo hi (.slice a1 ts.length c1) (bgL (caseOf false ms ts dl) ts.length), rsl intEnc 1 lo hi (.slice a2 ts.length c2) (enL (caseOf false ms ts dl) ts.length)] w') := by
 refine (timesb_c lo hi vm vt ms ts lo2 hi2 vd dl w (caseOf false ms ts dl) (lhd rfl) hj h2 hd h3 hok hn).mono ?_
 rintro e w' ⟨a1, a2, c1, c2, lo', hi', rfl, ⟨h4, h5⟩, s1, s2, hg⟩
 exact ⟨_, a1, a2, c1, c2, lo', hi', rfl, h4, rfl, Bun.sl2 h4 h5 s1 s2 hg⟩
theorem timesw_b (lo hi : Nat) (vm vt : Value) (ms : List Mch) (ts : List Tsk) (lo2 hi2 : Nat) (vd : Value) (dl : List Wea) (w : World) (hj : JobAt lo hi w vm vt ms ts) (h2 : hi <= w.heap.size) (hd : Sl weaEnc 6 lo2 hi2 w vd dl) (h3 : hi2 <= w.heap.size) (hok : JobOk ms ts) (hn : dl.length <= 400) :
  Calls Tryz.prog 22 #[.agg #[.func (.func 43) #[] #[], .func (.func 44) #[] #[], vm, vt, vd]] w (fun e w' => ∃ (op : Int) (a1 a2 : Option Addr) (c1 c2 lo hi : Nat), e = .returned (.tuple #[.slice a1 ts.length c1, .slice a2 ts.length c2, .int .i64 op]) /\ w.heap.size <= lo /\ (caseOf true ms ts dl).opn ts.length = op ∧
   Bun w [rsl intEnc 1 lo hi (.slice a1 ts.length c1) (bgL (caseOf true ms ts dl) ts.length), rsl intEnc 1 lo hi (.slice a2 ts.length c2) (enL (caseOf true ms ts dl) ts.length)] w') := by
 refine (timesw_c lo hi vm vt ms ts lo2 hi2 vd dl w (caseOf true ms ts dl) (lhd rfl) hj h2 hd h3 hok hn).mono ?_
 rintro e w' ⟨a1, a2, c1, c2, lo', hi', rfl, ⟨h4, h5⟩, s1, s2, hg⟩
 exact ⟨_, a1, a2, c1, c2, lo', hi', rfl, h4, rfl, Bun.sl2 h4 h5 s1 s2 hg⟩
theorem rng_btimes_c (t : Nat -> Value) : ((List.range 77).map t).toArray = List.toArray [t 0, t 1, t 2, t 3, t 4, t 5, t 6, t 7, t 8, t 9, t 10, t 11, t 12, t 13, t 14, t 15, t 16, t 17, t 18, t 19, t 20, t 21, t 22, t 23, t 24, t 25, t 26, t 27, t 28, t 29, t 30, t 31, t 32, t 33, t 34, t 35, t 36, t 37, t 38, t 39, t 40, t 41, t 42, t 43, t 44, t 45, t 46, t 47, t 48, t 49, t 50, t 51, t 52, t 53, t 54, t 55, t 56, t 57, t 58, t 59, t 60, t 61, t 62, t 63, t 64, t 65, t 66, t 67, t 68, t 69, t 70, t 71, t 72, t 73, t 74, t 75, t 76] := rfl
set_option maxHeartbeats 16000000 in
theorem btimes_c (lo hi : Nat) (vm vt : Value) (ms : List Mch) (ts : List Tsk) (lo2 hi2 : Nat) (vd : Value) (dl : List Wea) (w : World) (hj : JobAt lo hi w vm vt ms ts) (h2 : hi <= w.heap.size) (hd : Sl weaEnc 6 lo2 hi2 w vd dl) (h3 : hi2 <= w.heap.size) :
  Calls Tryz.prog 10 #[.agg #[vm, vt], vd] w (TimesR ms ts dl w) := by
 have F1 : Bun w [] w := Bun.nil _
 obtain ⟨hms, hts, haf⟩ := hj
 have hm_ms := hms.len
 unfold maxLen at hm_ms
 obtain ⟨aM, cM, rfl⟩ := hms.any
 replace F1 := F1.sl0 hms h2 rfl
 clear hms
 have hm_ts := hts.len
 unfold maxLen at hm_ts
 obtain ⟨aT, cT, rfl⟩ := hts.any
 replace F1 := F1.sl0 hts h2 rfl
 clear hts
 replace F1 := F1.non0 (rafs lo hi ts) haf (fun _ h_ => Nat.lt_of_lt_of_le h_.2 h2) rfl rfl
 clear haf
 have hm_ds := hd.len
 unfold maxLen at hm_ds
 obtain ⟨ad, cd, rfl⟩ := hd.any
 replace F1 := F1.sl0 hd h3 rfl
 clear hd
 go_enter Tryz.func10, Tryz.ntmps10
 go_wp2_with fail
 replace F1 := F1.new 25 #[.slice aM ms.length cM, .slice aT ts.length cT] (n := w.heap.size) (by simp)
 replace F1 := F1.new 32 #[.int .i64 0, .int .i64 0] (n := (w.heap.size + 1)) (by simp)
 refine (bcheckAll_c lo hi _ _ ms ts lo2 hi2 _ dl _ (JobAt.mk (F1.s 5 rfl) (F1.s 4 rfl) (F1.at 3 rfl : Afs lo hi _ ts)) (Nat.le_trans h2 F1.gb.size) (F1.s 2 rfl) (Nat.le_trans h3 F1.gb.size)).mono ?_
 rintro e w10 ⟨rfl, hg8⟩
 have hg8s := hg8.size
 (try simp at hg8s)
 replace F1 := F1.gn hg8
 clear hg8
 by_cases c12 : bothErr ms ts dl = 0
 ·
  obtain ⟨c12a, c12b⟩ := bqt c12
  have c12H := lhd c12
  clear c12
  have HOK := lhd (bothOk c12H.out)
  have hnt := HOK.out.1.nt
  go_wp2_with fail
  replace F1 := F1.drew
  refine ru_begin (fun W => W.cell? ⟨w.heap.size, 0, none⟩ = some (.slice aM ms.length cM) /\ W.cell? ⟨w.heap.size, 1, none⟩ = some (.slice aT ts.length cT)) 11 (by kernel_rfl) ?_ ?_
  · exact ⟨F1.q 1 0, F1.q 1 1⟩
  obtain ⟨wd15, hwd_⟩ : ∃ x : World, w10.drew = x := ⟨_, rfl⟩
  rw [hwd_] at F1 ⊢
  have wd15s : w10.heap.size <= wd15.heap.size := by rw [← hwd_]; exact Nat.le_refl _
  clear hwd_
  have hS14 := (And.intro (F1.q 1 0) (F1.q 1 1))
  refine ru_t 1 [] ?_
  refine ru_t 2 [] ?_
  refine ru_t 5 [] ?_
  refine ru_t 6 [] ?_
  (try simp only [lpX])
  clear hS14
  have hSS : ∀ (LA : List Res) (W : World), Bun w ([rbox (w.heap.size + 1) 32 #[.int .i64 0, .int .i64 0], rbox w.heap.size 25 #[.slice aM ms.length cM, .slice aT ts.length cT], rsl weaEnc 6 lo2 hi2 (.slice ad dl.length cd) dl, rafs lo hi ts, rsl tskEnc 8 lo hi (.slice aT ts.length cT) ts, rsl mchEnc 3 lo hi (.slice aM ms.length cM) ms] ++ LA) W /\ w10.heap.size <= W.heap.size -> W.cell? ⟨w.heap.size, 0, none⟩ = some (.slice aM ms.length cM) /\ W.cell? ⟨w.heap.size, 1, none⟩ = some (.slice aT ts.length cT) := fun _ _ ⟨F_, _⟩ => ⟨F_.q 1 0, F_.q 1 1⟩
  refine ru_mix (goodBunS _ w10.heap.size) 77 [⟨8, 8, 69, #[.nilFunc, .nilFunc, .slice none 0 0, .slice none 0 0, .slice none 0 0], ptrOf⟩, ⟨9, 9, 69, #[.nilFunc, .nilFunc, .slice none 0 0, .slice none 0 0, .slice none 0 0], ptrOf⟩] [0, 3, 4, 7] 2 (by kernel_rfl) (by kernel_rfl) (fun _ _ _ _ _ h => h) (V := fun t => True) (U0 := (fun t => t 2 = .pointer (some ⟨w.heap.size, 0, none⟩) /\ t 4 = .slice none 0 0 /\ t 5 = .pointer (some ⟨w.heap.size + 1, 0, none⟩) /\ t 25 = .agg #[.slice aM ms.length cM, .slice aT ts.length cT] /\ t 26 = .slice ad dl.length cd /\ t 29 = .agg #[.slice aM ms.length cM, .slice aT ts.length cT] /\ t 30 = .slice ad dl.length cd)) (Um := (fun t => t 2 = .pointer (some ⟨w.heap.size, 0, none⟩) /\ t 4 = .slice none 0 0 /\ t 5 = .pointer (some ⟨w.heap.size + 1, 0, none⟩) /\ t 27 = .agg #[.func (.func 41) #[] #[], .func (.func 42) #[] #[], .slice aM ms.length cM, .slice aT ts.length cT, .slice ad dl.length cd] /\ t 31 = .agg #[.func (.func 43) #[] #[], .func (.func 44) #[] #[], .slice aM ms.length cM, .slice aT ts.length cT, .slice ad dl.length cd])) (L0 := [rbox (w.heap.size + 1) 32 #[.int .i64 0, .int .i64 0], rbox w.heap.size 25 #[.slice aM ms.length cM, .slice aT ts.length cT], rsl weaEnc 6 lo2 hi2 (.slice ad dl.length cd) dl, rafs lo hi ts, rsl tskEnc 8 lo hi (.slice aT ts.length cT) ts, rsl mchEnc 3 lo hi (.slice aM ms.length cM) ms]) (Lm := [rbox (w.heap.size + 1) 32 #[.int .i64 0, .int .i64 0], rbox w.heap.size 25 #[.slice aM ms.length cM, .slice aT ts.length cT], rsl weaEnc 6 lo2 hi2 (.slice ad dl.length cd) dl, rafs lo hi ts, rsl tskEnc 8 lo hi (.slice aT ts.length cT) ts, rsl mchEnc 3 lo hi (.slice aM ms.length cM) ms]) ?chM16 ?alM16 ⟨(by kernel_rfl), rfl, (by (iterate 6 refine ⟨by kernel_rfl, ?_⟩); exact (by kernel_rfl))⟩ ⟨F1, (by first | assumption | omega)⟩ ?restM16
  case chM16 =>
   refine Chain.callS 0 (fun t => t 2 = .pointer (some ⟨w.heap.size, 0, none⟩) /\ t 4 = .slice none 0 0 /\ t 5 = .pointer (some ⟨w.heap.size + 1, 0, none⟩) /\ t 24 = .agg #[.func (.func 41) #[] #[], .func (.func 42) #[] #[]] /\ t 25 = .agg #[.slice aM ms.length cM, .slice aT ts.length cT] /\ t 26 = .slice ad dl.length cd /\ t 29 = .agg #[.slice aM ms.length cM, .slice aT ts.length cT] /\ t 30 = .slice ad dl.length cd) (lfm ⟨fun _ _ u => u, lfm ⟨fun _ _ u => u, fun _ h => (by cases h)⟩⟩) hSS (fun t ⟨e2, e4, e5, e25, e26, e29, e30⟩ => trivial) (by kernel_rfl) ?_ ?_
   ·
    rintro t w_ LA ⟨e2, e4, e5, e25, e26, e29, e30⟩ ⟨F_, hwn_⟩
    have hws := F_.gb.size
    rw [rng_btimes_c t, e2, e4, e5, e25, e26, e29, e30]
    clear e2 e4 e5 e25 e26 e29 e30
    refine wpOp_stepH rfl (fun K hK => ?_)
    go_simp
    refine (pickedb_c _).mono ?_
    rintro e w17 ⟨rfl, hg18⟩
    exact hK.out _ _ ⟨(by kernel_rfl), rfl, (by (iterate 7 refine ⟨by kernel_rfl, ?_⟩); exact (by kernel_rfl)), lfm ⟨(by kernel_rfl), lfm ⟨(by kernel_rfl), fun _ h => (by cases h)⟩⟩, ⟨F_.gn hg18, Nat.le_trans hwn_ hg18.size⟩, hSS _ _ ⟨F_.gn hg18, Nat.le_trans hwn_ hg18.size⟩⟩
   refine Chain.pureS 3 (fun t => t 2 = .pointer (some ⟨w.heap.size, 0, none⟩) /\ t 4 = .slice none 0 0 /\ t 5 = .pointer (some ⟨w.heap.size + 1, 0, none⟩) /\ t 27 = .agg #[.func (.func 41) #[] #[], .func (.func 42) #[] #[], .slice aM ms.length cM, .slice aT ts.length cT, .slice ad dl.length cd] /\ t 29 = .agg #[.slice aM ms.length cM, .slice aT ts.length cT] /\ t 30 = .slice ad dl.length cd) rfl (lfm ⟨fun _ _ u => u, lfm ⟨fun _ _ u => u, fun _ h => (by cases h)⟩⟩) hSS (fun t ⟨e2, e4, e5, e24, e25, e26, e29, e30⟩ => trivial) (by kernel_rfl) ?_ ?_
   ·
    rintro t ⟨e2, e4, e5, e24, e25, e26, e29, e30⟩
    rw [rng_btimes_c t, e2, e4, e5, e24, e25, e26, e29, e30]
    clear e2 e4 e5 e24 e25 e26 e29 e30
    refine ⟨.agg #[.func (.func 41) #[] #[], .func (.func 42) #[] #[], .slice aM ms.length cM, .slice aT ts.length cT, .slice ad dl.length cd], .inl ⟨by first | kernel_rfl | rfl, ?_⟩, ⟨(by kernel_rfl), rfl⟩, (by (iterate 5 refine ⟨by kernel_rfl, ?_⟩); exact (by kernel_rfl)), lfm ⟨(by kernel_rfl), lfm ⟨(by kernel_rfl), fun _ h => (by cases h)⟩⟩⟩
    intro wS _
    go_simp
    (try with_reducible rfl)
   refine Chain.callS 4 (fun t => t 2 = .pointer (some ⟨w.heap.size, 0, none⟩) /\ t 4 = .slice none 0 0 /\ t 5 = .pointer (some ⟨w.heap.size + 1, 0, none⟩) /\ t 27 = .agg #[.func (.func 41) #[] #[], .func (.func 42) #[] #[], .slice aM ms.length cM, .slice aT ts.length cT, .slice ad dl.length cd] /\ t 28 = .agg #[.func (.func 43) #[] #[], .func (.func 44) #[] #[]] /\ t 29 = .agg #[.slice aM ms.length cM, .slice aT ts.length cT] /\ t 30 = .slice ad dl.length cd) (lfm ⟨fun _ _ u => u, lfm ⟨fun _ _ u => u, fun _ h => (by cases h)⟩⟩) hSS (fun t ⟨e2, e4, e5, e27, e29, e30⟩ => trivial) (by kernel_rfl) ?_ ?_
   ·
    rintro t w_ LA ⟨e2, e4, e5, e27, e29, e30⟩ ⟨F_, hwn_⟩
    have hws := F_.gb.size
    rw [rng_btimes_c t, e2, e4, e5, e27, e29, e30]
    clear e2 e4 e5 e27 e29 e30
    refine wpOp_stepH rfl (fun K hK => ?_)
    go_simp
    refine (pickedw_c _).mono ?_
    rintro e w20 ⟨rfl, hg21⟩
    exact hK.out _ _ ⟨(by kernel_rfl), rfl, (by (iterate 6 refine ⟨by kernel_rfl, ?_⟩); exact (by kernel_rfl)), lfm ⟨(by kernel_rfl), lfm ⟨(by kernel_rfl), fun _ h => (by cases h)⟩⟩, ⟨F_.gn hg21, Nat.le_trans hwn_ hg21.size⟩, hSS _ _ ⟨F_.gn hg21, Nat.le_trans hwn_ hg21.size⟩⟩
   refine Chain.pureS 7 (fun t => t 2 = .pointer (some ⟨w.heap.size, 0, none⟩) /\ t 4 = .slice none 0 0 /\ t 5 = .pointer (some ⟨w.heap.size + 1, 0, none⟩) /\ t 27 = .agg #[.func (.func 41) #[] #[], .func (.func 42) #[] #[], .slice aM ms.length cM, .slice aT ts.length cT, .slice ad dl.length cd] /\ t 31 = .agg #[.func (.func 43) #[] #[], .func (.func 44) #[] #[], .slice aM ms.length cM, .slice aT ts.length cT, .slice ad dl.length cd]) rfl (lfm ⟨fun _ _ u => u, lfm ⟨fun _ _ u => u, fun _ h => (by cases h)⟩⟩) hSS (fun t ⟨e2, e4, e5, e27, e28, e29, e30⟩ => trivial) (by kernel_rfl) ?_ ?_
   ·
    rintro t ⟨e2, e4, e5, e27, e28, e29, e30⟩
    rw [rng_btimes_c t, e2, e4, e5, e27, e28, e29, e30]
    clear e2 e4 e5 e27 e28 e29 e30
    refine ⟨.agg #[.func (.func 43) #[] #[], .func (.func 44) #[] #[], .slice aM ms.length cM, .slice aT ts.length cT, .slice ad dl.length cd], .inl ⟨by first | kernel_rfl | rfl, ?_⟩, ⟨(by kernel_rfl), rfl⟩, ⟨(by kernel_rfl), (by kernel_rfl), (by kernel_rfl), (by kernel_rfl), (by kernel_rfl)⟩, lfm ⟨(by kernel_rfl), lfm ⟨(by kernel_rfl), fun _ h => (by cases h)⟩⟩⟩
    intro wS _
    go_simp
    (try with_reducible rfl)
   exact Chain.nil _ _ _ (lfm ⟨fun _ _ u => u, lfm ⟨fun _ _ u => u, fun _ h => (by cases h)⟩⟩) hSS (fun t ⟨e2, e4, e5, e27, e31⟩ => trivial)
  case alM16 => exact lfm ⟨fun _ _ _ _ h => wpOp_step rfl (fun K hK => by go_simp; exact hK _ _ h), lfm ⟨fun _ _ _ _ h => wpOp_step rfl (fun K hK => by go_simp; exact hK _ _ h), fun _ h => (by cases h)⟩⟩
  case restM16 =>
   rintro t w25 g ⟨e2, e4, e5, e27, e31⟩ hA ⟨F_, hwnM16⟩
   clear hSS
   clear F1
   have hA0 : t 8 = .pointer (some ⟨g 8, 0, none⟩) := hA _ (.head _)
   have hA1 : t 9 = .pointer (some ⟨g 9, 0, none⟩) := hA _ (.tail _ (.head _))
   have F26 : Bun w [rbox (g 8) 69 #[.nilFunc, .nilFunc, .slice none 0 0, .slice none 0 0, .slice none 0 0], rbox (g 9) 69 #[.nilFunc, .nilFunc, .slice none 0 0, .slice none 0 0, .slice none 0 0], rbox (w.heap.size + 1) 32 #[.int .i64 0, .int .i64 0], rbox w.heap.size 25 #[.slice aM ms.length cM, .slice aT ts.length cT], rsl weaEnc 6 lo2 hi2 (.slice ad dl.length cd) dl, rafs lo hi ts, rsl tskEnc 8 lo hi (.slice aT ts.length cT) ts, rsl mchEnc 3 lo hi (.slice aM ms.length cM) ms] w25 := F_
   clear hA F_
   obtain ⟨g23, hgx_⟩ : ∃ x_, g 8 = x_ := ⟨_, rfl⟩
   rw [hgx_] at hA0 F26; clear hgx_
   obtain ⟨g24, hgx_⟩ : ∃ x_, g 9 = x_ := ⟨_, rfl⟩
   rw [hgx_] at hA1 F26; clear hgx_
   have hws := F26.gb.size
   have g23l := (F26.bx5 0 rfl).2.2
   have g24l := (F26.bx5 1 rfl).2.2
   rw [rng_btimes_c t, e2, e4, e5, e27, e31, hA0, hA1]
   clear e2 e4 e5 e27 e31 hA0 hA1
   refine ru_o 10 fun K hK => ?_
   have kb_ := F26.bx5 0 rfl
   go_simp
   clear kb_
   replace F26 := F26.pt5 (.func (.func 41) #[] #[]) (.func (.func 42) #[] #[]) (.slice aM ms.length cM) (.slice aT ts.length cT) (.slice ad dl.length cd)
   refine ru_back hK (by exact ⟨F26.q 3 0, F26.q 3 1⟩) (fun _ => ?_)
   clear hK K
   (try simp only [lpX])
   refine ru_o 11 fun K hK => ?_
   have kb_ := F26.bx5 1 rfl
   go_simp
   clear kb_
   have F28 := (F26.front 1 rfl rfl).pt5 (.func (.func 43) #[] #[]) (.func (.func 44) #[] #[]) (.slice aM ms.length cM) (.slice aT ts.length cT) (.slice ad dl.length cd)
   clear F26
   refine ru_back_late hK (by kernel_rfl) ?_
   clear hK K
   (try simp only [lpX])
   refine ru_done (by kernel_rfl) ?_
   have Fn_ := F28
   (try dsimp only [lpF, lpG] at Fn_)
   obtain ⟨w29, hx30, F32, hxs31⟩ := Fn_.name
   (try simp at hxs31)
   rw [hx30]
   clear hx30 F28 Fn_
   have b33 := F32.bx5 1 rfl
   go_wp2_with fail
   clear b33
   refine (timesb_b lo hi _ _ ms ts lo2 hi2 _ dl _ (JobAt.mk (F32.s 7 rfl) (F32.s 6 rfl) (F32.at 5 rfl : Afs lo hi _ ts)) (Nat.le_trans h2 F32.gb.size) (F32.s 4 rfl) (Nat.le_trans h3 F32.gb.size) HOK.out.1 HOK.out.2).mono ?_
   rintro e w34 ⟨opb, a1b, a2b, c1b, c2b, lob, hib, rfl, hlb, hob, hB35⟩
   have hB35s := hB35.gb.size
   (try simp at hB35s)
   replace F32 := F32.joinV (L2 := [rsl intEnc 1 lob hib (.slice a1b ts.length c1b) (bgL (caseOf false ms ts dl) ts.length), rsl intEnc 1 lob hib (.slice a2b ts.length c2b) (enL (caseOf false ms ts dl) ts.length)]) hB35 (lfm ⟨fun g hx => Nat.le_trans hlb hx.1, lfm ⟨fun g hx => Nat.le_trans hlb hx.1, fun _ h => by cases h⟩⟩)
   clear hB35
   (try dsimp only [List.cons_append, List.nil_append] at F32)
   have b37 := F32.bx5 2 rfl
   go_wp2_with fail
   clear b37
   refine (timesw_b lo hi _ _ ms ts lo2 hi2 _ dl _ (JobAt.mk (F32.s 9 rfl) (F32.s 8 rfl) (F32.at 7 rfl : Afs lo hi _ ts)) (Nat.le_trans h2 F32.gb.size) (F32.s 6 rfl) (Nat.le_trans h3 F32.gb.size) HOK.out.1 HOK.out.2).mono ?_
   rintro e w38 ⟨opw, a1w, a2w, c1w, c2w, low, hiw, rfl, hlw, how, hB39⟩
   have hB39s := hB39.gb.size
   (try simp at hB39s)
   replace F32 := F32.joinV (L2 := [rsl intEnc 1 low hiw (.slice a1w ts.length c1w) (bgL (caseOf true ms ts dl) ts.length), rsl intEnc 1 low hiw (.slice a2w ts.length c2w) (enL (caseOf true ms ts dl) ts.length)]) hB39 (lfm ⟨fun g hx => Nat.le_trans hlw hx.1, lfm ⟨fun g hx => Nat.le_trans hlw hx.1, fun _ h => by cases h⟩⟩)
   clear hB39
   (try dsimp only [List.cons_append, List.nil_append] at F32)
   have b41 := F32.bx2 7 rfl
   go_wp2_with fail
   clear b41
   replace F32 := F32.nilrow timEnc 47 4
   (skip)
   obtain ⟨HI43_, HI430⟩ : ∃ I : RelT, I = (fun t ds wr => ∃ (k : Nat) (vo : Value), t 4 = vo /\ t 5 = .pointer (some ⟨w.heap.size + 1, 0, none⟩) /\ t 10 = .slice a1b ts.length c1b /\ t 11 = .slice a2b ts.length c2b /\ t 12 = .int .i64 opb /\ t 13 = .slice a1w ts.length c1w /\ t 14 = .slice a2w ts.length c2w /\ t 15 = .int .i64 opw /\ t 46 = .int .i64 (ts.length : Int) /\ t 47 = .int .i64 (k : Int) /\ k <= ts.length /\ ds = [] /\ w38.heap.size <= wr.heap.size /\ Bun w [rown timEnc 47 4 w.heap.size vo (timN (caseOf false ms ts dl) (caseOf true ms ts dl) ts.length k), rsl intEnc 1 low hiw (.slice a1w ts.length c1w) (bgL (caseOf true ms ts dl) ts.length), rsl intEnc 1 low hiw (.slice a2w ts.length c2w) (enL (caseOf true ms ts dl) ts.length), rsl intEnc 1 lob hib (.slice a1b ts.length c1b) (bgL (caseOf false ms ts dl) ts.length), rsl intEnc 1 lob hib (.slice a2b ts.length c2b) (enL (caseOf false ms ts dl) ts.length), rbox (w.heap.size + 1) 32 #[.int .i64 0, .int .i64 0], rsl weaEnc 6 lo2 hi2 (.slice ad dl.length cd) dl, rafs lo hi ts, rsl tskEnc 8 lo hi (.slice aT ts.length cT) ts, rsl mchEnc 3 lo hi (.slice aM ms.length cM) ms] wr) := ⟨_, rfl⟩
   have HI43 := lhd HI430
   clear HI430
   refine wp_loopS 77 rfl HI43_ (fun t wr => ts.length - (intOf (t 47)).toNat) ?atStart1 ?round1
   case round1 =>
    intro t ds wr hHid
    rw [HI43.out] at hHid
    obtain ⟨k, vo, e4, e5, e10, e11, e12, e13, e14, e15, e46, e47, hrel⟩ := hHid
    have e : ((List.range 77).map t).toArray = #[t 0, t 1, t 2, t 3, t 4, t 5, t 6, t 7, t 8, t 9, t 10, t 11, t 12, t 13, t 14, t 15, t 16, t 17, t 18, t 19, t 20, t 21, t 22, t 23, t 24, t 25, t 26, t 27, t 28, t 29, t 30, t 31, t 32, t 33, t 34, t 35, t 36, t 37, t 38, t 39, t 40, t 41, t 42, t 43, t 44, t 45, t 46, t 47, t 48, t 49, t 50, t 51, t 52, t 53, t 54, t 55, t 56, t 57, t 58, t 59, t 60, t 61, t 62, t 63, t 64, t 65, t 66, t 67, t 68, t 69, t 70, t 71, t 72, t 73, t 74, t 75, t 76] := rfl
    (try dsimp only at e)
    rw [e4, e5, e10, e11, e12, e13, e14, e15, e46, e47] at e
    rw [e]
    simp only [e47]
    clear e e4 e5 e10 e11 e12 e13 e14 e15 e46 e47
    obtain ⟨hk, rfl, hs45, hF44⟩ := hrel
    clear F32
    obtain ⟨w46, rfl⟩ : ∃ x_ : World, x_ = wr := ⟨_, rfl⟩
    by_cases c47 : (k : Int) < (ts.length : Int)
    ·
     have c47H := lhd c47
     obtain ⟨x48, o49, e_⟩ := Sl.addr (hF44.s 3 rfl) (by rw [bgL_len]; omega)
     subst e_
     have hz50 : Hid ((bgL (caseOf false ms ts dl) ts.length)[k]? = some (bgAt ((caseOf false ms ts dl).plan ts.length) k)) := lhd (bgL_get _ (by omega))
     obtain ⟨x51, o52, e_⟩ := Sl.addr (hF44.s 4 rfl) (by rw [enL_len]; omega)
     subst e_
     have hz53 : Hid ((enL (caseOf false ms ts dl) ts.length)[k]? = some (enAt ((caseOf false ms ts dl).plan ts.length) k)) := lhd (enL_get _ (by omega))
     obtain ⟨x54, o55, e_⟩ := Sl.addr (hF44.s 1 rfl) (by rw [bgL_len]; omega)
     subst e_
     have hz56 : Hid ((bgL (caseOf true ms ts dl) ts.length)[k]? = some (bgAt ((caseOf true ms ts dl).plan ts.length) k)) := lhd (bgL_get _ (by omega))
     obtain ⟨x57, o58, e_⟩ := Sl.addr (hF44.s 2 rfl) (by rw [enL_len]; omega)
     subst e_
     have hz59 : Hid ((enL (caseOf true ms ts dl) ts.length)[k]? = some (enAt ((caseOf true ms ts dl).plan ts.length) k)) := lhd (enL_get _ (by omega))
     go_wp2_with fail
     have F60 := hF44.drew
     clear hF44
     refine ru_begin (fun W => W.cell? ⟨x48, o49 + k, none⟩ = some (.int .i64 (bgAt ((caseOf false ms ts dl).plan ts.length) k)) /\ W.cell? ⟨x54, o55 + k, none⟩ = some (.int .i64 (bgAt ((caseOf true ms ts dl).plan ts.length) k)) /\ W.cell? ⟨x51, o52 + k, none⟩ = some (.int .i64 (enAt ((caseOf false ms ts dl).plan ts.length) k)) /\ W.cell? ⟨x57, o58 + k, none⟩ = some (.int .i64 (enAt ((caseOf true ms ts dl).plan ts.length) k))) 22 (by kernel_rfl) ?_ ?_
     · exact ⟨(by have h_ := Sl.cells (F60.at 3 rfl) hz50.out 0 _ rfl; simpa using h_), (by have h_ := Sl.cells (F60.at 1 rfl) hz56.out 0 _ rfl; simpa using h_), (by have h_ := Sl.cells (F60.at 4 rfl) hz53.out 0 _ rfl; simpa using h_), (by have h_ := Sl.cells (F60.at 2 rfl) hz59.out 0 _ rfl; simpa using h_)⟩
     obtain ⟨wd62, hwd_⟩ : ∃ x : World, w46.drew = x := ⟨_, rfl⟩
     rw [hwd_] at F60 ⊢
     have wd62s : w46.heap.size <= wd62.heap.size := by rw [← hwd_]; exact Nat.le_refl _
     clear hwd_
     have hS61 := (And.intro ((by have h_ := Sl.cells (F60.at 3 rfl) hz50.out 0 _ rfl; simpa using h_)) (And.intro ((by have h_ := Sl.cells (F60.at 1 rfl) hz56.out 0 _ rfl; simpa using h_)) (And.intro ((by have h_ := Sl.cells (F60.at 4 rfl) hz53.out 0 _ rfl; simpa using h_)) ((by have h_ := Sl.cells (F60.at 2 rfl) hz59.out 0 _ rfl; simpa using h_)))))
     refine ru_t 0 [] ?_
     refine ru_t 1 [] ?_
     refine ru_t 2 [] ?_
     refine ru_t 3 [] ?_
     refine ru_t 4 [] ?_
     refine ru_t 5 [] ?_
     refine ru_t 6 [] ?_
     refine ru_t 7 [] ?_
     refine ru_t 8 [] ?_
     refine ru_t 9 [] ?_
     refine ru_t 10 [] ?_
     refine ru_t 11 [] ?_
     refine ru_t 12 [] ?_
     refine ru_t 13 [] ?_
     refine ru_t 14 [] ?_
     refine ru_t 15 [] ?_
     refine ru_t 16 [] ?_
     refine ru_t 17 [] ?_
     refine ru_t 18 [] ?_
     refine ru_t 19 [] ?_
     (try simp only [lpX])
     clear hS61
     refine ru_o 20 fun K hK => ?_
     go_simp
     replace F60 := F60.new 47 #[.int .i64 (bgAt ((caseOf false ms ts dl).plan ts.length) k), .int .i64 (bgAt ((caseOf true ms ts dl).plan ts.length) k), .int .i64 (enAt ((caseOf false ms ts dl).plan ts.length) k), .int .i64 (enAt ((caseOf true ms ts dl).plan ts.length) k)] (n := wd62.heap.size) (by simp)
     refine ru_back hK (by exact ⟨(by have h_ := Sl.cells (F60.at 4 rfl) hz50.out 0 _ rfl; simpa using h_), (by have h_ := Sl.cells (F60.at 2 rfl) hz56.out 0 _ rfl; simpa using h_), (by have h_ := Sl.cells (F60.at 5 rfl) hz53.out 0 _ rfl; simpa using h_), (by have h_ := Sl.cells (F60.at 3 rfl) hz59.out 0 _ rfl; simpa using h_)⟩) (fun _ => ?_)
     clear hK K
     (try simp only [lpX])
     refine ru_o 21 fun K hK => ?_
     refine step_app _ okTim rfl _ _ rfl w.heap.size vo (timN (caseOf false ms ts dl) (caseOf true ms ts dl) ts.length k) [timAt (caseOf false ms ts dl) (caseOf true ms ts dl) ts.length k] rfl (by exact (F60.o 1 rfl)) ⟨_, 0, none⟩ 1 1 rfl rfl (by decide) (news_of (F60.b 0 rfl)) (k + 1) (by rw [timN_len]) (by omega) (by first | omega | (simp; omega)) _ rfl ?_
     intro g64 cap65 w66 hp67
     have hp67s := hp67.gb.size
     (try simp at hp67s)
     have F68 := (F60.front 1 rfl rfl).app hp67 (Nat.le_refl _)
     clear F60
     refine ru_back hK (by exact ⟨(by have h_ := Sl.cells (F68.at 4 rfl) hz50.out 0 _ rfl; simpa using h_), (by have h_ := Sl.cells (F68.at 2 rfl) hz56.out 0 _ rfl; simpa using h_), (by have h_ := Sl.cells (F68.at 5 rfl) hz53.out 0 _ rfl; simpa using h_), (by have h_ := Sl.cells (F68.at 3 rfl) hz59.out 0 _ rfl; simpa using h_)⟩) (fun _ => ?_)
     clear hK K
     (try simp only [lpX])
     refine ru_o 22 fun K hK => ?_
     go_simp
     refine ru_back_late hK (by kernel_rfl) ?_
     clear hK K
     (try simp only [lpX])
     refine ru_done (by kernel_rfl) ?_
     have Fn_ := (F68.drop 1 rfl)
     (try dsimp only [lpF, lpG] at Fn_)
     obtain ⟨w69, hx70, F72, hxs71⟩ := Fn_.name
     (try simp at hxs71)
     rw [hx70]
     clear hx70 F68 Fn_
     go_wp2_with fail
     (first | refine ⟨by kernel_rfl, ?_, ?_⟩ | refine ⟨rfl, ?_, ?_⟩ | refine ⟨?_, ?_⟩)
     · rw [HI43.out]; exact ⟨k + 1, _, by (iterate 9 refine ⟨by kernel_rfl, ?_⟩); exact ⟨(by show Value.int .i64 ((k : Int) + 1) = _; simp), (by omega), (by first | rfl | simp), (by first | omega | (simp; done) | (simp; omega)), (by rw [timN_succ]; exact F72)⟩⟩
     · simp [slot, intOf]; omega
    have c47H := lhd c47
    have c47a := dec_f c47
    have b73 := hF44.bx2 5 rfl
    go_wp2_with fail
    clear b73
    have F74 := (hF44.front 5 rfl rfl).pt2 (.int .i64 opb) (.int .i64 opw)
    clear hF44
    have kb75 := F74.bx2 0 rfl
    go_wp2_with fail
    exact bodyPost_ret (v := .tuple #[vo, .agg #[.int .i64 opb, .int .i64 opw], .int .i64 0]) (by simp [results, Tryz.results10, go_sem, kb75]) rfl ((TimesR.yes c12H.out hob how (by have h_ := (F74.o 1 rfl); rwa [show k = ts.length by omega] at h_) F74.gb rfl))
   case atStart1 =>
    rw [HI43.out]
    exact ⟨0, _, rfl, by (iterate 8 refine ⟨by kernel_rfl, ?_⟩); exact ⟨rfl, Nat.zero_le _, rfl, (by first | exact Nat.le_refl _ | omega | (simp; done) | (simp; omega)), (((F32.drop 5 rfl).drop 5 rfl).drop 6 rfl)⟩⟩
 obtain ⟨c12a, c12b⟩ := bqf c12
 have c12H := lhd c12
 clear c12
 have b76 := F1.bx2 0 rfl
 go_wp2_with fail
 clear b76
 replace F1 := F1.pt2 (.int .i64 0) (.int .i64 0)
 have kb78 := F1.bx2 0 rfl
 go_wp2_with fail
 exact bodyPost_ret (v := .tuple #[.slice none 0 0, .agg #[.int .i64 0, .int .i64 0], .int .i64 (bothErr ms ts dl)]) (by simp [results, Tryz.results10, go_sem, kb78]) rfl ((TimesR.no c12H.out F1.gb rfl))
end Go.Proofs.YtcoldeolmleeiaaGreat
