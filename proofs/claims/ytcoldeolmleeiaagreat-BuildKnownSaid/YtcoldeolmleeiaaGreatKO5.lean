/- build: the best order. -/
import Derived.Test.YtcoldeolmleeiaaGreatKO4
set_option linter.unusedVariables false
set_option linter.unusedSimpArgs false
set_option linter.unnecessarySimpa false
namespace Go.Proofs.YtcoldeolmleeiaaGreat
open Go.RowKit
set_option maxRecDepth 100000
attribute [local go_sem] Oper.semAt_some
attribute [local go_sem] run_store_fn
theorem tryP_all (b0 lo hi lo2 hi2 gf go gq gj gd gt : Nat) (aM aT ad : Option Addr) (cM cT cd : Nat) (ms : List Mch) (ts : List Tsk) (dl : List Wea) (hok : JobOk ms ts) (hn : dl.length <= 400) : ∀ f : Nat, TryP b0 lo hi lo2 hi2 gf go gq gj gd gt aM aT ad cM cT cd ms ts dl f
 | 0 => fun w0 w LR s now lon hin vn ov hB hb0 hop hln => best1_leaf w0 b0 lo hi lo2 hi2 gf go gq gj gd gt aM aT ad cM cT cd ms ts dl LR s now lon hin vn ov w hB hb0 hop hok hn (by omega)
 | f + 1 => fun w0 w LR s now lon hin vn ov hB hb0 hop hln => best1_in w0 b0 lo hi lo2 hi2 gf go gq gj gd gt aM aT ad cM cT cd ms ts dl LR s now lon hin vn ov f w hB hb0 hop hok hn (tryP_all b0 lo hi lo2 hi2 gf go gq gj gd gt aM aT ad cM cT cd ms ts dl hok hn f) (by omega)
theorem Bun.nilSl {w0 A : World} {L : List Res} (h : Bun w0 L A) : Bun w0 (rsl intEnc 1 A.heap.size A.heap.size (.slice none 0 0) ([] : List Int) :: L) A :=
 h.add (rsl intEnc 1 A.heap.size A.heap.size (.slice none 0 0) ([] : List Int)) (gb_refl _ _) ((Own.nil intEnc 3 1 A.heap.size A).sl (fun _ => rfl)) fun g e => by
  have h2 : A.heap.size <= g /\ g < A.heap.size := e
  omega
def bstE (ms : List Mch) (ts : List Tsk) (dl : List Wea) : Int := if ¬ bothErr ms ts dl = 0 then bothErr ms ts dl else if 6 < ts.length then 8 else 0
def bstO (ms : List Mch) (ts : List Tsk) (dl : List Wea) : List Nat := if bstE ms ts dl = 0 then (bestS ms ts dl).order else []
def bstH (ms : List Mch) (ts : List Tsk) (dl : List Wea) : Int := if bstE ms ts dl = 0 then (bestS ms ts dl).open_ else 0
def BestR (ms : List Mch) (ts : List Tsk) (dl : List Wea) (w : World) : Ending -> World -> Prop := fun e w' => ∃ (a : Option Addr) (cp lo hi : Nat), e = .returned (.tuple #[.slice a (bstO ms ts dl).length cp, .int .i64 (bstH ms ts dl), .int .i64 (bstE ms ts dl)]) ∧
 ((w.heap.size <= lo /\ hi <= w'.heap.size) /\ (bstO ms ts dl).length <= cp) /\ Sl intEnc 1 lo hi w' (.slice a (bstO ms ts dl).length cp) (ints (bstO ms ts dl)) /\ w.grownBy w' none
theorem BestR.yes {ms : List Mch} {ts : List Tsk} {dl : List Wea} {w w' : World} {e : Ending} {v : Value} {s : BS} (h : bothErr ms ts dl = 0) (h6 : ¬ 6 < ts.length) (hs : bestS ms ts dl = s) (ho : Own intEnc 3 1 w.heap.size w' v (ints s.order)) (hg : w.grownBy w' none)
  (he : e = .returned (.tuple #[v, .int .i64 s.open_, .int .i64 0])) : BestR ms ts dl w e w' := by
 subst hs
 have e0 : bstE ms ts dl = 0 := by unfold bstE; rw [if_neg (not_not_intro h), if_neg h6]
 have e1 : bstO ms ts dl = (bestS ms ts dl).order := by rw [bstO, if_pos e0]
 have e2 : bstH ms ts dl = (bestS ms ts dl).open_ := by rw [bstH, if_pos e0]
 have hcp := own_cap ho
 obtain ⟨a, cp, rfl, hs⟩ := Own.slN ho (fun _ => rfl) (ints_len _)
 unfold BestR
 rw [e1, e2, e0]
 exact ⟨a, cp, _, _, he, ⟨⟨Nat.le_refl _, Nat.le_refl _⟩, hcp⟩, hs, hg⟩
theorem BestR.no {ms : List Mch} {ts : List Tsk} {dl : List Wea} {w w' : World} {e : Ending} {x : Int} (h : bstE ms ts dl = x) (hx : ¬ x = 0) (hg : w.grownBy w' none) (he : e = .returned (.tuple #[.slice none 0 0, .int .i64 0, .int .i64 x])) : BestR ms ts dl w e w' := by
 subst h
 have e1 : bstO ms ts dl = [] := by rw [bstO, if_neg hx]
 have e2 : bstH ms ts dl = 0 := by rw [bstH, if_neg hx]
 unfold BestR
 rw [e1, e2]
 exact ⟨none, 0, w.heap.size, w.heap.size, he, ⟨⟨Nat.le_refl _, hg.size⟩, Nat.le_refl _⟩, Sl.of_nil _ _, hg⟩
set_option maxHeartbeats 16000000 in
theorem best_c (lo hi : Nat) (vm vt : Value) (ms : List Mch) (ts : List Tsk) (lo2 hi2 : Nat) (vd : Value) (dl : List Wea) (w : World) (hj : JobAt lo hi w vm vt ms ts) (h2 : hi <= w.heap.size) (hd : Sl weaEnc 6 lo2 hi2 w vd dl) (h3 : hi2 <= w.heap.size) :
  Calls Tryz.prog 25 #[.agg #[vm, vt], vd] w (BestR ms ts dl w) := by
 have F1 : Bun w [] w := Bun.nil _
 obtain ⟨hms, hts, haf⟩ := hj
 have hm_ms := hms.len
 unfold maxLen at hm_ms
 obtain ⟨aM, cM, rfl⟩ := hms.any
 replace F1 := F1.sl0 hms h2 rfl
 clear hms
 have hm_ts := hts.len
 unfold maxLen at hm_ts
 obtain ⟨aT, cT, rfl⟩ := hts.any
 replace F1 := F1.sl0 hts h2 rfl
 clear hts
 replace F1 := F1.non0 (rafs lo hi ts) haf (fun _ h_ => Nat.lt_of_lt_of_le h_.2 h2) rfl rfl
 clear haf
 have hm_ds := hd.len
 unfold maxLen at hm_ds
 obtain ⟨ad, cd, rfl⟩ := hd.any
 replace F1 := F1.sl0 hd h3 rfl
 clear hd
 go_enter Tryz.func25, Tryz.ntmps25
 go_wp2_with fail
 replace F1 := F1.new 25 #[.slice aM ms.length cM, .slice aT ts.length cT] (n := w.heap.size) (by simp)
 replace F1 := F1.new 40 #[.slice ad dl.length cd] (n := (w.heap.size + 1)) (by simp)
 replace F1 := F1.new 28 #[.slice none 0 0] (n := (w.heap.size + 2)) (by simp)
 replace F1 := F1.new 3 #[.int .i64 0] (n := (w.heap.size + 3)) (by simp)
 refine (bcheckAll_c lo hi _ _ ms ts lo2 hi2 _ dl _ (JobAt.mk (F1.s 7 rfl) (F1.s 6 rfl) (F1.at 5 rfl : Afs lo hi _ ts)) (Nat.le_trans h2 F1.gb.size) (F1.s 4 rfl) (Nat.le_trans h3 F1.gb.size)).mono ?_
 rintro e w12 ⟨rfl, hg10⟩
 have hg10s := hg10.size
 (try simp at hg10s)
 replace F1 := F1.gn hg10
 clear hg10
 by_cases c14 : bothErr ms ts dl = 0
 ·
  obtain ⟨c14a, c14b⟩ := bqt c14
  have c14H := lhd c14
  clear c14
  have HOK := lhd (bothOk c14H.out)
  have hnt := HOK.out.1.nt
  by_cases c15 : 6 < (ts.length : Int)
  ·
   have c15H := lhd c15
   have b16 := F1.bx1 0 rfl
   have b17 := F1.bx1 1 rfl
   have b18 := F1.bx2 3 rfl
   go_wp2_with fail
   clear b16 b17 b18
   have F19 := ((F1.front 1 rfl rfl).set 0 (.slice none 0 0)).nf #[.slice none 0 0] rfl
   clear F1
   have F20 := ((F19.front 1 rfl rfl).set 0 (.int .i64 0)).nf #[.int .i64 0] rfl
   clear F19
   have kb21 := F20.bx1 1 rfl
   have kb22 := F20.bx1 0 rfl
   go_wp2_with fail
   exact bodyPost_ret (v := .tuple #[.slice none 0 0, .int .i64 0, .int .i64 8]) (by simp [results, Tryz.results25, go_sem, kb21, kb22]) rfl ((BestR.no (show bstE ms ts dl = 8 by unfold bstE; rw [if_neg (not_not_intro c14H.out), if_pos (by omega)]) (by decide) F20.gb rfl))
  have c15H := lhd c15
  have c15a := dec_f c15
  have b23 := F1.bx2 3 rfl
  go_wp2_with fail
  clear b23
  replace F1 := F1.new 4 #[.bool false] (n := w12.heap.size) (by simp)
  replace F1 := F1.new 112 #[.func (.func 54) #[] #[.pointer (some ⟨w.heap.size, 0, none⟩), .pointer (some ⟨w.heap.size + 1, 0, none⟩), .pointer (some ⟨w12.heap.size, 0, none⟩), .pointer (some ⟨w.heap.size + 3, 0, none⟩), .pointer (some ⟨w.heap.size + 2, 0, none⟩), .pointer (some ⟨w12.heap.size + 1, 0, none⟩)]] (n := (w12.heap.size + 1)) (by simp)
  have Fn_ := F1
  (try dsimp only [lpF, lpG] at Fn_)
  obtain ⟨w26, hx27, F29, hxs28⟩ := Fn_.name
  (try simp at hxs28)
  rw [hx27]
  clear hx27 F1 Fn_
  have F30 := (F29.nilrow intEnc 3 1)
  clear F29
  replace F30 := F30.nilSl
  have F32 : Bun w [rbox w12.heap.size 4 #[.bool false], rbox (w.heap.size + 3) 3 #[.int .i64 0], rbox (w.heap.size + 2) 28 #[.slice none 0 0], rown intEnc 3 1 w.heap.size (.slice none 0 0) [], rbox w.heap.size 25 #[.slice aM ms.length cM, .slice aT ts.length cT], rbox (w.heap.size + 1) 40 #[.slice ad dl.length cd], rbox (w12.heap.size + 1) 112 #[.func (.func 54) #[] #[.pointer (some ⟨w.heap.size, 0, none⟩), .pointer (some ⟨w.heap.size + 1, 0, none⟩), .pointer (some ⟨w12.heap.size, 0, none⟩), .pointer (some ⟨w.heap.size + 3, 0, none⟩), .pointer (some ⟨w.heap.size + 2, 0, none⟩), .pointer (some ⟨w12.heap.size + 1, 0, none⟩)]], rsl intEnc 1 w26.heap.size w26.heap.size (.slice none 0 0) [], rsl weaEnc 6 lo2 hi2 (.slice ad dl.length cd) dl, rafs lo hi ts, rsl tskEnc 8 lo hi (.slice aT ts.length cT) ts, rsl mchEnc 3 lo hi (.slice aM ms.length cM) ms] _ := F30.pick [3, 4, 5, 1, 7, 6, 2, 0, 8, 9, 10, 11] (by decide) rfl
  clear F30
  refine (tryP_all w.heap.size lo hi lo2 hi2 w12.heap.size (w.heap.size + 3) (w.heap.size + 2) w.heap.size (w.heap.size + 1) (w12.heap.size + 1) aM aT ad cM cT cd ms ts dl HOK.out.1 HOK.out.2 ts.length w _ [] ⟨false, [], 0⟩ [] _ _ _ _ (Bun.hide (K := [rbox w12.heap.size 4 #[.bool false], rbox (w.heap.size + 3) 3 #[.int .i64 0], rbox (w.heap.size + 2) 28 #[.slice none 0 0], rown intEnc 3 1 w.heap.size (.slice none 0 0) [], rbox w.heap.size 25 #[.slice aM ms.length cM, .slice aT ts.length cT], rbox (w.heap.size + 1) 40 #[.slice ad dl.length cd], rbox (w12.heap.size + 1) 112 #[.func (.func 54) #[] #[.pointer (some ⟨w.heap.size, 0, none⟩), .pointer (some ⟨w.heap.size + 1, 0, none⟩), .pointer (some ⟨w12.heap.size, 0, none⟩), .pointer (some ⟨w.heap.size + 3, 0, none⟩), .pointer (some ⟨w.heap.size + 2, 0, none⟩), .pointer (some ⟨w12.heap.size + 1, 0, none⟩)]], rsl intEnc 1 w26.heap.size w26.heap.size (.slice none 0 0) [], rsl weaEnc 6 lo2 hi2 (.slice ad dl.length cd) dl, rafs lo hi ts, rsl tskEnc 8 lo hi (.slice aT ts.length cT) ts, rsl mchEnc 3 lo hi (.slice aM ms.length cM) ms]) (l := []) F32) (Nat.le_refl _) (OrdP.nil ts) (by simp)).mono ?_
  rintro e w33 ⟨ov2, rfl, Fr_, hsz_⟩
  obtain ⟨s2, hs2⟩ : ∃ s_, tryS ms ts dl (ords ts ts.length []) ⟨false, [], 0⟩ = s_ := ⟨_, rfl⟩
  rw [hs2] at Fr_
  have HBS : Hid (bestS ms ts dl = s2) := lhd hs2
  have F34 : Bun w [rbox w12.heap.size 4 #[.bool s2.found], rbox (w.heap.size + 3) 3 #[.int .i64 s2.open_], rbox (w.heap.size + 2) 28 #[ov2], rown intEnc 3 1 w.heap.size ov2 (ints s2.order), rbox w.heap.size 25 #[.slice aM ms.length cM, .slice aT ts.length cT], rbox (w.heap.size + 1) 40 #[.slice ad dl.length cd], rbox (w12.heap.size + 1) 112 #[.func (.func 54) #[] #[.pointer (some ⟨w.heap.size, 0, none⟩), .pointer (some ⟨w.heap.size + 1, 0, none⟩), .pointer (some ⟨w12.heap.size, 0, none⟩), .pointer (some ⟨w.heap.size + 3, 0, none⟩), .pointer (some ⟨w.heap.size + 2, 0, none⟩), .pointer (some ⟨w12.heap.size + 1, 0, none⟩)]], rsl intEnc 1 w26.heap.size w26.heap.size (.slice none 0 0) [], rsl weaEnc 6 lo2 hi2 (.slice ad dl.length cd) dl, rafs lo hi ts, rsl tskEnc 8 lo hi (.slice aT ts.length cT) ts, rsl mchEnc 3 lo hi (.slice aM ms.length cM) ms] w33 := Fr_.pick [0, 1, 2, 3, 4, 5, 6, 7, 8, 9, 10, 11] (by decide) rfl
  have hwsF34 := F34.gb.size
  clear hs2 hsz_ Fr_ F32
  obtain ⟨oa_, oc_, e_⟩ := (Own.sl (F34.o 3 rfl) (fun _ => rfl)).any
  subst e_
  go_wp2_with fail
  replace F34 := F34.drew
  refine ru_begin (fun W => W.cell? ⟨(w.heap.size + 3), 0, none⟩ = some (.int .i64 s2.open_)) 3 (by kernel_rfl) ?_ ?_
  · exact F34.q 1 0
  obtain ⟨wd37, hwd_⟩ : ∃ x : World, w33.drew = x := ⟨_, rfl⟩
  rw [hwd_] at F34 ⊢
  have wd37s : w33.heap.size <= wd37.heap.size := by rw [← hwd_]; exact Nat.le_refl _
  clear hwd_
  have hS36 := (F34.q 1 0)
  refine ru_t 1 [] ?_
  (try simp only [lpX])
  clear hS36
  refine ru_o 0 fun K hK => ?_
  have kq0_ : World.cell? _ ⟨(w.heap.size + 2), 0, none⟩ = some (.slice oa_ (ints s2.order).length oc_) := F34.q 2 0
  go_simp
  clear kq0_
  refine ru_back hK (by exact F34.q 1 0) (fun _ => ?_)
  clear hK K
  (try simp only [lpX])
  refine ru_o 2 fun K hK => ?_
  have kb_ := F34.bx1 2 rfl
  go_simp
  clear kb_
  have F38 := ((F34.front 2 rfl rfl).set 0 (.slice oa_ ((ints s2.order).length) oc_)).nf #[.slice oa_ ((ints s2.order).length) oc_] rfl
  clear F34
  refine ru_back hK (by exact F38.q 2 0) (fun _ => ?_)
  clear hK K
  (try simp only [lpX])
  refine ru_o 3 fun K hK => ?_
  have kb_ := F38.bx1 2 rfl
  go_simp
  clear kb_
  have F39 := ((F38.front 2 rfl rfl).set 0 (.int .i64 s2.open_)).nf #[.int .i64 s2.open_] rfl
  clear F38
  refine ru_back_late hK (by kernel_rfl) ?_
  clear hK K
  (try simp only [lpX])
  refine ru_o 4 fun K hK => ?_
  go_simp
  refine ru_back_late hK (by kernel_rfl) ?_
  clear hK K
  (try simp only [lpX])
  refine ru_done (by kernel_rfl) ?_
  have Fn_ := ((((F39.drop 2 rfl).drop 3 rfl).drop 3 rfl).drop 3 rfl)
  (try dsimp only [lpF, lpG] at Fn_)
  obtain ⟨w40, hx41, F43, hxs42⟩ := Fn_.name
  (try simp at hxs42)
  rw [hx41]
  clear hx41 F39 Fn_
  go_wp2_with fail
  have kb44 := F43.bx1 1 rfl
  have kb45 := F43.bx1 0 rfl
  go_wp2_with fail
  exact bodyPost_ret (v := .tuple #[.slice oa_ ((ints s2.order).length) oc_, .int .i64 s2.open_, .int .i64 0]) (by simp [results, Tryz.results25, go_sem, kb44, kb45]) rfl ((BestR.yes c14H.out (by omega) HBS.out (F43.o 2 rfl) F43.gb rfl))
 obtain ⟨c14a, c14b⟩ := bqf c14
 have c14H := lhd c14
 clear c14
 have b46 := F1.bx1 0 rfl
 have b47 := F1.bx1 1 rfl
 go_wp2_with fail
 clear b46 b47
 have F48 := ((F1.front 1 rfl rfl).set 0 (.slice none 0 0)).nf #[.slice none 0 0] rfl
 clear F1
 have F49 := ((F48.front 1 rfl rfl).set 0 (.int .i64 0)).nf #[.int .i64 0] rfl
 clear F48
 have kb50 := F49.bx1 1 rfl
 have kb51 := F49.bx1 0 rfl
 go_wp2_with fail
 exact bodyPost_ret (v := .tuple #[.slice none 0 0, .int .i64 0, .int .i64 (bothErr ms ts dl)]) (by simp [results, Tryz.results25, go_sem, kb50, kb51]) rfl ((BestR.no (show bstE ms ts dl = bothErr ms ts dl by unfold bstE; rw [if_pos c14H.out]) c14H.out F49.gb rfl))
end Go.Proofs.YtcoldeolmleeiaaGreat
