/- build and its reference: on which days a machine works. -/
import Derived.Test.YtdgplekokdeafaaGreatPJ10
import Derived.Test.YtdgplekokdeafaaGreatPKW
set_option linter.unusedVariables false
set_option linter.unusedSimpArgs false
set_option linter.unnecessarySimpa false
namespace Go.Proofs.YtdgplekokdeafaaGreat
open Go.RowKit
set_option maxRecDepth 100000
attribute [local go_sem] Oper.semAt_some
def wksN (x : Mch) (dl : List Wea) (k : Nat) : List Int := (dl.take k).map (wkV x)
theorem wksN_succ {x : Mch} {dl : List Wea} {k : Nat} {z : Wea} (h : dl[k]? = some z) : wksN x dl (k + 1) = wksN x dl k ++ [wkV x z] := by rw [wksN, ← take_snoc h, List.map_append]; rfl
theorem wksN_len {x : Mch} {dl : List Wea} {k : Nat} (h : k <= dl.length) : (wksN x dl k).length = k := by simp [wksN, Nat.min_eq_left h]
def wksOf (x : Mch) (dl : List Wea) : List Int := if bothErr [x] [] dl = 0 then wksN x dl dl.length else []
def WorksR (x : Mch) (dl : List Wea) (w : World) : Ending -> World -> Prop := fun e w' => ∃ (a : Option Addr) (cp lo hi : Nat), e = .returned (.tuple #[.slice a (wksOf x dl).length cp, .int .i64 (bothErr [x] [] dl)]) ∧
 (w.heap.size <= lo /\ hi <= w'.heap.size) /\ Sl intEnc 1 lo hi w' (.slice a (wksOf x dl).length cp) (wksOf x dl) /\ w.grownBy w' none
theorem WorksR.yes {x : Mch} {dl : List Wea} {w w' : World} {e : Ending} {v : Value} (h : bothErr [x] [] dl = 0) (ho : Own intEnc 3 1 w.heap.size w' v (wksN x dl dl.length)) (hg : w.grownBy w' none) (he : e = .returned (.tuple #[v, .int .i64 0])) : WorksR x dl w e w' := by
 have e1 : wksOf x dl = wksN x dl dl.length := by rw [wksOf, if_pos h]
 obtain ⟨a, cp, rfl, hs⟩ := Own.slN ho (fun _ => rfl) rfl
 unfold WorksR
 rw [e1, h]
 exact ⟨a, cp, _, _, he, ⟨Nat.le_refl _, Nat.le_refl _⟩, hs, hg⟩
theorem WorksR.no {x : Mch} {dl : List Wea} {w w' : World} {e : Ending} (h : ¬ bothErr [x] [] dl = 0) (hg : w.grownBy w' none) (he : e = .returned (.tuple #[.slice none 0 0, .int .i64 (bothErr [x] [] dl)])) : WorksR x dl w e w' := by
 have e1 : wksOf x dl = [] := by rw [wksOf, if_neg h]
 unfold WorksR
 rw [e1]
 exact ⟨none, 0, w.heap.size, w.heap.size, he, ⟨Nat.le_refl _, hg.size⟩, Sl.of_nil _ _, hg⟩
theorem job1 {w : World} {g : Nat} {t : TypeId} {x : Mch} (c : Nat) (h : Bk w g t #[.int .i64 x.mild, .int .i64 x.hard, .int .i64 x.shift]) : JobAt g (g + 1) w (.slice (some ⟨g, 0, none⟩) 1 c) (.slice none 0 0) [x] [] :=
 ⟨Bk.sl mchEnc 3 [x] c 1 h (fun _ => rfl) rfl rfl (by omega), Sl.of_nil _ _, fun _ h => by cases h⟩
set_option maxHeartbeats 8000000 in
theorem rbworks_c (x : Mch) (lo2 hi2 : Nat) (vd : Value) (dl : List Wea) (w : World) (hd : Sl weaEnc 6 lo2 hi2 w vd dl) (h3 : hi2 <= w.heap.size) :
  Calls Tryz.prog 44 #[.agg #[.int .i64 x.mild, .int .i64 x.hard, .int .i64 x.shift], vd] w (WorksR x dl w) := by
 have F1 : Bun w [] w := Bun.nil _
 have hm_ds := hd.len
 unfold maxLen at hm_ds
 obtain ⟨ad, cd, rfl⟩ := hd.any
 replace F1 := F1.sl0 hd h3 rfl
 clear hd
 go_enter Tryz.func44, Tryz.ntmps44
 go_wp2_with fail
 replace F1 := F1.new 94 #[.int .i64 x.mild, .int .i64 x.hard, .int .i64 x.shift] (n := w.heap.size) (by simp)
 replace F1 := F1.new 94 #[.int .i64 x.mild, .int .i64 x.hard, .int .i64 x.shift] (n := (w.heap.size + 1)) (by simp)
 refine (rboth_c _ _ _ _ [x] [] lo2 hi2 _ dl _ (job1 1 (F1.b 0 rfl)) (Bk.lt (F1.b 0 rfl)) (F1.s 2 rfl) (Nat.le_trans h3 F1.gb.size)).mono ?_
 rintro e w7 ⟨rfl, hg5⟩
 have hg5s := hg5.size
 (try simp at hg5s)
 replace F1 := F1.gn hg5
 clear hg5
 by_cases c9 : bothErr [x] [] dl = 0
 ·
  obtain ⟨c9a, c9b⟩ := bqt c9
  have c9H := lhd c9
  clear c9
  have hdn := (bothOk c9H.out).2
  go_wp2_with fail
  replace F1 := F1.nilrow intEnc 3 1
  (skip)
  obtain ⟨HI11_, HI110⟩ : ∃ I : RelT, I = (fun t ds wr => ∃ (k : Nat) (vo : Value), t 1 = .slice ad dl.length cd /\ t 2 = .pointer (some ⟨w.heap.size, 0, none⟩) /\ t 7 = vo /\ t 8 = .int .i64 (k : Int) /\ k <= dl.length /\ ds = [] /\ w7.heap.size <= wr.heap.size /\ Bun w [rown intEnc 3 1 w.heap.size vo (wksN x dl k), rbox w.heap.size 94 #[.int .i64 x.mild, .int .i64 x.hard, .int .i64 x.shift], rsl weaEnc 6 lo2 hi2 (.slice ad dl.length cd) dl] wr) := ⟨_, rfl⟩
  have HI11 := lhd HI110
  clear HI110
  refine wp_loopS 33 rfl HI11_ (fun t wr => dl.length - (intOf (t 8)).toNat) ?atStart1 ?round1
  case round1 =>
   intro t ds wr hHid
   rw [HI11.out] at hHid
   obtain ⟨k, vo, e1, e2, e7, e8, hrel⟩ := hHid
   have e : ((List.range 33).map t).toArray = #[t 0, t 1, t 2, t 3, t 4, t 5, t 6, t 7, t 8, t 9, t 10, t 11, t 12, t 13, t 14, t 15, t 16, t 17, t 18, t 19, t 20, t 21, t 22, t 23, t 24, t 25, t 26, t 27, t 28, t 29, t 30, t 31, t 32] := rfl
   (try dsimp only at e)
   rw [e1, e2, e7, e8] at e
   rw [e]
   simp only [e8]
   clear e e1 e2 e7 e8
   obtain ⟨hk, rfl, hs13, hF12⟩ := hrel
   clear F1
   obtain ⟨w14, rfl⟩ : ∃ x_ : World, x_ = wr := ⟨_, rfl⟩
   by_cases c15 : (k : Int) < (dl.length : Int)
   ·
    have c15H := lhd c15
    obtain ⟨x16, o17, e_⟩ := Sl.addr (hF12.s 2 rfl) (by omega)
    subst e_
    obtain ⟨z, hz18_⟩ : ∃ z_, dl[k]? = some z_ := ⟨_, List.getElem?_eq_getElem (by omega)⟩
    have hz18 := lhd hz18_
    clear hz18_
    go_wp2_with fail
    have F19 := hF12.drew
    clear hF12
    refine ru_begin (fun W => C3 W w.heap.size (.int .i64 x.mild) (.int .i64 x.hard) (.int .i64 x.shift) /\ W.cell? ⟨x16, o17 + k * 6, none⟩ = some (.int .i64 z.cold.lo) /\ W.cell? ⟨x16, o17 + k * 6 + 1, none⟩ = some (.int .i64 z.cold.hi) /\ W.cell? ⟨x16, o17 + k * 6 + 2, none⟩ = some (.int .i64 z.fall.lo) /\ W.cell? ⟨x16, o17 + k * 6 + 3, none⟩ = some (.int .i64 z.fall.hi) /\ W.cell? ⟨x16, o17 + k * 6 + 4, none⟩ = some (.int .i64 z.water) /\ W.cell? ⟨x16, o17 + k * 6 + 5, none⟩ = some (.bool z.clear)) 9 (by kernel_rfl) ?_ ?_
    · exact ⟨F19.c3 1, (Sl.cells (F19.at 2 rfl) hz18.out 0 _ rfl), (Sl.cells (F19.at 2 rfl) hz18.out 1 _ rfl), (Sl.cells (F19.at 2 rfl) hz18.out 2 _ rfl), (Sl.cells (F19.at 2 rfl) hz18.out 3 _ rfl), (Sl.cells (F19.at 2 rfl) hz18.out 4 _ rfl), (Sl.cells (F19.at 2 rfl) hz18.out 5 _ rfl)⟩
    obtain ⟨wd21, hwd_⟩ : ∃ x : World, w14.drew = x := ⟨_, rfl⟩
    rw [hwd_] at F19 ⊢
    have wd21s : w14.heap.size <= wd21.heap.size := by rw [← hwd_]; exact Nat.le_refl _
    clear hwd_
    have hS20 := (And.intro (F19.c3 1) (And.intro ((Sl.cells (F19.at 2 rfl) hz18.out 0 _ rfl)) (And.intro ((Sl.cells (F19.at 2 rfl) hz18.out 1 _ rfl)) (And.intro ((Sl.cells (F19.at 2 rfl) hz18.out 2 _ rfl)) (And.intro ((Sl.cells (F19.at 2 rfl) hz18.out 3 _ rfl)) (And.intro ((Sl.cells (F19.at 2 rfl) hz18.out 4 _ rfl)) ((Sl.cells (F19.at 2 rfl) hz18.out 5 _ rfl))))))))
    refine ru_t 0 [] ?_
    refine ru_t 1 [] ?_
    refine ru_t 2 [] ?_
    refine ru_t 3 [] ?_
    refine ru_t 4 [] ?_
    refine ru_t 5 [] ?_
    (try simp only [lpX])
    clear hS20
    refine ru_o 6 fun K hK => ?_
    go_simp
    refine (rworks_c x z _).mono ?_
    rintro e w24 ⟨rfl, hg22⟩
    have hg22s := hg22.size
    (try simp at hg22s)
    replace F19 := F19.gn hg22
    refine ru_back hK (by exact ⟨F19.c3 1, (Sl.cells (F19.at 2 rfl) hz18.out 0 _ rfl), (Sl.cells (F19.at 2 rfl) hz18.out 1 _ rfl), (Sl.cells (F19.at 2 rfl) hz18.out 2 _ rfl), (Sl.cells (F19.at 2 rfl) hz18.out 3 _ rfl), (Sl.cells (F19.at 2 rfl) hz18.out 4 _ rfl), (Sl.cells (F19.at 2 rfl) hz18.out 5 _ rfl)⟩) (fun _ => ?_)
    clear hK K
    (try simp only [lpX])
    refine ru_o 7 fun K hK => ?_
    go_simp
    replace F19 := F19.new 3 #[.int .i64 (wkV x z)] (n := w24.heap.size) (by simp)
    refine ru_back hK (by exact ⟨F19.c3 2, (Sl.cells (F19.at 3 rfl) hz18.out 0 _ rfl), (Sl.cells (F19.at 3 rfl) hz18.out 1 _ rfl), (Sl.cells (F19.at 3 rfl) hz18.out 2 _ rfl), (Sl.cells (F19.at 3 rfl) hz18.out 3 _ rfl), (Sl.cells (F19.at 3 rfl) hz18.out 4 _ rfl), (Sl.cells (F19.at 3 rfl) hz18.out 5 _ rfl)⟩) (fun _ => ?_)
    clear hK K
    (try simp only [lpX])
    refine ru_o 8 fun K hK => ?_
    refine step_app _ okInt rfl _ _ rfl w.heap.size vo (wksN x dl k) [wkV x z] rfl (by exact (F19.o 1 rfl)) ⟨_, 0, none⟩ 1 1 rfl rfl (by decide) (news_of (F19.b 0 rfl)) (k + 1) (by simp [wksN_len (show k <= dl.length by omega)]) (by omega) (by first | omega | (simp; omega)) _ rfl ?_
    intro g27 cap28 w29 hp30
    have hp30s := hp30.gb.size
    (try simp at hp30s)
    have F31 := (F19.front 1 rfl rfl).app hp30 (Nat.le_refl _)
    clear F19
    refine ru_back hK (by exact ⟨F31.c3 2, (Sl.cells (F31.at 3 rfl) hz18.out 0 _ rfl), (Sl.cells (F31.at 3 rfl) hz18.out 1 _ rfl), (Sl.cells (F31.at 3 rfl) hz18.out 2 _ rfl), (Sl.cells (F31.at 3 rfl) hz18.out 3 _ rfl), (Sl.cells (F31.at 3 rfl) hz18.out 4 _ rfl), (Sl.cells (F31.at 3 rfl) hz18.out 5 _ rfl)⟩) (fun _ => ?_)
    clear hK K
    (try simp only [lpX])
    refine ru_o 9 fun K hK => ?_
    go_simp
    refine ru_back_late hK (by kernel_rfl) ?_
    clear hK K
    (try simp only [lpX])
    refine ru_done (by kernel_rfl) ?_
    have Fn_ := (F31.drop 1 rfl)
    (try dsimp only [lpF, lpG] at Fn_)
    obtain ⟨w32, hx33, F35, hxs34⟩ := Fn_.name
    (try simp at hxs34)
    rw [hx33]
    clear hx33 F31 Fn_
    go_wp2_with fail
    (first | refine ⟨rfl, ?_, ?_⟩ | refine ⟨?_, ?_⟩)
    · rw [HI11.out]; exact ⟨k + 1, _, rfl, rfl, rfl, (by show Value.int .i64 ((k : Int) + 1) = _; simp), (by omega), (by first | rfl | simp), (by first | omega | (simp; done) | (simp; omega)), (by rw [wksN_succ hz18.out]; exact F35)⟩
    · simp [slot, intOf]; omega
   have c15H := lhd c15
   have c15a := dec_f c15
   go_wp2_with fail
   exact bodyPost_ret (v := .tuple #[vo, .int .i64 0]) (by simp [results, Tryz.results44, go_sem]) rfl ((WorksR.yes c9H.out (by have h_ := (hF12.o 0 rfl); rwa [show k = dl.length by omega] at h_) hF12.gb rfl))
  case atStart1 =>
   rw [HI11.out]
   exact ⟨0, _, rfl, rfl, rfl, rfl, Nat.zero_le _, rfl, (by first | exact Nat.le_refl _ | omega | (simp; done) | (simp; omega)), (F1.drop 1 rfl)⟩
 obtain ⟨c9a, c9b⟩ := bqf c9
 have c9H := lhd c9
 clear c9
 go_wp2_with fail
 exact bodyPost_ret (v := .tuple #[.slice none 0 0, .int .i64 (bothErr [x] [] dl)]) (by simp [results, Tryz.results44, go_sem]) rfl ((WorksR.no c9H.out F1.gb rfl))
end Go.Proofs.YtdgplekokdeafaaGreat
