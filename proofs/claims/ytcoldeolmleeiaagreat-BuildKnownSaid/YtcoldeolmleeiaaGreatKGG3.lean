/- build: the map from tasks to where they stand, as a resource. -/
import Derived.Test.YtcoldeolmleeiaaGreatKKN
import Derived.Test.YtcoldeolmleeiaaGreatKGG2
import Derived.Test.YtcoldeolmleeiaaGreatKJ10
import Derived.Test.YtcoldeolmleeiaaGreatKKW
set_option linter.unusedVariables false
set_option linter.unusedSimpArgs false
set_option linter.unnecessarySimpa false
namespace Go.Proofs.YtcoldeolmleeiaaGreat
open Go.RowKit Go.Maps Go.WideMaps
set_option maxRecDepth 100000
def atR (v : Value) : Option (DataW Unit × List MemPlace) := match v with
 | .int .i64 a => some (.lit (.int .i64 a), [])
 | _ => none
theorem atR_mk (a : Int) : atR (.int .i64 a) = some (.lit (.int .i64 a), []) := rfl
theorem atR_inv {v : Value} {a : Int} {ps : List MemPlace} (h : atR v = some (.lit (.int .i64 a), ps)) : v = .int .i64 a := by
 unfold atR at h
 split at h
 ·
  injection h with h
  injection h with h1 h2
  injection h1 with h1
  injection h1 with _ h1
  rw [h1]
 · cases h
def AtMap (w : World) (b k : Nat) (f : Int -> Option Int) : Prop :=
 ∃ D : DataW Unit, w.ownsMap Tryz.prog 3 atR b k D ∧
  ∀ x : Int, (Lit.int .i64 x).wf = true -> Maps.has D (.int .i64 x) = (f x).isSome /\ ∀ p, f x = some p -> ∀ z, D.atKey (.int .i64 x) z = .lit (.int .i64 p)
section
variable {w w' : World} {b k : Nat} {f : Int -> Option Int}
theorem AtMap.lt (h : AtMap w b k f) : b < w.heap.size := by obtain ⟨D, h, _⟩ := h; exact World.ownsMap.lt h
theorem AtMap.gb {r : Option Nat} (h : AtMap w b k f) (hg : w.grownBy w' r) (hr : some b ≠ r) : AtMap w' b k f := by
 obtain ⟨D, h, h1⟩ := h
 exact ⟨D, World.ownsMap.kept h hg hr, h1⟩
theorem AtMap.made (w : World) (hf : ∀ x, f x = none) : AtMap (w.alloc (.map #[] 0)) w.heap.size 0 f := by
 refine ⟨.map [], World.ownsMap_made _ _ _ _, fun x _ => ?_⟩
 rw [hf x]
 exact ⟨rfl, fun p h => by cases h⟩
theorem AtMap.zero (w : World) : (zeroValue 3).run Tryz.prog w = .ok (.int .i64 0) w := by kernel_rfl
theorem AtMap.look1 (h : AtMap w b k f) {x : Int} (hx : -1000000000000 <= x /\ x <= 1000000000000) {p : Int} (hm : f x = some p) :
  (Instr.lookup 122 (.map (some b)) (.int .i64 x) false).run Tryz.prog w = .ok (.int .i64 p) w := by
 obtain ⟨D, h, h1⟩ := h
 obtain ⟨v, ps, hrun, hv⟩ := World.ownsMap.lookup h farLaw Tryz.underlying122 (AtMap.zero w) (atR_mk 0) (keyOf_int_mk Tryz.underlying3 (far_wf hx))
 obtain ⟨h2, h3⟩ := h1 x (far_wf hx)
 rw [h3 p hm] at hv
 rw [hrun, atR_inv hv]
theorem AtMap.put (h : AtMap w b k f) (hk : k < 1000000000) {x p : Int} (hx : -1000000000000 <= x /\ x <= 1000000000000) {f' : Int -> Option Int} (hf : ∀ y, f' y = if y = x then some p else f y) :
  ∃ w', (Instr.mapUpdate 122 (.map (some b)) (.int .i64 x) (.int .i64 p)).run Tryz.prog w = .ok () w' /\ AtMap w' b (k + 1) f' /\ w.grownBy w' (some b) := by
 obtain ⟨D, h, h1⟩ := h
 have hw : (Lit.int .i64 x).wf = true := far_wf hx
 obtain ⟨w', hrun, ho, hg⟩ := World.ownsMap.update h farLaw Tryz.underlying122 (by simp only [maxLen]; omega) (keyOf_int_mk Tryz.underlying3 hw) (atR_mk p)
 refine ⟨w', hrun, ⟨_, ho, fun y hy => ?_⟩, hg⟩
 have hmap := World.ownsMap.isMap h
 obtain ⟨h2, h3⟩ := h1 y hy
 rw [hf]
 by_cases e : y = x
 ·
  subst e
  rw [if_pos rfl]
  refine ⟨by rw [has_put_same hmap (k := .int .i64 y) trivial]; rfl, fun p' e z => ?_⟩
  injection e with e
  subst e
  exact atKey_put_same hmap (k := .int .i64 y) trivial _ _
 rw [if_neg e]
 have hne : Lit.int .i64 y ≠ Lit.int .i64 x := fun h => e (by injection h)
 refine ⟨by rw [has_put_other hne]; exact h2, fun p' e z => ?_⟩
 rw [atKey_put_other hne]
 exact h3 p' e z
end
def rat (b k : Nat) (f : Int -> Option Int) : Res := ⟨true, fun x => x = b, fun w => AtMap w b k f, fun _ _ _ hg hr h => AtMap.gb h hg (fun e => hr b e.symm rfl)⟩
def atF (o : List Nat) (i : Nat) (x : Int) : Option Int := if 0 <= x /\ x.toNat ∈ o.take i then some ((posN o x.toNat : Nat) : Int) else none
theorem atF_zero (o : List Nat) (x : Int) : atF o 0 x = none := by unfold atF; simp
theorem atF_next {o : List Nat} (hn : o.Nodup) {i k : Nat} (h : o[i]? = some k) (y : Int) : atF o (i + 1) y = if y = (k : Int) then some (i : Int) else atF o i y := by
 obtain ⟨hi, e⟩ := List.getElem?_eq_some_iff.1 h
 unfold atF
 rw [List.take_succ_eq_append_getElem hi, e]
 by_cases hy : y = (k : Int)
 ·
  subst hy
  rw [if_pos rfl, if_pos ⟨by omega, by simp⟩, Int.toNat_natCast, posN_of hn h]
 rw [if_neg hy]
 by_cases h2 : 0 <= y /\ y.toNat ∈ o.take i
 · rw [if_pos h2, if_pos ⟨h2.1, List.mem_append.2 (.inl h2.2)⟩]
 rw [if_neg h2, if_neg (fun h3 => h2 ⟨h3.1, by
  rcases List.mem_append.1 h3.2 with h4 | h4
  · exact h4
  have := List.mem_singleton.1 h4
  omega⟩)]
theorem atF_at {o : List Nat} {x : Int} (h0 : 0 <= x) (h : x.toNat ∈ o) : atF o o.length x = some ((posN o x.toNat : Nat) : Int) := by
 unfold atF
 rw [if_pos ⟨h0, by rw [List.take_length]; exact h⟩]
section
variable {w0 A : World} {L : List Res} {b k : Nat} {f : Int -> Option Int}
theorem Bun.atNew (h : Bun w0 L A) (o : List Nat) {g : Nat} (hg : A.heap.size = g) : Bun w0 (rat g 0 (atF o 0) :: L) (A.alloc (.map #[] 0)) := by
 subst hg
 refine h.add _ (gb_alloc (gb_refl _ _) _) (AtMap.made A (atF_zero o)) (fun g e => ?_)
 cases e
 simp
theorem Bun.atPut {o : List Nat} {i x : Nat} (h : Bun w0 (rat b i (atF o i) :: L) A) (hn : o.Nodup) (hx : o[i]? = some x) (hi : i < 1000000) (hxb : x < 1000000) :
  ∃ B, (Instr.mapUpdate 122 (.map (some b)) (.int .i64 (x : Int)) (.int .i64 (i : Int))).run Tryz.prog A = .ok () B /\ Bun w0 (rat b (i + 1) (atF o (i + 1)) :: L) B /\ A.heap.size <= B.heap.size := by
 have h1 : AtMap A b i (atF o i) := h.all _ (.head _)
 obtain ⟨B, hr, h2, hg⟩ := AtMap.put h1 (by omega) (x := (x : Int)) (p := (i : Int)) (by omega) (atF_next hn hx)
 exact ⟨B, hr, h.wr rfl hg (fun _ e => by cases e; rfl) h2 fun g e => ⟨.inl e, by cases e; exact h2.lt⟩, hg.size⟩
end
open Go.RowKit
attribute [local go_sem] Oper.semAt_some
def wksN (x : Mch) (dl : List Wea) (k : Nat) : List Int := (dl.take k).map (wkV x)
theorem wksN_succ {x : Mch} {dl : List Wea} {k : Nat} {z : Wea} (h : dl[k]? = some z) : wksN x dl (k + 1) = wksN x dl k ++ [wkV x z] := by rw [wksN, ← take_snoc h, List.map_append]; rfl
theorem wksN_len {x : Mch} {dl : List Wea} {k : Nat} (h : k <= dl.length) : (wksN x dl k).length = k := by simp [wksN, Nat.min_eq_left h]
def wksOf (x : Mch) (dl : List Wea) : List Int := if bothErr [x] [] dl = 0 then wksN x dl dl.length else []
def WorksR (x : Mch) (dl : List Wea) (w : World) : Ending -> World -> Prop := fun e w' => ∃ (a : Option Addr) (cp lo hi : Nat), e = .returned (.tuple #[.slice a (wksOf x dl).length cp, .int .i64 (bothErr [x] [] dl)]) ∧
 (w.heap.size <= lo /\ hi <= w'.heap.size) /\ Sl intEnc 1 lo hi w' (.slice a (wksOf x dl).length cp) (wksOf x dl) /\ w.grownBy w' none
theorem WorksR.yes {x : Mch} {dl : List Wea} {w w' : World} {e : Ending} {v : Value} (h : bothErr [x] [] dl = 0) (ho : Own intEnc 3 1 w.heap.size w' v (wksN x dl dl.length)) (hg : w.grownBy w' none) (he : e = .returned (.tuple #[v, .int .i64 0])) : WorksR x dl w e w' := by
 have e1 : wksOf x dl = wksN x dl dl.length := by rw [wksOf, if_pos h]
 obtain ⟨a, cp, rfl, hs⟩ := Own.slN ho (fun _ => rfl) rfl
 unfold WorksR
 rw [e1, h]
 exact ⟨a, cp, _, _, he, ⟨Nat.le_refl _, Nat.le_refl _⟩, hs, hg⟩
theorem WorksR.no {x : Mch} {dl : List Wea} {w w' : World} {e : Ending} (h : ¬ bothErr [x] [] dl = 0) (hg : w.grownBy w' none) (he : e = .returned (.tuple #[.slice none 0 0, .int .i64 (bothErr [x] [] dl)])) : WorksR x dl w e w' := by
 have e1 : wksOf x dl = [] := by rw [wksOf, if_neg h]
 unfold WorksR
 rw [e1]
 exact ⟨none, 0, w.heap.size, w.heap.size, he, ⟨Nat.le_refl _, hg.size⟩, Sl.of_nil _ _, hg⟩
theorem job1 {w : World} {g : Nat} {t : TypeId} {x : Mch} (c : Nat) (h : Bk w g t #[.int .i64 x.mild, .int .i64 x.hard, .int .i64 x.shift]) : JobAt g (g + 1) w (.slice (some ⟨g, 0, none⟩) 1 c) (.slice none 0 0) [x] [] :=
 ⟨Bk.sl mchEnc 3 [x] c 1 h (fun _ => rfl) rfl rfl (by omega), Sl.of_nil _ _, fun _ h => by cases h⟩
set_option maxHeartbeats 8000000 in
theorem bworks_c (x : Mch) (lo2 hi2 : Nat) (vd : Value) (dl : List Wea) (w : World) (hd : Sl weaEnc 6 lo2 hi2 w vd dl) (h3 : hi2 <= w.heap.size) :
  Calls Tryz.prog 7 #[.agg #[.int .i64 x.mild, .int .i64 x.hard, .int .i64 x.shift], vd] w (WorksR x dl w) := by
 have F1 : Bun w [] w := Bun.nil _
 have hm_ds := hd.len
 unfold maxLen at hm_ds
 obtain ⟨ad, cd, rfl⟩ := hd.any
 replace F1 := F1.sl0 hd h3 rfl
 clear hd
 go_enter Tryz.func7, Tryz.ntmps7
 go_wp2_with fail
 replace F1 := F1.new 30 #[.int .i64 x.mild, .int .i64 x.hard, .int .i64 x.shift] (n := w.heap.size) (by simp)
 replace F1 := F1.new 30 #[.int .i64 x.mild, .int .i64 x.hard, .int .i64 x.shift] (n := (w.heap.size + 1)) (by simp)
 refine (bcheckAll_c _ _ _ _ [x] [] lo2 hi2 _ dl _ (job1 1 (F1.b 0 rfl)) (Bk.lt (F1.b 0 rfl)) (F1.s 2 rfl) (Nat.le_trans h3 F1.gb.size)).mono ?_
 rintro e w7 ⟨rfl, hg5⟩
 have hg5s := hg5.size
 (try simp at hg5s)
 replace F1 := F1.gn hg5
 clear hg5
 by_cases c9 : bothErr [x] [] dl = 0
 ·
  obtain ⟨c9a, c9b⟩ := bqt c9
  have c9H := lhd c9
  clear c9
  have hdn := (bothOk c9H.out).2
  go_wp2_with fail
  replace F1 := F1.nilrow intEnc 3 1
  (skip)
  obtain ⟨HI11_, HI110⟩ : ∃ I : RelT, I = (fun t ds wr => ∃ (k : Nat) (vo : Value), t 2 = .pointer (some ⟨w.heap.size, 0, none⟩) /\ t 7 = vo /\ t 18 = .slice ad dl.length cd /\ t 19 = .int .i64 (dl.length : Int) /\ t 20 = .int .i64 (k : Int) /\ k <= dl.length /\ ds = [] /\ w7.heap.size <= wr.heap.size /\ Bun w [rown intEnc 3 1 w.heap.size vo (wksN x dl k), rbox w.heap.size 30 #[.int .i64 x.mild, .int .i64 x.hard, .int .i64 x.shift], rsl weaEnc 6 lo2 hi2 (.slice ad dl.length cd) dl] wr) := ⟨_, rfl⟩
  have HI11 := lhd HI110
  clear HI110
  refine wp_loopS 32 rfl HI11_ (fun t wr => dl.length - (intOf (t 20)).toNat) ?atStart1 ?round1
  case round1 =>
   intro t ds wr hHid
   rw [HI11.out] at hHid
   obtain ⟨k, vo, e2, e7, e18, e19, e20, hrel⟩ := hHid
   have e : ((List.range 32).map t).toArray = #[t 0, t 1, t 2, t 3, t 4, t 5, t 6, t 7, t 8, t 9, t 10, t 11, t 12, t 13, t 14, t 15, t 16, t 17, t 18, t 19, t 20, t 21, t 22, t 23, t 24, t 25, t 26, t 27, t 28, t 29, t 30, t 31] := rfl
   (try dsimp only at e)
   rw [e2, e7, e18, e19, e20] at e
   rw [e]
   simp only [e20]
   clear e e2 e7 e18 e19 e20
   obtain ⟨hk, rfl, hs13, hF12⟩ := hrel
   clear F1
   obtain ⟨w14, rfl⟩ : ∃ x_ : World, x_ = wr := ⟨_, rfl⟩
   by_cases c15 : (k : Int) < (dl.length : Int)
   ·
    have c15H := lhd c15
    obtain ⟨x16, o17, e_⟩ := Sl.addr (hF12.s 2 rfl) (by omega)
    subst e_
    obtain ⟨z, hz18_⟩ : ∃ z_, dl[k]? = some z_ := ⟨_, List.getElem?_eq_getElem (by omega)⟩
    have hz18 := lhd hz18_
    clear hz18_
    have b19 := hF12.bx3 1 rfl
    have ge20 : World.cell? _ ⟨x16, o17 + k * 6, none⟩ = some (.int .i64 z.cold.lo) := (Sl.cells (hF12.at 2 rfl) hz18.out 0 _ rfl)
    have gl21 := cell_lt ge20
    have ge22 : World.cell? _ ⟨x16, o17 + k * 6 + 1, none⟩ = some (.int .i64 z.cold.hi) := (Sl.cells (hF12.at 2 rfl) hz18.out 1 _ rfl)
    have ge23 : World.cell? _ ⟨x16, o17 + k * 6 + 2, none⟩ = some (.int .i64 z.fall.lo) := (Sl.cells (hF12.at 2 rfl) hz18.out 2 _ rfl)
    have ge24 : World.cell? _ ⟨x16, o17 + k * 6 + 3, none⟩ = some (.int .i64 z.fall.hi) := (Sl.cells (hF12.at 2 rfl) hz18.out 3 _ rfl)
    have ge25 : World.cell? _ ⟨x16, o17 + k * 6 + 4, none⟩ = some (.int .i64 z.water) := (Sl.cells (hF12.at 2 rfl) hz18.out 4 _ rfl)
    have ge26 : World.cell? _ ⟨x16, o17 + k * 6 + 5, none⟩ = some (.bool z.clear) := (Sl.cells (hF12.at 2 rfl) hz18.out 5 _ rfl)
    go_wp2_with fail
    clear b19 ge20 gl21 ge22 ge23 ge24 ge25 ge26
    have F27 := hF12.new 61 #[.int .i64 z.cold.lo, .int .i64 z.cold.hi, .int .i64 z.fall.lo, .int .i64 z.fall.hi, .int .i64 z.water, .bool z.clear] (n := w14.heap.size) (by simp)
    clear hF12
    refine (works_c x z _).mono ?_
    rintro e w30 ⟨rfl, hg28⟩
    have hg28s := hg28.size
    (try simp at hg28s)
    replace F27 := F27.gn hg28
    clear hg28
    go_wp2_with (at_builtin; refine wpList_app _ okInt rfl _ _ rfl w.heap.size vo (wksN x dl k) [wkV x z] rfl (by exact ((F27.o 1 rfl)).alloc _) ⟨_, 0, none⟩ 1 1 rfl rfl (by decide) (news_of (Bk.newAt _ _ _ (by simp))) (k + 1) (by simp [wksN_len (show k <= dl.length by omega)]) (by omega) (by first | omega | (simp; omega)) _ rfl ?_; intro g32 cap33 w34 hp35; refine Hid.out ?_)
    refine lhd ?_
    have hp35s := hp35.gb.size
    (try simp at hp35s)
    have F36 := ((F27.alloc (.cells #[.int .i64 (wkV x z)] 3)).front 1 rfl rfl).app hp35 (by simp)
    clear F27
    go_wp2_with fail
    have F37 : Bun w [rown intEnc 3 1 w.heap.size (.slice (some ⟨g32, 0, none⟩) (k + 1) cap33) (wksN x dl k ++ [wkV x z]), rbox w.heap.size 30 #[.int .i64 x.mild, .int .i64 x.hard, .int .i64 x.shift], rsl weaEnc 6 lo2 hi2 (.slice (some ⟨x16, o17, none⟩) dl.length cd) dl] _ := F36.pick [0, 2, 3] (by decide) rfl
    clear F36
    (first | refine ⟨rfl, ?_, ?_⟩ | refine ⟨?_, ?_⟩)
    · rw [HI11.out]; exact ⟨k + 1, _, rfl, rfl, rfl, rfl, (by show Value.int .i64 ((k : Int) + 1) = _; simp), (by omega), (by first | rfl | simp), (by first | omega | (simp; done) | (simp; omega)), (by rw [wksN_succ hz18.out]; exact F37)⟩
    · simp [slot, intOf]; omega
   have c15H := lhd c15
   have c15a := dec_f c15
   go_wp2_with fail
   exact bodyPost_ret (v := .tuple #[vo, .int .i64 0]) (by simp [results, Tryz.results7, go_sem]) rfl ((WorksR.yes c9H.out (by have h_ := (hF12.o 0 rfl); rwa [show k = dl.length by omega] at h_) hF12.gb rfl))
  case atStart1 =>
   rw [HI11.out]
   exact ⟨0, _, rfl, rfl, rfl, rfl, rfl, Nat.zero_le _, rfl, (by first | exact Nat.le_refl _ | omega | (simp; done) | (simp; omega)), (F1.drop 1 rfl)⟩
 obtain ⟨c9a, c9b⟩ := bqf c9
 have c9H := lhd c9
 clear c9
 go_wp2_with fail
 exact bodyPost_ret (v := .tuple #[.slice none 0 0, .int .i64 (bothErr [x] [] dl)]) (by simp [results, Tryz.results7, go_sem]) rfl ((WorksR.no c9H.out F1.gb rfl))
end Go.Proofs.YtcoldeolmleeiaaGreat
