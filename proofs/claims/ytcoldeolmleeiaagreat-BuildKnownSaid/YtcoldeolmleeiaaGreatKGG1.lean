/- build and its reference: what is wrong with jobs, by the reference. -/
import Derived.Test.YtcoldeolmleeiaaGreatKJ3
import Derived.Test.YtcoldeolmleeiaaGreatKKA
set_option linter.unusedVariables false
set_option linter.unusedSimpArgs false
set_option linter.unnecessarySimpa false
namespace Go.Proofs.YtcoldeolmleeiaaGreat
open Go.RowKit
set_option maxRecDepth 100000
theorem run_store_fn (P : Program) (w : World) (a : Addr) (f : Fn) (x y : Array Value) (m : Mode) : (store a (.func f x y) m).run P w = stored P w a (.func f x y) m := run_store P w a _ m rfl
attribute [local go_sem] run_store_fn
set_option maxHeartbeats 2000000 in
theorem works_c (x : Mch) (d : Wea) (w : World)  :
  Calls Tryz.prog 20 #[.agg #[.int .i64 x.mild, .int .i64 x.hard, .int .i64 x.shift], .agg #[.int .i64 d.cold.lo, .int .i64 d.cold.hi, .int .i64 d.fall.lo, .int .i64 d.fall.hi, .int .i64 d.water, .bool d.clear]] w (Ret (.int .i64 (wkV x d)) w) := by
 have F1 : Bun w [] w := Bun.nil _
 go_enter Tryz.func20, Tryz.ntmps20
 by_cases c2 : x.mild <= d.cold.lo
 ·
  have c2H := lhd c2
  by_cases c3 : d.cold.hi <= x.hard
  ·
   have c3H := lhd c3
   have Hx4 := lhd (show (wkV x d) = 1 by unfold wkV; (repeat' split) <;> omega)
   go_wp2_with fail
   replace F1 := F1.new 30 #[.int .i64 x.mild, .int .i64 x.hard, .int .i64 x.shift] (n := w.heap.size) (by simp)
   replace F1 := F1.new 61 #[.int .i64 d.cold.lo, .int .i64 d.cold.hi, .int .i64 d.fall.lo, .int .i64 d.fall.hi, .int .i64 d.water, .bool d.clear] (n := (w.heap.size + 1)) (by simp)
   go_ret
   exact ⟨by rw [Hx4.out] <;> rfl, F1.gb⟩
  have c3H := lhd c3
  have c3a := dec_f c3
  by_cases c7 : d.cold.hi < x.mild
  ·
   have c7H := lhd c7
   have Hx8 := lhd (show (wkV x d) = 2 by unfold wkV; (repeat' split) <;> omega)
   go_wp2_with fail
   replace F1 := F1.new 30 #[.int .i64 x.mild, .int .i64 x.hard, .int .i64 x.shift] (n := w.heap.size) (by simp)
   replace F1 := F1.new 61 #[.int .i64 d.cold.lo, .int .i64 d.cold.hi, .int .i64 d.fall.lo, .int .i64 d.fall.hi, .int .i64 d.water, .bool d.clear] (n := (w.heap.size + 1)) (by simp)
   go_ret
   exact ⟨by rw [Hx8.out] <;> rfl, F1.gb⟩
  have c7H := lhd c7
  have c7a := dec_f c7
  by_cases c11 : x.hard < d.cold.lo
  ·
   have c11H := lhd c11
   have Hx12 := lhd (show (wkV x d) = 2 by unfold wkV; (repeat' split) <;> omega)
   go_wp2_with fail
   replace F1 := F1.new 30 #[.int .i64 x.mild, .int .i64 x.hard, .int .i64 x.shift] (n := w.heap.size) (by simp)
   replace F1 := F1.new 61 #[.int .i64 d.cold.lo, .int .i64 d.cold.hi, .int .i64 d.fall.lo, .int .i64 d.fall.hi, .int .i64 d.water, .bool d.clear] (n := (w.heap.size + 1)) (by simp)
   go_ret
   exact ⟨by rw [Hx12.out] <;> rfl, F1.gb⟩
  have c11H := lhd c11
  have c11a := dec_f c11
  have Hx15 := lhd (show (wkV x d) = 3 by unfold wkV; (repeat' split) <;> omega)
  go_wp2_with fail
  replace F1 := F1.new 30 #[.int .i64 x.mild, .int .i64 x.hard, .int .i64 x.shift] (n := w.heap.size) (by simp)
  replace F1 := F1.new 61 #[.int .i64 d.cold.lo, .int .i64 d.cold.hi, .int .i64 d.fall.lo, .int .i64 d.fall.hi, .int .i64 d.water, .bool d.clear] (n := (w.heap.size + 1)) (by simp)
  go_ret
  exact ⟨by rw [Hx15.out] <;> rfl, F1.gb⟩
 have c2H := lhd c2
 have c2a := dec_f c2
 by_cases c18 : d.cold.hi < x.mild
 ·
  have c18H := lhd c18
  have Hx19 := lhd (show (wkV x d) = 2 by unfold wkV; (repeat' split) <;> omega)
  go_wp2_with fail
  replace F1 := F1.new 30 #[.int .i64 x.mild, .int .i64 x.hard, .int .i64 x.shift] (n := w.heap.size) (by simp)
  replace F1 := F1.new 61 #[.int .i64 d.cold.lo, .int .i64 d.cold.hi, .int .i64 d.fall.lo, .int .i64 d.fall.hi, .int .i64 d.water, .bool d.clear] (n := (w.heap.size + 1)) (by simp)
  go_ret
  exact ⟨by rw [Hx19.out] <;> rfl, F1.gb⟩
 have c18H := lhd c18
 have c18a := dec_f c18
 by_cases c22 : x.hard < d.cold.lo
 ·
  have c22H := lhd c22
  have Hx23 := lhd (show (wkV x d) = 2 by unfold wkV; (repeat' split) <;> omega)
  go_wp2_with fail
  replace F1 := F1.new 30 #[.int .i64 x.mild, .int .i64 x.hard, .int .i64 x.shift] (n := w.heap.size) (by simp)
  replace F1 := F1.new 61 #[.int .i64 d.cold.lo, .int .i64 d.cold.hi, .int .i64 d.fall.lo, .int .i64 d.fall.hi, .int .i64 d.water, .bool d.clear] (n := (w.heap.size + 1)) (by simp)
  go_ret
  exact ⟨by rw [Hx23.out] <;> rfl, F1.gb⟩
 have c22H := lhd c22
 have c22a := dec_f c22
 have Hx26 := lhd (show (wkV x d) = 3 by unfold wkV; (repeat' split) <;> omega)
 go_wp2_with fail
 replace F1 := F1.new 30 #[.int .i64 x.mild, .int .i64 x.hard, .int .i64 x.shift] (n := w.heap.size) (by simp)
 replace F1 := F1.new 61 #[.int .i64 d.cold.lo, .int .i64 d.cold.hi, .int .i64 d.fall.lo, .int .i64 d.fall.hi, .int .i64 d.water, .bool d.clear] (n := (w.heap.size + 1)) (by simp)
 go_ret
 exact ⟨by rw [Hx26.out] <;> rfl, F1.gb⟩
theorem pickb_n (a b : Int) (w : World)  :
  Calls Tryz.prog 41 #[.agg #[.int .i64 a, .int .i64 b]] w (Ret (.int .i64 a) w) := by
 have F1 : Bun w [] w := Bun.nil _
 go_enter Tryz.func41, Tryz.ntmps41
 go_wp2_with fail
 replace F1 := F1.new 32 #[.int .i64 a, .int .i64 b] (n := w.heap.size) (by simp)
 go_ret
 exact ⟨rfl, F1.gb⟩
theorem pickb_w (v : Int) (w : World)  :
  Calls Tryz.prog 42 #[.int .i64 v] w (fun e w' => e = .returned (.bool (wkB false v)) /\ w = w') := by
 have F1 : Bun w [] w := Bun.nil _
 go_enter Tryz.func42, Tryz.ntmps42
 have Hx2 := lhd (show ((wkB false v : Bool)) = (v != 2) by by_cases hv : v = 2 <;> simp [wkB, hv])
 go_wp2_with fail
 go_ret
 exact ⟨by rw [Hx2.out] <;> rfl, rfl⟩
set_option maxHeartbeats 2000000 in
theorem pickedb_c  (w : World)  :
  Calls Tryz.prog 21 #[.int .i64 0] w (Ret (.agg #[.func (.func 41) #[] #[], .func (.func 42) #[] #[]]) w) := by
 have F1 : Bun w [] w := Bun.nil _
 go_enter Tryz.func21, Tryz.ntmps21
 go_wp2_with fail
 replace F1 := F1.new 66 #[.func (.func 41) #[] #[], .func (.func 42) #[] #[]] (n := w.heap.size) (by simp)
 replace F1 := F1.new 104 #[.func (.func 41) #[] #[], .func (.func 42) #[] #[], .func (.func 43) #[] #[], .func (.func 44) #[] #[]] (n := (w.heap.size + 1)) (by simp)
 have kb4 := F1.bx2 1 rfl
 go_wp2_with fail
 exact bodyPost_ret (v := .agg #[.func (.func 41) #[] #[], .func (.func 42) #[] #[]]) (by simp [results, Tryz.results21, go_sem, kb4]) rfl (⟨rfl, F1.gb⟩)
theorem pickw_n (a b : Int) (w : World)  :
  Calls Tryz.prog 43 #[.agg #[.int .i64 a, .int .i64 b]] w (Ret (.int .i64 b) w) := by
 have F1 : Bun w [] w := Bun.nil _
 go_enter Tryz.func43, Tryz.ntmps43
 go_wp2_with fail
 replace F1 := F1.new 32 #[.int .i64 a, .int .i64 b] (n := w.heap.size) (by simp)
 go_ret
 exact ⟨rfl, F1.gb⟩
theorem pickw_w (v : Int) (w : World)  :
  Calls Tryz.prog 44 #[.int .i64 v] w (fun e w' => e = .returned (.bool (wkB true v)) /\ w = w') := by
 have F1 : Bun w [] w := Bun.nil _
 go_enter Tryz.func44, Tryz.ntmps44
 have Hx2 := lhd (show ((wkB true v : Bool)) = (v == 1) by by_cases hv : v = 1 <;> simp [wkB, hv])
 go_wp2_with fail
 go_ret
 exact ⟨by rw [Hx2.out] <;> rfl, rfl⟩
set_option maxHeartbeats 2000000 in
theorem pickedw_c  (w : World)  :
  Calls Tryz.prog 21 #[.int .i64 1] w (Ret (.agg #[.func (.func 43) #[] #[], .func (.func 44) #[] #[]]) w) := by
 have F1 : Bun w [] w := Bun.nil _
 go_enter Tryz.func21, Tryz.ntmps21
 go_wp2_with fail
 replace F1 := F1.new 66 #[.func (.func 43) #[] #[], .func (.func 44) #[] #[]] (n := w.heap.size) (by simp)
 replace F1 := F1.new 104 #[.func (.func 41) #[] #[], .func (.func 42) #[] #[], .func (.func 43) #[] #[], .func (.func 44) #[] #[]] (n := (w.heap.size + 1)) (by simp)
 have kb4 := F1.bx2 1 rfl
 go_wp2_with fail
 exact bodyPost_ret (v := .agg #[.func (.func 43) #[] #[], .func (.func 44) #[] #[]]) (by simp [results, Tryz.results21, go_sem, kb4]) rfl (⟨rfl, F1.gb⟩)
set_option maxHeartbeats 2000000 in
theorem past_c (v1 v2 v3 v4 : Value) (ad : Option Addr) (cd n : Nat) (w : World) (hn : n <= 1000) :
  Calls Tryz.prog 47 #[.agg #[v1, v2, v3, v4, .slice ad n cd]] w (Ret (.int .i64 (24 * (n : Int) + 1)) w) := by
 have F1 : Bun w [] w := Bun.nil _
 go_enter Tryz.func47, Tryz.ntmps47
 go_wp2_with fail
 replace F1 := F1.new 69 #[v1, v2, v3, v4, .slice ad n cd] (n := w.heap.size) (by simp)
 go_ret
 exact ⟨rfl, F1.gb⟩
set_option maxHeartbeats 4000000 in
theorem readyb_c (lo hi : Nat) (vt : Value) (ts : List Tsk) (lo3 hi3 : Nat) (ve : Value) (en : List Int) (k : Nat) (u : Tsk) (x : Int) (v2 v3 v5 : Value) (w : World) (hts : Sl tskEnc 8 lo hi w vt ts) (h2 : hi <= w.heap.size) (hen : Sl intEnc 1 lo3 hi3 w ve en) (h3 : hi3 <= w.heap.size) (hti : ts[k]? = some u) (hei : en[k]? = some x) (hx : 0 <= x /\ x <= 20000) (hwa : 0 <= u.wa.lo /\ u.wa.lo <= 20000) :
  Calls Tryz.prog 45 #[.agg #[.func (.func 41) #[] #[], v2, v3, vt, v5], .int .i64 (k : Int), ve] w (Ret (.int .i64 (x + u.wa.lo)) w) := by
 have F1 : Bun w [] w := Bun.nil _
 have hm_ts := hts.len
 unfold maxLen at hm_ts
 obtain ⟨aT, cT, rfl⟩ := hts.any
 replace F1 := F1.sl0 hts h2 rfl
 clear hts
 have hm_en := hen.len
 unfold maxLen at hm_en
 obtain ⟨aE, cE, rfl⟩ := hen.any
 replace F1 := F1.sl0 hen h3 rfl
 clear hen
 have hil := (List.getElem?_eq_some_iff.1 hti).1
 have hel := (List.getElem?_eq_some_iff.1 hei).1
 obtain ⟨x4, o5, e_⟩ := Sl.addr (F1.s 1 rfl) (by omega)
 subst e_
 obtain ⟨x6, o7, e_⟩ := Sl.addr (F1.s 0 rfl) (by omega)
 subst e_
 have hz8 : Hid (ts[k]? = some u) := lhd (hti)
 have hz9 : Hid (en[k]? = some x) := lhd (hei)
 clear hti hei
 go_enter Tryz.func45, Tryz.ntmps45
 go_wp2_with fail
 replace F1 := F1.new 69 #[.func (.func 41) #[] #[], v2, v3, .slice (some ⟨x4, o5, none⟩) ts.length cT, v5] (n := w.heap.size) (by simp)
 have Fn_ := F1
 (try dsimp only [lpF, lpG] at Fn_)
 obtain ⟨w11, hx12, F14, hxs13⟩ := Fn_.name
 (try simp at hxs13)
 rw [hx12]
 clear hx12 F1 Fn_
 replace F14 := F14.drew
 refine ru_begin (fun W => W.cell? ⟨x6, o7 + k, none⟩ = some (.int .i64 x) /\ W.cell? ⟨w.heap.size, 0, none⟩ = some (.func (.func 41) #[] #[]) /\ W.cell? ⟨w.heap.size, 3, none⟩ = some (.slice (some ⟨x4, o5, none⟩) ts.length cT) /\ W.cell? ⟨x4, o5 + k * 8 + 3, none⟩ = some (.int .i64 u.wa.lo) /\ W.cell? ⟨x4, o5 + k * 8 + 3 + 1, none⟩ = some (.int .i64 u.wa.hi)) 16 (by kernel_rfl) ?_ ?_
 · exact ⟨(by have h_ := Sl.cells (F14.at 1 rfl) hz9.out 0 _ rfl; simpa using h_), F14.q 0 0, F14.q 0 3, (Sl.cells (F14.at 2 rfl) hz8.out 3 _ rfl), (Sl.cells (F14.at 2 rfl) hz8.out 4 _ rfl)⟩
 obtain ⟨wd17, hwd_⟩ : ∃ x : World, w11.drew = x := ⟨_, rfl⟩
 rw [hwd_] at F14 ⊢
 have wd17s : w11.heap.size <= wd17.heap.size := by rw [← hwd_]; exact Nat.le_refl _
 clear hwd_
 have hS16 := (And.intro ((by have h_ := Sl.cells (F14.at 1 rfl) hz9.out 0 _ rfl; simpa using h_)) (And.intro (F14.q 0 0) (And.intro (F14.q 0 3) (And.intro ((Sl.cells (F14.at 2 rfl) hz8.out 3 _ rfl)) ((Sl.cells (F14.at 2 rfl) hz8.out 4 _ rfl))))))
 refine ru_t 0 [] ?_
 refine ru_t 1 [] ?_
 refine ru_t 2 [] ?_
 refine ru_t 3 [] ?_
 refine ru_t 4 [] ?_
 refine ru_t 5 [] ?_
 refine ru_t 6 [] ?_
 refine ru_t 7 [] ?_
 refine ru_t 8 [] ?_
 refine ru_t 9 [] ?_
 refine ru_t 10 [] ?_
 refine ru_t 11 [] ?_
 refine ru_t 12 [] ?_
 refine ru_t 13 [] ?_
 (try simp only [lpX])
 clear hS16
 refine ru_o 14 fun K hK => ?_
 go_simp
 refine (pickb_n _ _ _).mono ?_
 rintro e w20 ⟨rfl, hg18⟩
 have hg18s := hg18.size
 (try simp at hg18s)
 replace F14 := F14.gn hg18
 refine ru_back hK (by exact ⟨(by have h_ := Sl.cells (F14.at 1 rfl) hz9.out 0 _ rfl; simpa using h_), F14.q 0 0, F14.q 0 3, (Sl.cells (F14.at 2 rfl) hz8.out 3 _ rfl), (Sl.cells (F14.at 2 rfl) hz8.out 4 _ rfl)⟩) (fun _ => ?_)
 clear hK K
 (try simp only [lpX])
 have hw22 : IntKind.i64.wrap (x + u.wa.lo) = x + u.wa.lo := IntWalk.i64_in _ (by omega)
 refine ru_p 15 ?_
 (try simp only [lpX])
 refine ru_o 16 fun K hK => ?_
 go_simp
 refine ru_back_late hK (by kernel_rfl) ?_
 clear hK K
 (try simp only [lpX])
 refine ru_done (by kernel_rfl) ?_
 (try clear hw22)
 have Fn_ := (F14.drop 0 rfl)
 (try dsimp only [lpF, lpG] at Fn_)
 obtain ⟨w23, hx24, F26, hxs25⟩ := Fn_.name
 (try simp at hxs25)
 rw [hx24]
 clear hx24 F14 Fn_
 go_wp2_with fail
 go_ret
 exact ⟨rfl, F26.gb⟩
set_option maxHeartbeats 4000000 in
theorem readyw_c (lo hi : Nat) (vt : Value) (ts : List Tsk) (lo3 hi3 : Nat) (ve : Value) (en : List Int) (k : Nat) (u : Tsk) (x : Int) (v2 v3 v5 : Value) (w : World) (hts : Sl tskEnc 8 lo hi w vt ts) (h2 : hi <= w.heap.size) (hen : Sl intEnc 1 lo3 hi3 w ve en) (h3 : hi3 <= w.heap.size) (hti : ts[k]? = some u) (hei : en[k]? = some x) (hx : 0 <= x /\ x <= 20000) (hwa : 0 <= u.wa.hi /\ u.wa.hi <= 20000) :
  Calls Tryz.prog 45 #[.agg #[.func (.func 43) #[] #[], v2, v3, vt, v5], .int .i64 (k : Int), ve] w (Ret (.int .i64 (x + u.wa.hi)) w) := by
 have F1 : Bun w [] w := Bun.nil _
 have hm_ts := hts.len
 unfold maxLen at hm_ts
 obtain ⟨aT, cT, rfl⟩ := hts.any
 replace F1 := F1.sl0 hts h2 rfl
 clear hts
 have hm_en := hen.len
 unfold maxLen at hm_en
 obtain ⟨aE, cE, rfl⟩ := hen.any
 replace F1 := F1.sl0 hen h3 rfl
 clear hen
 have hil := (List.getElem?_eq_some_iff.1 hti).1
 have hel := (List.getElem?_eq_some_iff.1 hei).1
 obtain ⟨x4, o5, e_⟩ := Sl.addr (F1.s 1 rfl) (by omega)
 subst e_
 obtain ⟨x6, o7, e_⟩ := Sl.addr (F1.s 0 rfl) (by omega)
 subst e_
 have hz8 : Hid (ts[k]? = some u) := lhd (hti)
 have hz9 : Hid (en[k]? = some x) := lhd (hei)
 clear hti hei
 go_enter Tryz.func45, Tryz.ntmps45
 go_wp2_with fail
 replace F1 := F1.new 69 #[.func (.func 43) #[] #[], v2, v3, .slice (some ⟨x4, o5, none⟩) ts.length cT, v5] (n := w.heap.size) (by simp)
 have Fn_ := F1
 (try dsimp only [lpF, lpG] at Fn_)
 obtain ⟨w11, hx12, F14, hxs13⟩ := Fn_.name
 (try simp at hxs13)
 rw [hx12]
 clear hx12 F1 Fn_
 replace F14 := F14.drew
 refine ru_begin (fun W => W.cell? ⟨x6, o7 + k, none⟩ = some (.int .i64 x) /\ W.cell? ⟨w.heap.size, 0, none⟩ = some (.func (.func 43) #[] #[]) /\ W.cell? ⟨w.heap.size, 3, none⟩ = some (.slice (some ⟨x4, o5, none⟩) ts.length cT) /\ W.cell? ⟨x4, o5 + k * 8 + 3, none⟩ = some (.int .i64 u.wa.lo) /\ W.cell? ⟨x4, o5 + k * 8 + 3 + 1, none⟩ = some (.int .i64 u.wa.hi)) 16 (by kernel_rfl) ?_ ?_
 · exact ⟨(by have h_ := Sl.cells (F14.at 1 rfl) hz9.out 0 _ rfl; simpa using h_), F14.q 0 0, F14.q 0 3, (Sl.cells (F14.at 2 rfl) hz8.out 3 _ rfl), (Sl.cells (F14.at 2 rfl) hz8.out 4 _ rfl)⟩
 obtain ⟨wd17, hwd_⟩ : ∃ x : World, w11.drew = x := ⟨_, rfl⟩
 rw [hwd_] at F14 ⊢
 have wd17s : w11.heap.size <= wd17.heap.size := by rw [← hwd_]; exact Nat.le_refl _
 clear hwd_
 have hS16 := (And.intro ((by have h_ := Sl.cells (F14.at 1 rfl) hz9.out 0 _ rfl; simpa using h_)) (And.intro (F14.q 0 0) (And.intro (F14.q 0 3) (And.intro ((Sl.cells (F14.at 2 rfl) hz8.out 3 _ rfl)) ((Sl.cells (F14.at 2 rfl) hz8.out 4 _ rfl))))))
 refine ru_t 0 [] ?_
 refine ru_t 1 [] ?_
 refine ru_t 2 [] ?_
 refine ru_t 3 [] ?_
 refine ru_t 4 [] ?_
 refine ru_t 5 [] ?_
 refine ru_t 6 [] ?_
 refine ru_t 7 [] ?_
 refine ru_t 8 [] ?_
 refine ru_t 9 [] ?_
 refine ru_t 10 [] ?_
 refine ru_t 11 [] ?_
 refine ru_t 12 [] ?_
 refine ru_t 13 [] ?_
 (try simp only [lpX])
 clear hS16
 refine ru_o 14 fun K hK => ?_
 go_simp
 refine (pickw_n _ _ _).mono ?_
 rintro e w20 ⟨rfl, hg18⟩
 have hg18s := hg18.size
 (try simp at hg18s)
 replace F14 := F14.gn hg18
 refine ru_back hK (by exact ⟨(by have h_ := Sl.cells (F14.at 1 rfl) hz9.out 0 _ rfl; simpa using h_), F14.q 0 0, F14.q 0 3, (Sl.cells (F14.at 2 rfl) hz8.out 3 _ rfl), (Sl.cells (F14.at 2 rfl) hz8.out 4 _ rfl)⟩) (fun _ => ?_)
 clear hK K
 (try simp only [lpX])
 have hw22 : IntKind.i64.wrap (x + u.wa.hi) = x + u.wa.hi := IntWalk.i64_in _ (by omega)
 refine ru_p 15 ?_
 (try simp only [lpX])
 refine ru_o 16 fun K hK => ?_
 go_simp
 refine ru_back_late hK (by kernel_rfl) ?_
 clear hK K
 (try simp only [lpX])
 refine ru_done (by kernel_rfl) ?_
 (try clear hw22)
 have Fn_ := (F14.drop 0 rfl)
 (try dsimp only [lpF, lpG] at Fn_)
 obtain ⟨w23, hx24, F26, hxs25⟩ := Fn_.name
 (try simp at hxs25)
 rw [hx24]
 clear hx24 F14 Fn_
 go_wp2_with fail
 go_ret
 exact ⟨rfl, F26.gb⟩
set_option maxHeartbeats 4000000 in
theorem before_c (lo hi : Nat) (vt : Value) (ts : List Tsk) (i : Nat) (u : Tsk) (v1 v2 v3 v5 : Value) (wb : Bool) (ms : List Mch) (dl : List Wea) (w : World) (hts : Sl tskEnc 8 lo hi w vt ts) (h2 : hi <= w.heap.size) (hti : ts[i]? = some u) :
  Calls Tryz.prog 46 #[.agg #[v1, v2, v3, vt, v5], .int .i64 (i : Int)] w (Ret (.int .i64 ((caseOf wb ms ts dl).bef u.m i)) w) := by
 have F1 : Bun w [] w := Bun.nil _
 have hm_ts := hts.len
 unfold maxLen at hm_ts
 obtain ⟨aT, cT, rfl⟩ := hts.any
 replace F1 := F1.sl0 hts h2 rfl
 clear hts
 have hil := (List.getElem?_eq_some_iff.1 hti).1
 obtain ⟨x3, o4, e_⟩ := Sl.addr (F1.s 0 rfl) (by omega)
 subst e_
 have hz5 : Hid (ts[i]? = some u) := lhd (hti)
 clear hti
 go_enter Tryz.func46, Tryz.ntmps46
 go_wp2_with fail
 replace F1 := F1.new 69 #[v1, v2, v3, .slice (some ⟨x3, o4, none⟩) ts.length cT, v5] (n := w.heap.size) (by simp)
 obtain ⟨HI7_, HI70⟩ : ∃ I : RelT, I = (fun t ds wr => ∃ (c : Nat), t 1 = .int .i64 (i : Int) /\ t 2 = .pointer (some ⟨w.heap.size, 0, none⟩) /\ t 5 = .int .i64 ((c : Int) - 1) /\ c <= i /\ (caseOf wb ms ts dl).bef u.m i = (caseOf wb ms ts dl).bef u.m c /\ ds = [] /\ w.heap.size <= wr.heap.size /\ Bun w [rbox w.heap.size 69 #[v1, v2, v3, .slice (some ⟨x3, o4, none⟩) ts.length cT, v5], rsl tskEnc 8 lo hi (.slice (some ⟨x3, o4, none⟩) ts.length cT) ts] wr) := ⟨_, rfl⟩
 have HI7 := lhd HI70
 clear HI70
 refine wp_loopS 28 rfl HI7_ (fun t wr => (intOf (t 5) + 1).toNat) ?atStart1 ?round1
 case round1 =>
  intro t ds wr hHid
  rw [HI7.out] at hHid
  obtain ⟨c, e1, e2, e5, hrel⟩ := hHid
  have e : ((List.range 28).map t).toArray = #[t 0, t 1, t 2, t 3, t 4, t 5, t 6, t 7, t 8, t 9, t 10, t 11, t 12, t 13, t 14, t 15, t 16, t 17, t 18, t 19, t 20, t 21, t 22, t 23, t 24, t 25, t 26, t 27] := rfl
  (try dsimp only at e)
  rw [e1, e2, e5] at e
  rw [e]
  simp only [e5]
  clear e e1 e2 e5
  obtain ⟨hk, hR, rfl, hs9, hF8⟩ := hrel
  clear F1
  obtain ⟨w10, rfl⟩ : ∃ x_ : World, x_ = wr := ⟨_, rfl⟩
  have HR := lhd hR
  clear hR
  by_cases c11 : 0 <= ((c : Int) - 1)
  ·
   have c11H := lhd c11
   have hk1 : (1 : Int) <= (c : Int) := by omega
   have hk3 : (c : Int) - 1 < (ts.length : Int) := by omega
   have hk4 : ((c : Int) - 1).toNat = c - 1 := by omega
   have hk5 : IntKind.i64.wrap ((c : Int) - 1) = (c : Int) - 1 := IntWalk.i64_in _ (by omega)
   have hk7 : IntKind.i64.wrap ((c : Int) - 1 - 1) = (c : Int) - 1 - 1 := IntWalk.i64_in _ (by omega)
   have hk6 : 0 < c := by omega
   obtain ⟨z, hz12_⟩ : ∃ z_, ts[c - 1]? = some z_ := ⟨_, List.getElem?_eq_getElem (by omega)⟩
   have hz12 := lhd hz12_
   clear hz12_
   have HB : Hid ((caseOf wb ms ts dl).bef u.m c = if z.m = u.m then ((c - 1 : Nat) : Int) else (caseOf wb ms ts dl).bef u.m (c - 1)) := lhd (by rw [show c = (c - 1) + 1 by omega, Cs.bef, show (c - 1) + 1 = c by omega]; show (if (tk ts (c - 1)).m = u.m then _ else _) = _; rw [tk_get hz12.out])
   go_wp2_with fail
   have b13 := hF8.bx5 0 rfl
   have ge14 : World.cell? _ ⟨x3, o4 + (c - 1) * 8, none⟩ = some (.int .i64 z.m) := (Sl.cells (hF8.at 1 rfl) hz12.out 0 _ rfl)
   have ge15 : World.cell? _ ⟨x3, o4 + i * 8, none⟩ = some (.int .i64 u.m) := (Sl.cells (hF8.at 1 rfl) hz5.out 0 _ rfl)
   go_quiet (fail)
   clear b13 ge14 ge15
   have F16 := hF8.drewN nq
   clear hF8
   have Fn_ := F16
   (try dsimp only [lpF, lpG] at Fn_)
   obtain ⟨w17, hx18, F20, hxs19⟩ := Fn_.name
   (try simp at hxs19)
   rw [hx18]
   clear hx18 F16 Fn_
   by_cases c21 : z.m = u.m
   ·
    obtain ⟨c21a, c21b⟩ := bqt c21
    have c21H := lhd c21
    clear c21
    have Hx22 := lhd (show ((caseOf wb ms ts dl).bef u.m i) = ((c : Int) - 1) by rw [HR.out, HB.out, if_pos c21H.out]; omega)
    go_wp2_with fail
    go_ret
    exact ⟨by rw [Hx22.out] <;> rfl, F20.gb⟩
   obtain ⟨c21a, c21b⟩ := bqf c21
   have c21H := lhd c21
   clear c21
   go_wp2_with fail
   (first | refine ⟨rfl, ?_, ?_⟩ | refine ⟨?_, ?_⟩)
   · rw [HI7.out]; exact ⟨c - 1, rfl, rfl, (by show Value.int .i64 ((c : Int) - 1 - 1) = _; rw [show ((c : Int) - 1) - 1 = ((c - 1 : Nat) : Int) - 1 by omega]), (by omega), (by rw [HR.out, HB.out, if_neg c21H.out]), (by first | rfl | simp), (by first | omega | (simp; done) | (simp; omega)), F20⟩
   · simp [slot, intOf]; omega
  have c11H := lhd c11
  have c11a := dec_f c11
  have HE : Hid ((caseOf wb ms ts dl).bef u.m i = -1) := lhd (by rw [HR.out, show c = 0 by omega, Cs.bef])
  have Hx23 := lhd (show ((caseOf wb ms ts dl).bef u.m i) = -1 by exact HE.out)
  go_wp2_with fail
  go_ret
  exact ⟨by rw [Hx23.out] <;> rfl, hF8.gb⟩
 case atStart1 =>
  rw [HI7.out]
  exact ⟨i, rfl, rfl, rfl, Nat.le_refl _, rfl, rfl, (by first | exact Nat.le_refl _ | omega | (simp; done) | (simp; omega)), F1⟩
def HoldS (pd : Nat) (v1 v2 v3 v4 v5 : Value) (x : Mch) (b : Int) (A : World) : Prop := Bk A pd 69 #[v1, v2, v3, v4, v5] /\ Bk A (pd + 1) 30 #[.int .i64 x.mild, .int .i64 x.hard, .int .i64 x.shift] /\ Bk A (pd + 2) 3 #[.int .i64 b]
theorem HoldS.gb {pd : Nat} {v1 v2 v3 v4 v5 : Value} {x : Mch} {b : Int} {A B : World} (h : HoldS pd v1 v2 v3 v4 v5 x b A) {r : Option Nat} (hg : A.grownBy B r) (hr : ∀ g, r = some g -> ¬ (pd <= g /\ g < pd + 3)) : HoldS pd v1 v2 v3 v4 v5 x b B :=
 ⟨h.1.gb hg (fun e => by have := hr _ e.symm; omega), h.2.1.gb hg (fun e => by have := hr _ e.symm; omega), h.2.2.gb hg (fun e => by have := hr _ e.symm; omega)⟩
set_option maxHeartbeats 2000000 in
theorem shifts_c (v1 v2 v3 v4 v5 : Value) (x : Mch) (b : Int) (w : World)  :
  Calls Tryz.prog 69 #[.agg #[v1, v2, v3, v4, v5], .agg #[.int .i64 x.mild, .int .i64 x.hard, .int .i64 x.shift], .int .i64 b] w (fun e w' => ∃ pd, w.heap.size = pd /\ e = .returned (.func (.func 84) #[] #[.pointer (some ⟨pd + 2, 0, none⟩), .pointer (some ⟨pd, 0, none⟩), .pointer (some ⟨pd + 1, 0, none⟩)]) /\ w.grownBy w' none /\ HoldS pd v1 v2 v3 v4 v5 x b w') := by
 have F1 : Bun w [] w := Bun.nil _
 go_enter Tryz.func69, Tryz.ntmps69
 go_wp2_with fail
 replace F1 := F1.new 69 #[v1, v2, v3, v4, v5] (n := w.heap.size) (by simp)
 replace F1 := F1.new 30 #[.int .i64 x.mild, .int .i64 x.hard, .int .i64 x.shift] (n := (w.heap.size + 1)) (by simp)
 replace F1 := F1.new 3 #[.int .i64 b] (n := (w.heap.size + 2)) (by simp)
 exact bodyPost_ret (v := .func (.func 84) #[] #[.pointer (some ⟨w.heap.size + 2, 0, none⟩), .pointer (some ⟨w.heap.size, 0, none⟩), .pointer (some ⟨w.heap.size + 1, 0, none⟩)]) (by simp [results, Tryz.results69, go_sem]) rfl (⟨_, rfl, rfl, F1.gb, (F1.b 2 rfl), (F1.b 1 rfl), (F1.b 0 rfl)⟩)
end Go.Proofs.YtcoldeolmleeiaaGreat
