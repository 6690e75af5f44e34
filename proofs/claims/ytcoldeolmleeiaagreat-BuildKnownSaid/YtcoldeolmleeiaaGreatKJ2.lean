/- build and its reference: errors that are put together; hours, machines. -/
import Derived.Test.YtcoldeolmleeiaaGreatKKA
import Derived.Test.YtcoldeolmleeiaaGreatKKB
import Derived.Test.YtcoldeolmleeiaaGreatKKC
set_option linter.unusedVariables false
set_option linter.unusedSimpArgs false
set_option linter.unnecessarySimpa false
namespace Go.Proofs.YtcoldeolmleeiaaGreat
open Go.RowKit
set_option maxRecDepth 100000
theorem unless_c (b : Bool) (n : Int) (w : World) : Calls Tryz.prog 37 #[.bool b, .int .i64 n] w (fun e w' => e = .returned (.int .i64 (unl b n)) /\ w = w') := by
 cases b
 ·
  go_enter Tryz.func37, Tryz.ntmps37
  go_wp2_with fail
  go_ret
  exact ⟨rfl, rfl⟩
 go_enter Tryz.func37, Tryz.ntmps37
 go_wp2_with fail
 go_ret
 exact ⟨rfl, rfl⟩
theorem hours_t {a b : Int} (h : wth a 0 2000 = true) : spanErr a b 0 2000 = fstE [unl (wth b 0 2000) 2, unl (decide (a <= b)) 11] := by
 have h1 := wth_t h
 simp only [fstE, unl, spanErr, wth, decide_eq_true_eq]
 repeat' split
 all_goals omega
theorem hours_f {a b : Int} (h : wth a 0 2000 = false) : spanErr a b 0 2000 = fstE [unl false 2, unl (decide (a <= b)) 11] := by
 have h1 := wth_f h
 have e : unl false 2 = 2 := rfl
 rw [e, fstE, if_pos (by decide), spanErr, if_pos (by omega)]
theorem mch_t {x : Mch} (h : wth x.mild (-1000) 1000 = true) : mchErr x = fstE [unl (wth x.hard (-1000) 1000) 2, unl (decide (x.mild <= x.hard)) 11, unl (wth x.shift 1 24) 2] := by
 have h1 := wth_t h
 simp only [fstE, unl, mchErr, wth, decide_eq_true_eq]
 repeat' split
 all_goals omega
theorem mch_f {x : Mch} (h : wth x.mild (-1000) 1000 = false) : mchErr x = fstE [unl false 2, unl (decide (x.mild <= x.hard)) 11, unl (wth x.shift 1 24) 2] := by
 have h1 := wth_f h
 have e : unl false 2 = 2 := rfl
 rw [e, fstE, if_pos (by decide), mchErr, if_pos (by omega)]
theorem within_c (n lo hi : Int) (w : World)  :
  Calls Tryz.prog 29 #[.int .i64 n, .int .i64 lo, .int .i64 hi] w (fun e w' => e = .returned (.bool (wth n lo hi)) /\ w = w') := by
 have F1 : Bun w [] w := Bun.nil _
 go_enter Tryz.func29, Tryz.ntmps29
 by_cases c2 : lo <= n
 ·
  have c2H := lhd c2
  have Hx3 := lhd (show ((wth n lo hi : Bool)) = (decide (n <= hi)) by simp [wth]; omega)
  go_wp2_with fail
  go_ret
  exact ⟨by rw [Hx3.out] <;> rfl, rfl⟩
 have c2H := lhd c2
 have c2a := dec_f c2
 have Hx4 := lhd (show ((wth n lo hi : Bool)) = false by simp [wth]; omega)
 go_wp2_with fail
 go_ret
 exact ⟨by rw [Hx4.out] <;> rfl, rfl⟩
set_option maxHeartbeats 2000000 in
theorem first_c (lo hi : Nat) (v : Value) (l : List Int) (w : World) (hl : Sl intEnc 1 lo hi w v l) (h2 : hi <= w.heap.size) :
  Calls Tryz.prog 36 #[v] w (Ret (.int .i64 (fstE l)) w) := by
 have F1 : Bun w [] w := Bun.nil _
 have hm_l := hl.len
 unfold maxLen at hm_l
 obtain ⟨a, c, rfl⟩ := hl.any
 replace F1 := F1.sl0 hl h2 rfl
 clear hl
 go_enter Tryz.func36, Tryz.ntmps36
 go_wp2_with fail
 obtain ⟨HI3_, HI30⟩ : ∃ I : RelT, I = (fun t ds wr => ∃ (k : Nat), t 5 = .slice a l.length c /\ t 6 = .int .i64 (l.length : Int) /\ t 7 = .int .i64 (k : Int) /\ k <= l.length /\ fstE l = fstE (l.drop k) /\ ds = [] /\ w.heap.size <= wr.heap.size /\ Bun w [rsl intEnc 1 lo hi (.slice a l.length c) l] wr) := ⟨_, rfl⟩
 have HI3 := lhd HI30
 clear HI30
 refine wp_loopS 15 rfl HI3_ (fun t wr => l.length - (intOf (t 7)).toNat) ?atStart1 ?round1
 case round1 =>
  intro t ds wr hHid
  rw [HI3.out] at hHid
  obtain ⟨k, e5, e6, e7, hrel⟩ := hHid
  have e : ((List.range 15).map t).toArray = #[t 0, t 1, t 2, t 3, t 4, t 5, t 6, t 7, t 8, t 9, t 10, t 11, t 12, t 13, t 14] := rfl
  (try dsimp only at e)
  rw [e5, e6, e7] at e
  rw [e]
  simp only [e7]
  clear e e5 e6 e7
  obtain ⟨hk, hR, rfl, hs5, hF4⟩ := hrel
  clear F1
  obtain ⟨w6, rfl⟩ : ∃ x_ : World, x_ = wr := ⟨_, rfl⟩
  have HR := lhd hR
  clear hR
  by_cases c7 : (k : Int) < (l.length : Int)
  ·
   have c7H := lhd c7
   obtain ⟨x8, o9, e_⟩ := Sl.addr (hF4.s 0 rfl) (by omega)
   subst e_
   obtain ⟨z, hz10_⟩ : ∃ z_, l[k]? = some z_ := ⟨_, List.getElem?_eq_getElem (by omega)⟩
   have hz10 := lhd hz10_
   clear hz10_
   have HZ : Hid (fstE l = fstE (z :: l.drop (k + 1))) := lhd (by rw [HR.out, drop_cons hz10.out])
   by_cases c11 : z = 0
   ·
    obtain ⟨c11a, c11b⟩ := bqt c11
    have c11H := lhd c11
    clear c11
    have ge12 : World.cell? _ ⟨x8, o9 + k, none⟩ = some (.int .i64 z) := (by have h_ := Sl.cells (hF4.at 0 rfl) hz10.out 0 _ rfl; simpa using h_)
    have gl13 := cell_lt ge12
    go_wp2_with fail
    clear ge12 gl13
    (first | refine ⟨rfl, ?_, ?_⟩ | refine ⟨?_, ?_⟩)
    · rw [HI3.out]; exact ⟨k + 1, rfl, rfl, (by show Value.int .i64 ((k : Int) + 1) = _; simp), (by omega), (by rw [HZ.out, fstE, if_neg (not_not_intro c11H.out)]), (by first | rfl | simp), (by first | omega | (simp; done) | (simp; omega)), hF4⟩
    · simp [slot, intOf]; omega
   obtain ⟨c11a, c11b⟩ := bqf c11
   have c11H := lhd c11
   clear c11
   have Hx14 := lhd (show (fstE l) = z by rw [HZ.out, fstE, if_pos c11H.out])
   have ge15 : World.cell? _ ⟨x8, o9 + k, none⟩ = some (.int .i64 z) := (by have h_ := Sl.cells (hF4.at 0 rfl) hz10.out 0 _ rfl; simpa using h_)
   have gl16 := cell_lt ge15
   go_wp2_with fail
   clear ge15 gl16
   go_ret
   exact ⟨by rw [Hx14.out] <;> rfl, hF4.gb⟩
  have c7H := lhd c7
  have c7a := dec_f c7
  have HE : Hid (fstE l = 0) := lhd (by rw [HR.out, List.drop_eq_nil_of_le (by omega)]; rfl)
  have Hx17 := lhd (show (fstE l) = 0 by exact HE.out)
  go_wp2_with fail
  go_ret
  exact ⟨by rw [Hx17.out] <;> rfl, hF4.gb⟩
 case atStart1 =>
  rw [HI3.out]
  exact ⟨0, rfl, rfl, rfl, Nat.zero_le _, rfl, rfl, (by first | exact Nat.le_refl _ | omega | (simp; done) | (simp; omega)), F1⟩
set_option maxHeartbeats 4000000 in
theorem hours_c (a b : Int) (w : World)  :
  Calls Tryz.prog 38 #[.agg #[.int .i64 a, .int .i64 b]] w (Ret (.int .i64 (spanErr a b 0 2000)) w) := by
 have F1 : Bun w [] w := Bun.nil _
 go_enter Tryz.func38, Tryz.ntmps38
 cases c2 : wth a 0 2000
 ·
  have c2o := wth_f c2
  have c2H := lhd c2
  go_wp2_with fail
  replace F1 := F1.new 32 #[.int .i64 a, .int .i64 b] (n := w.heap.size) (by simp)
  have Fn_ := F1
  (try dsimp only [lpF, lpG] at Fn_)
  obtain ⟨w4, hx5, F7, hxs6⟩ := Fn_.name
  (try simp at hxs6)
  rw [hx5]
  clear hx5 F1 Fn_
  replace F7 := F7.drew
  refine ru_begin (fun W => C2 W w.heap.size (.int .i64 a) (.int .i64 b)) 17 (by kernel_rfl) ?_ ?_
  · exact (F7.c2 0)
  obtain ⟨wd10, hwd_⟩ : ∃ x : World, w4.drew = x := ⟨_, rfl⟩
  rw [hwd_] at F7 ⊢
  have wd10s : w4.heap.size <= wd10.heap.size := by rw [← hwd_]; exact Nat.le_refl _
  clear hwd_
  have hS9 := (F7.c2 0)
  refine ru_t 0 [] ?_
  refine ru_t 1 [] ?_
  refine ru_t 9 [] ?_
  refine ru_t 10 [] ?_
  refine ru_t 11 [] ?_
  refine ru_t 12 [] ?_
  refine ru_t 13 [] ?_
  (try simp only [lpX])
  clear hS9
  refine ru_o 2 fun K hK => ?_
  go_simp
  refine (within_c _ _ _ _).mono ?_
  rintro e _ ⟨rfl, rfl⟩
  refine ru_back hK (by exact (F7.c2 0)) (fun _ => ?_)
  clear hK K
  (try simp only [lpX])
  refine ru_p 3 ?_
  (try simp only [lpX])
  refine ru_ps 4 ?_
  (try simp only [lpX])
  refine ru_ps 5 ?_
  (try simp only [lpX])
  refine ru_ps 6 ?_
  (try simp only [lpX])
  refine ru_p 7 ?_
  (try simp only [lpX])
  refine ru_o 8 fun K hK => ?_
  go_simp
  refine (unless_c _ _ _).mono ?_
  rintro e _ ⟨rfl, rfl⟩
  refine ru_back hK (by exact (F7.c2 0)) (fun _ => ?_)
  clear hK K
  (try simp only [lpX])
  refine ru_o 14 fun K hK => ?_
  go_simp
  refine (unless_c _ _ _).mono ?_
  rintro e _ ⟨rfl, rfl⟩
  refine ru_back hK (by exact (F7.c2 0)) (fun _ => ?_)
  clear hK K
  (try simp only [lpX])
  refine ru_o 15 fun K hK => ?_
  go_simp
  replace F7 := F7.new 36 #[.int .i64 (unl false 2), .int .i64 (unl (decide (a <= b)) 11)] (n := wd10.heap.size) (by simp)
  refine ru_back hK (by exact (F7.c2 1)) (fun _ => ?_)
  clear hK K
  (try simp only [lpX])
  refine ru_o 16 fun K hK => ?_
  go_simp
  refine (first_c wd10.heap.size (wd10.heap.size + 1) _ [unl false 2, unl (decide (a <= b)) 11] _ (slI_of [unl false 2, unl (decide (a <= b)) 11] 2 2 (F7.b 0 rfl) rfl rfl (by omega)) ((F7.b 0 rfl)).lt).mono ?_
  rintro e w14 ⟨rfl, hg12⟩
  have hg12s := hg12.size
  (try simp at hg12s)
  replace F7 := F7.gn hg12
  refine ru_back hK (by exact (F7.c2 1)) (fun _ => ?_)
  clear hK K
  (try simp only [lpX])
  refine ru_o 17 fun K hK => ?_
  go_simp
  refine ru_back_late hK (by kernel_rfl) ?_
  clear hK K
  (try simp only [lpX])
  refine ru_done (by kernel_rfl) ?_
  have Fn_ := ((F7.drop 0 rfl).drop 0 rfl)
  (try dsimp only [lpF, lpG] at Fn_)
  obtain ⟨w16, hx17, F19, hxs18⟩ := Fn_.name
  (try simp at hxs18)
  rw [hx17]
  clear hx17 F7 Fn_
  have Hx20 := lhd (show (spanErr a b 0 2000) = fstE [unl false 2, unl (decide (a <= b)) 11] by exact hours_f c2H.out)
  go_wp2_with fail
  go_ret
  exact ⟨by rw [Hx20.out] <;> rfl, F19.gb⟩
 have c2o := wth_t c2
 have c2H := lhd c2
 go_wp2_with fail
 replace F1 := F1.new 32 #[.int .i64 a, .int .i64 b] (n := w.heap.size) (by simp)
 have Fn_ := F1
 (try dsimp only [lpF, lpG] at Fn_)
 obtain ⟨w22, hx23, F25, hxs24⟩ := Fn_.name
 (try simp at hxs24)
 rw [hx23]
 clear hx23 F1 Fn_
 replace F25 := F25.drew
 refine ru_begin (fun W => C2 W w.heap.size (.int .i64 a) (.int .i64 b)) 17 (by kernel_rfl) ?_ ?_
 · exact (F25.c2 0)
 obtain ⟨wd28, hwd_⟩ : ∃ x : World, w22.drew = x := ⟨_, rfl⟩
 rw [hwd_] at F25 ⊢
 have wd28s : w22.heap.size <= wd28.heap.size := by rw [← hwd_]; exact Nat.le_refl _
 clear hwd_
 have hS27 := (F25.c2 0)
 refine ru_t 0 [] ?_
 refine ru_t 1 [] ?_
 refine ru_t 9 [] ?_
 refine ru_t 10 [] ?_
 refine ru_t 11 [] ?_
 refine ru_t 12 [] ?_
 refine ru_t 13 [] ?_
 (try simp only [lpX])
 clear hS27
 refine ru_o 2 fun K hK => ?_
 go_simp
 refine (within_c _ _ _ _).mono ?_
 rintro e _ ⟨rfl, rfl⟩
 refine ru_back hK (by exact (F25.c2 0)) (fun _ => ?_)
 clear hK K
 (try simp only [lpX])
 refine ru_p 3 ?_
 (try simp only [lpX])
 refine ru_p 4 ?_
 (try simp only [lpX])
 refine ru_t 5 [] ?_
 (try simp only [lpX])
 refine ru_o 6 fun K hK => ?_
 go_simp
 refine (within_c _ _ _ _).mono ?_
 rintro e _ ⟨rfl, rfl⟩
 refine ru_back hK (by exact (F25.c2 0)) (fun _ => ?_)
 clear hK K
 (try simp only [lpX])
 refine ru_p 7 ?_
 (try simp only [lpX])
 refine ru_o 8 fun K hK => ?_
 go_simp
 refine (unless_c _ _ _).mono ?_
 rintro e _ ⟨rfl, rfl⟩
 refine ru_back hK (by exact (F25.c2 0)) (fun _ => ?_)
 clear hK K
 (try simp only [lpX])
 refine ru_o 14 fun K hK => ?_
 go_simp
 refine (unless_c _ _ _).mono ?_
 rintro e _ ⟨rfl, rfl⟩
 refine ru_back hK (by exact (F25.c2 0)) (fun _ => ?_)
 clear hK K
 (try simp only [lpX])
 refine ru_o 15 fun K hK => ?_
 go_simp
 replace F25 := F25.new 36 #[.int .i64 (unl (wth b 0 2000) 2), .int .i64 (unl (decide (a <= b)) 11)] (n := wd28.heap.size) (by simp)
 refine ru_back hK (by exact (F25.c2 1)) (fun _ => ?_)
 clear hK K
 (try simp only [lpX])
 refine ru_o 16 fun K hK => ?_
 go_simp
 refine (first_c wd28.heap.size (wd28.heap.size + 1) _ [unl (wth b 0 2000) 2, unl (decide (a <= b)) 11] _ (slI_of [unl (wth b 0 2000) 2, unl (decide (a <= b)) 11] 2 2 (F25.b 0 rfl) rfl rfl (by omega)) ((F25.b 0 rfl)).lt).mono ?_
 rintro e w32 ⟨rfl, hg30⟩
 have hg30s := hg30.size
 (try simp at hg30s)
 replace F25 := F25.gn hg30
 refine ru_back hK (by exact (F25.c2 1)) (fun _ => ?_)
 clear hK K
 (try simp only [lpX])
 refine ru_o 17 fun K hK => ?_
 go_simp
 refine ru_back_late hK (by kernel_rfl) ?_
 clear hK K
 (try simp only [lpX])
 refine ru_done (by kernel_rfl) ?_
 have Fn_ := ((F25.drop 0 rfl).drop 0 rfl)
 (try dsimp only [lpF, lpG] at Fn_)
 obtain ⟨w34, hx35, F37, hxs36⟩ := Fn_.name
 (try simp at hxs36)
 rw [hx35]
 clear hx35 F25 Fn_
 have Hx38 := lhd (show (spanErr a b 0 2000) = fstE [unl (wth b 0 2000) 2, unl (decide (a <= b)) 11] by exact hours_t c2H.out)
 go_wp2_with fail
 go_ret
 exact ⟨by rw [Hx38.out] <;> rfl, F37.gb⟩
set_option maxHeartbeats 4000000 in
theorem machine_c (x : Mch) (w : World)  :
  Calls Tryz.prog 17 #[.agg #[.int .i64 x.mild, .int .i64 x.hard, .int .i64 x.shift]] w (Ret (.int .i64 (mchErr x)) w) := by
 have F1 : Bun w [] w := Bun.nil _
 go_enter Tryz.func17, Tryz.ntmps17
 cases c2 : wth x.mild (-1000) 1000
 ·
  have c2o := wth_f c2
  have c2H := lhd c2
  go_wp2_with fail
  replace F1 := F1.new 30 #[.int .i64 x.mild, .int .i64 x.hard, .int .i64 x.shift] (n := w.heap.size) (by simp)
  have Fn_ := F1
  (try dsimp only [lpF, lpG] at Fn_)
  obtain ⟨w4, hx5, F7, hxs6⟩ := Fn_.name
  (try simp at hxs6)
  rw [hx5]
  clear hx5 F1 Fn_
  replace F7 := F7.drew
  refine ru_begin (fun W => C3 W w.heap.size (.int .i64 x.mild) (.int .i64 x.hard) (.int .i64 x.shift)) 21 (by kernel_rfl) ?_ ?_
  · exact (F7.c3 0)
  obtain ⟨wd10, hwd_⟩ : ∃ x : World, w4.drew = x := ⟨_, rfl⟩
  rw [hwd_] at F7 ⊢
  have wd10s : w4.heap.size <= wd10.heap.size := by rw [← hwd_]; exact Nat.le_refl _
  clear hwd_
  have hS9 := (F7.c3 0)
  refine ru_t 0 [] ?_
  refine ru_t 1 [] ?_
  refine ru_t 9 [] ?_
  refine ru_t 10 [] ?_
  refine ru_t 11 [] ?_
  refine ru_t 12 [] ?_
  refine ru_t 13 [] ?_
  refine ru_t 15 [] ?_
  refine ru_t 16 [] ?_
  (try simp only [lpX])
  clear hS9
  refine ru_o 2 fun K hK => ?_
  go_simp
  refine (within_c _ _ _ _).mono ?_
  rintro e _ ⟨rfl, rfl⟩
  refine ru_back hK (by exact (F7.c3 0)) (fun _ => ?_)
  clear hK K
  (try simp only [lpX])
  refine ru_p 3 ?_
  (try simp only [lpX])
  refine ru_ps 4 ?_
  (try simp only [lpX])
  refine ru_ps 5 ?_
  (try simp only [lpX])
  refine ru_ps 6 ?_
  (try simp only [lpX])
  refine ru_p 7 ?_
  (try simp only [lpX])
  refine ru_o 8 fun K hK => ?_
  go_simp
  refine (unless_c _ _ _).mono ?_
  rintro e _ ⟨rfl, rfl⟩
  refine ru_back hK (by exact (F7.c3 0)) (fun _ => ?_)
  clear hK K
  (try simp only [lpX])
  refine ru_o 14 fun K hK => ?_
  go_simp
  refine (unless_c _ _ _).mono ?_
  rintro e _ ⟨rfl, rfl⟩
  refine ru_back hK (by exact (F7.c3 0)) (fun _ => ?_)
  clear hK K
  (try simp only [lpX])
  refine ru_o 17 fun K hK => ?_
  go_simp
  refine (within_c _ _ _ _).mono ?_
  rintro e _ ⟨rfl, rfl⟩
  refine ru_back hK (by exact (F7.c3 0)) (fun _ => ?_)
  clear hK K
  (try simp only [lpX])
  refine ru_o 18 fun K hK => ?_
  go_simp
  refine (unless_c _ _ _).mono ?_
  rintro e _ ⟨rfl, rfl⟩
  refine ru_back hK (by exact (F7.c3 0)) (fun _ => ?_)
  clear hK K
  (try simp only [lpX])
  refine ru_o 19 fun K hK => ?_
  go_simp
  replace F7 := F7.new 36 #[.int .i64 (unl false 2), .int .i64 (unl (decide (x.mild <= x.hard)) 11), .int .i64 (unl (wth x.shift 1 24) 2)] (n := wd10.heap.size) (by simp)
  refine ru_back hK (by exact (F7.c3 1)) (fun _ => ?_)
  clear hK K
  (try simp only [lpX])
  refine ru_o 20 fun K hK => ?_
  go_simp
  refine (first_c wd10.heap.size (wd10.heap.size + 1) _ [unl false 2, unl (decide (x.mild <= x.hard)) 11, unl (wth x.shift 1 24) 2] _ (slI_of [unl false 2, unl (decide (x.mild <= x.hard)) 11, unl (wth x.shift 1 24) 2] 3 3 (F7.b 0 rfl) rfl rfl (by omega)) ((F7.b 0 rfl)).lt).mono ?_
  rintro e w14 ⟨rfl, hg12⟩
  have hg12s := hg12.size
  (try simp at hg12s)
  replace F7 := F7.gn hg12
  refine ru_back hK (by exact (F7.c3 1)) (fun _ => ?_)
  clear hK K
  (try simp only [lpX])
  refine ru_o 21 fun K hK => ?_
  go_simp
  refine ru_back_late hK (by kernel_rfl) ?_
  clear hK K
  (try simp only [lpX])
  refine ru_done (by kernel_rfl) ?_
  have Fn_ := ((F7.drop 0 rfl).drop 0 rfl)
  (try dsimp only [lpF, lpG] at Fn_)
  obtain ⟨w16, hx17, F19, hxs18⟩ := Fn_.name
  (try simp at hxs18)
  rw [hx17]
  clear hx17 F7 Fn_
  have Hx20 := lhd (show (mchErr x) = fstE [unl false 2, unl (decide (x.mild <= x.hard)) 11, unl (wth x.shift 1 24) 2] by exact mch_f c2H.out)
  go_wp2_with fail
  go_ret
  exact ⟨by rw [Hx20.out] <;> rfl, F19.gb⟩
 have c2o := wth_t c2
 have c2H := lhd c2
 go_wp2_with fail
 replace F1 := F1.new 30 #[.int .i64 x.mild, .int .i64 x.hard, .int .i64 x.shift] (n := w.heap.size) (by simp)
 have Fn_ := F1
 (try dsimp only [lpF, lpG] at Fn_)
 obtain ⟨w22, hx23, F25, hxs24⟩ := Fn_.name
 (try simp at hxs24)
 rw [hx23]
 clear hx23 F1 Fn_
 replace F25 := F25.drew
 refine ru_begin (fun W => C3 W w.heap.size (.int .i64 x.mild) (.int .i64 x.hard) (.int .i64 x.shift)) 21 (by kernel_rfl) ?_ ?_
 · exact (F25.c3 0)
 obtain ⟨wd28, hwd_⟩ : ∃ x : World, w22.drew = x := ⟨_, rfl⟩
 rw [hwd_] at F25 ⊢
 have wd28s : w22.heap.size <= wd28.heap.size := by rw [← hwd_]; exact Nat.le_refl _
 clear hwd_
 have hS27 := (F25.c3 0)
 refine ru_t 0 [] ?_
 refine ru_t 1 [] ?_
 refine ru_t 9 [] ?_
 refine ru_t 10 [] ?_
 refine ru_t 11 [] ?_
 refine ru_t 12 [] ?_
 refine ru_t 13 [] ?_
 refine ru_t 15 [] ?_
 refine ru_t 16 [] ?_
 (try simp only [lpX])
 clear hS27
 refine ru_o 2 fun K hK => ?_
 go_simp
 refine (within_c _ _ _ _).mono ?_
 rintro e _ ⟨rfl, rfl⟩
 refine ru_back hK (by exact (F25.c3 0)) (fun _ => ?_)
 clear hK K
 (try simp only [lpX])
 refine ru_p 3 ?_
 (try simp only [lpX])
 refine ru_p 4 ?_
 (try simp only [lpX])
 refine ru_t 5 [] ?_
 (try simp only [lpX])
 refine ru_o 6 fun K hK => ?_
 go_simp
 refine (within_c _ _ _ _).mono ?_
 rintro e _ ⟨rfl, rfl⟩
 refine ru_back hK (by exact (F25.c3 0)) (fun _ => ?_)
 clear hK K
 (try simp only [lpX])
 refine ru_p 7 ?_
 (try simp only [lpX])
 refine ru_o 8 fun K hK => ?_
 go_simp
 refine (unless_c _ _ _).mono ?_
 rintro e _ ⟨rfl, rfl⟩
 refine ru_back hK (by exact (F25.c3 0)) (fun _ => ?_)
 clear hK K
 (try simp only [lpX])
 refine ru_o 14 fun K hK => ?_
 go_simp
 refine (unless_c _ _ _).mono ?_
 rintro e _ ⟨rfl, rfl⟩
 refine ru_back hK (by exact (F25.c3 0)) (fun _ => ?_)
 clear hK K
 (try simp only [lpX])
 refine ru_o 17 fun K hK => ?_
 go_simp
 refine (within_c _ _ _ _).mono ?_
 rintro e _ ⟨rfl, rfl⟩
 refine ru_back hK (by exact (F25.c3 0)) (fun _ => ?_)
 clear hK K
 (try simp only [lpX])
 refine ru_o 18 fun K hK => ?_
 go_simp
 refine (unless_c _ _ _).mono ?_
 rintro e _ ⟨rfl, rfl⟩
 refine ru_back hK (by exact (F25.c3 0)) (fun _ => ?_)
 clear hK K
 (try simp only [lpX])
 refine ru_o 19 fun K hK => ?_
 go_simp
 replace F25 := F25.new 36 #[.int .i64 (unl (wth x.hard (-1000) 1000) 2), .int .i64 (unl (decide (x.mild <= x.hard)) 11), .int .i64 (unl (wth x.shift 1 24) 2)] (n := wd28.heap.size) (by simp)
 refine ru_back hK (by exact (F25.c3 1)) (fun _ => ?_)
 clear hK K
 (try simp only [lpX])
 refine ru_o 20 fun K hK => ?_
 go_simp
 refine (first_c wd28.heap.size (wd28.heap.size + 1) _ [unl (wth x.hard (-1000) 1000) 2, unl (decide (x.mild <= x.hard)) 11, unl (wth x.shift 1 24) 2] _ (slI_of [unl (wth x.hard (-1000) 1000) 2, unl (decide (x.mild <= x.hard)) 11, unl (wth x.shift 1 24) 2] 3 3 (F25.b 0 rfl) rfl rfl (by omega)) ((F25.b 0 rfl)).lt).mono ?_
 rintro e w32 ⟨rfl, hg30⟩
 have hg30s := hg30.size
 (try simp at hg30s)
 replace F25 := F25.gn hg30
 refine ru_back hK (by exact (F25.c3 1)) (fun _ => ?_)
 clear hK K
 (try simp only [lpX])
 refine ru_o 21 fun K hK => ?_
 go_simp
 refine ru_back_late hK (by kernel_rfl) ?_
 clear hK K
 (try simp only [lpX])
 refine ru_done (by kernel_rfl) ?_
 have Fn_ := ((F25.drop 0 rfl).drop 0 rfl)
 (try dsimp only [lpF, lpG] at Fn_)
 obtain ⟨w34, hx35, F37, hxs36⟩ := Fn_.name
 (try simp at hxs36)
 rw [hx35]
 clear hx35 F25 Fn_
 have Hx38 := lhd (show (mchErr x) = fstE [unl (wth x.hard (-1000) 1000) 2, unl (decide (x.mild <= x.hard)) 11, unl (wth x.shift 1 24) 2] by exact mch_t c2H.out)
 go_wp2_with fail
 go_ret
 exact ⟨by rw [Hx38.out] <;> rfl, F37.gb⟩
end Go.Proofs.YtcoldeolmleeiaaGreat
