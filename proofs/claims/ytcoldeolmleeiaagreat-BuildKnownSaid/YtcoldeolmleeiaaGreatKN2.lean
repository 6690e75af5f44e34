/- build and its reference: nets: what is wrong with them; legs. -/
import Derived.Test.YtcoldeolmleeiaaGreatKJ2
import Derived.Test.YtcoldeolmleeiaaGreatKKN
set_option linter.unusedVariables false
set_option linter.unusedSimpArgs false
set_option linter.unnecessarySimpa false
namespace Go.Proofs.YtcoldeolmleeiaaGreat
open Go.RowKit
set_option maxRecDepth 100000
theorem leg_sum {n : Int} {l : Lg} : lgErr n l = fstE [unl (wth l.a 0 (n - 1) && wth l.b 0 (n - 1)) 7, unl (l.a != l.b) 12, unl (wth l.long 1 1000000 && wth l.cost 0 100000) 2, unl (wth l.op 1 3) 4] := by
 simp only [fstE, unl, wth, lgErr, Bool.and_eq_true, decide_eq_true_eq, bne_iff_ne, ne_eq]
 repeat' split
 all_goals omega
theorem net_bad {n : Int} {ls : List Lg} (h : ¬ fstE [unl (wth n 1 40) 2, unl (decide ((ls.length : Int) <= 200)) 8] = 0) : netErr n ls = fstE [unl (wth n 1 40) 2, unl (decide ((ls.length : Int) <= 200)) 8] := by
 simp only [fstE, unl, wth, netErr, decide_eq_true_eq] at h ⊢
 revert h
 repeat' split
 all_goals first | omega | (intros; omega)
theorem net_good {n : Int} {ls : List Lg} (h : fstE [unl (wth n 1 40) 2, unl (decide ((ls.length : Int) <= 200)) 8] = 0) : netErr n ls = lgsErr n ls := by
 simp only [fstE, unl, wth, netErr, decide_eq_true_eq] at h ⊢
 revert h
 repeat' split
 all_goals first | omega | (intros; first | rfl | omega)
def useP (l : Lg) : Bool := !decide (l.op = 2)
def useS (l : Lg) : Bool := decide (l.op = 1)
set_option maxHeartbeats 2000000 in
theorem other_c (l : Lg) (x : Int) (w : World)  :
  Calls Tryz.prog 35 #[.agg #[.int .i64 l.a, .int .i64 l.b, .int .i64 l.long, .int .i64 l.op, .int .i64 l.cost], .int .i64 x] w (Ret (.int .i64 (oth l x)) w) := by
 have F1 : Bun w [] w := Bun.nil _
 go_enter Tryz.func35, Tryz.ntmps35
 by_cases c2 : x = l.a
 ·
  obtain ⟨c2a, c2b⟩ := bqt c2
  have c2H := lhd c2
  clear c2
  have Hx3 := lhd (show (oth l x) = l.b by rw [oth, if_pos c2H.out])
  go_wp2_with fail
  replace F1 := F1.new 94 #[.int .i64 l.a, .int .i64 l.b, .int .i64 l.long, .int .i64 l.op, .int .i64 l.cost] (n := w.heap.size) (by simp)
  go_ret
  exact ⟨by rw [Hx3.out] <;> rfl, F1.gb⟩
 obtain ⟨c2a, c2b⟩ := bqf c2
 have c2H := lhd c2
 clear c2
 by_cases c5 : x = l.b
 ·
  obtain ⟨c5a, c5b⟩ := bqt c5
  have c5H := lhd c5
  clear c5
  have Hx6 := lhd (show (oth l x) = l.a by rw [oth, if_neg c2H.out, if_pos c5H.out])
  go_wp2_with fail
  replace F1 := F1.new 94 #[.int .i64 l.a, .int .i64 l.b, .int .i64 l.long, .int .i64 l.op, .int .i64 l.cost] (n := w.heap.size) (by simp)
  go_ret
  exact ⟨by rw [Hx6.out] <;> rfl, F1.gb⟩
 obtain ⟨c5a, c5b⟩ := bqf c5
 have c5H := lhd c5
 clear c5
 have Hx8 := lhd (show (oth l x) = -1 by rw [oth, if_neg c2H.out, if_neg c5H.out])
 go_wp2_with fail
 replace F1 := F1.new 94 #[.int .i64 l.a, .int .i64 l.b, .int .i64 l.long, .int .i64 l.op, .int .i64 l.cost] (n := w.heap.size) (by simp)
 go_ret
 exact ⟨by rw [Hx8.out] <;> rfl, F1.gb⟩
theorem useP_c (l : Lg) (w : World)  :
  Calls Tryz.prog 31 #[.agg #[.int .i64 l.a, .int .i64 l.b, .int .i64 l.long, .int .i64 l.op, .int .i64 l.cost]] w (Ret (.bool (useP l)) w) := by
 have F1 : Bun w [] w := Bun.nil _
 go_enter Tryz.func31, Tryz.ntmps31
 have Hx2 := lhd (show ((useP l : Bool)) = (l.op != 2) by by_cases hv : l.op = 2 <;> simp [useP, hv])
 go_wp2_with fail
 replace F1 := F1.new 94 #[.int .i64 l.a, .int .i64 l.b, .int .i64 l.long, .int .i64 l.op, .int .i64 l.cost] (n := w.heap.size) (by simp)
 go_ret
 exact ⟨by rw [Hx2.out] <;> rfl, F1.gb⟩
theorem useS_c (l : Lg) (w : World)  :
  Calls Tryz.prog 32 #[.agg #[.int .i64 l.a, .int .i64 l.b, .int .i64 l.long, .int .i64 l.op, .int .i64 l.cost]] w (Ret (.bool (useS l)) w) := by
 have F1 : Bun w [] w := Bun.nil _
 go_enter Tryz.func32, Tryz.ntmps32
 have Hx2 := lhd (show ((useS l : Bool)) = (l.op == 1) by by_cases hv : l.op = 1 <;> simp [useS, hv])
 go_wp2_with fail
 replace F1 := F1.new 94 #[.int .i64 l.a, .int .i64 l.b, .int .i64 l.long, .int .i64 l.op, .int .i64 l.cost] (n := w.heap.size) (by simp)
 go_ret
 exact ⟨by rw [Hx2.out] <;> rfl, F1.gb⟩
theorem isNaN_c (x : Int) (w : World)  :
  Calls Tryz.prog 79 #[.int .i64 x] w (fun e w' => e = .returned (.bool false) /\ w = w') := by
 have F1 : Bun w [] w := Bun.nil _
 go_enter Tryz.func79, Tryz.ntmps79
 go_wp2_with fail
 go_ret
 exact ⟨rfl, rfl⟩
theorem cmp1_c (x y : Int) (w : World)  :
  Calls Tryz.prog 63 #[.int .i64 x, .int .i64 y] w (fun e w' => e = .returned (.int .i64 (cmpI x y)) /\ w = w') := by
 have F1 : Bun w [] w := Bun.nil _
 go_enter Tryz.func63, Tryz.ntmps63
 go_wp2_with fail
 refine (isNaN_c _ _).mono ?_
 rintro e _ ⟨rfl, rfl⟩
 go_wp2_with fail
 refine (isNaN_c _ _).mono ?_
 rintro e _ ⟨rfl, rfl⟩
 by_cases c2 : x < y
 ·
  have c2H := lhd c2
  have Hx3 := lhd (show (cmpI x y) = -1 by unfold cmpI; (repeat' split) <;> omega)
  go_wp2_with fail
  go_ret
  exact ⟨by rw [Hx3.out] <;> rfl, rfl⟩
 have c2H := lhd c2
 have c2a := dec_f c2
 by_cases c4 : y < x
 ·
  have c4H := lhd c4
  have Hx5 := lhd (show (cmpI x y) = 1 by unfold cmpI; (repeat' split) <;> omega)
  go_wp2_with fail
  go_ret
  exact ⟨by rw [Hx5.out] <;> rfl, rfl⟩
 have c4H := lhd c4
 have c4a := dec_f c4
 have Hx6 := lhd (show (cmpI x y) = 0 by unfold cmpI; (repeat' split) <;> omega)
 go_wp2_with fail
 go_ret
 exact ⟨by rw [Hx6.out] <;> rfl, rfl⟩
set_option maxHeartbeats 2000000 in
theorem or_c (lo hi : Nat) (v : Value) (l : List Int) (w : World) (hl : Sl intEnc 1 lo hi w v l) (h2 : hi <= w.heap.size) :
  Calls Tryz.prog 82 #[v] w (Ret (.int .i64 (fstE l)) w) := by
 have F1 : Bun w [] w := Bun.nil _
 have hm_l := hl.len
 unfold maxLen at hm_l
 obtain ⟨a, c, rfl⟩ := hl.any
 replace F1 := F1.sl0 hl h2 rfl
 clear hl
 go_enter Tryz.func82, Tryz.ntmps82
 go_wp2_with fail
 obtain ⟨HI3_, HI30⟩ : ∃ I : RelT, I = (fun t ds wr => ∃ (k : Nat), t 3 = .int .i64 0 /\ t 6 = .slice a l.length c /\ t 7 = .int .i64 (l.length : Int) /\ t 8 = .int .i64 (k : Int) /\ k <= l.length /\ fstE l = fstE (l.drop k) /\ ds = [] /\ w.heap.size <= wr.heap.size /\ Bun w [rsl intEnc 1 lo hi (.slice a l.length c) l] wr) := ⟨_, rfl⟩
 have HI3 := lhd HI30
 clear HI30
 refine wp_loopS 18 rfl HI3_ (fun t wr => l.length - (intOf (t 8)).toNat) ?atStart1 ?round1
 case round1 =>
  intro t ds wr hHid
  rw [HI3.out] at hHid
  obtain ⟨k, e3, e6, e7, e8, hrel⟩ := hHid
  have e : ((List.range 18).map t).toArray = #[t 0, t 1, t 2, t 3, t 4, t 5, t 6, t 7, t 8, t 9, t 10, t 11, t 12, t 13, t 14, t 15, t 16, t 17] := rfl
  (try dsimp only at e)
  rw [e3, e6, e7, e8] at e
  rw [e]
  simp only [e8]
  clear e e3 e6 e7 e8
  obtain ⟨hk, hR, rfl, hs5, hF4⟩ := hrel
  clear F1
  obtain ⟨w6, rfl⟩ : ∃ x_ : World, x_ = wr := ⟨_, rfl⟩
  have HR := lhd hR
  clear hR
  by_cases c7 : (k : Int) < (l.length : Int)
  ·
   have c7H := lhd c7
   obtain ⟨x8, o9, e_⟩ := Sl.addr (hF4.s 0 rfl) (by omega)
   subst e_
   obtain ⟨z, hz10_⟩ : ∃ z_, l[k]? = some z_ := ⟨_, List.getElem?_eq_getElem (by omega)⟩
   have hz10 := lhd hz10_
   clear hz10_
   have HZ : Hid (fstE l = fstE (z :: l.drop (k + 1))) := lhd (by rw [HR.out, drop_cons hz10.out])
   by_cases c11 : z = 0
   ·
    obtain ⟨c11a, c11b⟩ := bqt c11
    have c11H := lhd c11
    clear c11
    have ge12 : World.cell? _ ⟨x8, o9 + k, none⟩ = some (.int .i64 z) := (by have h_ := Sl.cells (hF4.at 0 rfl) hz10.out 0 _ rfl; simpa using h_)
    have gl13 := cell_lt ge12
    go_wp2_with fail
    clear ge12 gl13
    (first | refine ⟨rfl, ?_, ?_⟩ | refine ⟨?_, ?_⟩)
    · rw [HI3.out]; exact ⟨k + 1, rfl, rfl, rfl, (by show Value.int .i64 ((k : Int) + 1) = _; simp), (by omega), (by rw [HZ.out, fstE, if_neg (not_not_intro c11H.out)]), (by first | rfl | simp), (by first | omega | (simp; done) | (simp; omega)), hF4⟩
    · simp [slot, intOf]; omega
   obtain ⟨c11a, c11b⟩ := bqf c11
   have c11H := lhd c11
   clear c11
   have Hx14 := lhd (show (fstE l) = z by rw [HZ.out, fstE, if_pos c11H.out])
   have ge15 : World.cell? _ ⟨x8, o9 + k, none⟩ = some (.int .i64 z) := (by have h_ := Sl.cells (hF4.at 0 rfl) hz10.out 0 _ rfl; simpa using h_)
   have gl16 := cell_lt ge15
   go_wp2_with fail
   clear ge15 gl16
   go_ret
   exact ⟨by rw [Hx14.out] <;> rfl, hF4.gb⟩
  have c7H := lhd c7
  have c7a := dec_f c7
  have HE : Hid (fstE l = 0) := lhd (by rw [HR.out, List.drop_eq_nil_of_le (by omega)]; rfl)
  have Hx17 := lhd (show (fstE l) = 0 by exact HE.out)
  go_wp2_with fail
  go_ret
  exact ⟨by rw [Hx17.out] <;> rfl, hF4.gb⟩
 case atStart1 =>
  rw [HI3.out]
  exact ⟨0, rfl, rfl, rfl, rfl, Nat.zero_le _, rfl, rfl, (by first | exact Nat.le_refl _ | omega | (simp; done) | (simp; omega)), F1⟩
set_option maxHeartbeats 4000000 in
theorem compare_c (a b c d : Int) (w : World)  :
  Calls Tryz.prog 66 #[.agg #[.int .i64 a, .int .i64 b], .agg #[.int .i64 c, .int .i64 d]] w (Ret (.int .i64 (fstE [cmpI a c, cmpI b d])) w) := by
 have F1 : Bun w [] w := Bun.nil _
 go_enter Tryz.func66, Tryz.ntmps66
 go_wp2_with fail
 replace F1 := F1.new 89 #[.int .i64 a, .int .i64 b] (n := w.heap.size) (by simp)
 replace F1 := F1.new 89 #[.int .i64 c, .int .i64 d] (n := (w.heap.size + 1)) (by simp)
 have Fn_ := F1
 (try dsimp only [lpF, lpG] at Fn_)
 obtain ⟨w4, hx5, F7, hxs6⟩ := Fn_.name
 (try simp at hxs6)
 rw [hx5]
 clear hx5 F1 Fn_
 replace F7 := F7.drew
 refine ru_begin (fun W => W.cell? ⟨w.heap.size, 0, none⟩ = some (.int .i64 a) /\ W.cell? ⟨(w.heap.size + 1), 0, none⟩ = some (.int .i64 c) /\ W.cell? ⟨w.heap.size, 1, none⟩ = some (.int .i64 b) /\ W.cell? ⟨(w.heap.size + 1), 1, none⟩ = some (.int .i64 d)) 12 (by kernel_rfl) ?_ ?_
 · exact ⟨F7.q 1 0, F7.q 0 0, F7.q 1 1, F7.q 0 1⟩
 obtain ⟨wd10, hwd_⟩ : ∃ x : World, w4.drew = x := ⟨_, rfl⟩
 rw [hwd_] at F7 ⊢
 have wd10s : w4.heap.size <= wd10.heap.size := by rw [← hwd_]; exact Nat.le_refl _
 clear hwd_
 have hS9 := (And.intro (F7.q 1 0) (And.intro (F7.q 0 0) (And.intro (F7.q 1 1) (F7.q 0 1))))
 refine ru_t 0 [] ?_
 refine ru_t 1 [] ?_
 refine ru_t 2 [] ?_
 refine ru_t 3 [] ?_
 refine ru_t 5 [] ?_
 refine ru_t 6 [] ?_
 refine ru_t 7 [] ?_
 refine ru_t 8 [] ?_
 (try simp only [lpX])
 clear hS9
 refine ru_o 4 fun K hK => ?_
 go_simp
 refine (cmp1_c _ _ _).mono ?_
 rintro e _ ⟨rfl, rfl⟩
 refine ru_back hK (by exact ⟨F7.q 1 0, F7.q 0 0, F7.q 1 1, F7.q 0 1⟩) (fun _ => ?_)
 clear hK K
 (try simp only [lpX])
 refine ru_o 9 fun K hK => ?_
 go_simp
 refine (cmp1_c _ _ _).mono ?_
 rintro e _ ⟨rfl, rfl⟩
 refine ru_back hK (by exact ⟨F7.q 1 0, F7.q 0 0, F7.q 1 1, F7.q 0 1⟩) (fun _ => ?_)
 clear hK K
 (try simp only [lpX])
 refine ru_o 10 fun K hK => ?_
 go_simp
 replace F7 := F7.new 3 #[.int .i64 (cmpI a c), .int .i64 (cmpI b d)] (n := wd10.heap.size) (by simp)
 refine ru_back hK (by exact ⟨F7.q 2 0, F7.q 1 0, F7.q 2 1, F7.q 1 1⟩) (fun _ => ?_)
 clear hK K
 (try simp only [lpX])
 refine ru_o 11 fun K hK => ?_
 go_simp
 refine (or_c wd10.heap.size (wd10.heap.size + 1) _ [cmpI a c, cmpI b d] _ (slI_of [cmpI a c, cmpI b d] 2 2 (F7.b 0 rfl) rfl rfl (by omega)) ((F7.b 0 rfl)).lt).mono ?_
 rintro e w14 ⟨rfl, hg12⟩
 have hg12s := hg12.size
 (try simp at hg12s)
 replace F7 := F7.gn hg12
 refine ru_back hK (by exact ⟨F7.q 2 0, F7.q 1 0, F7.q 2 1, F7.q 1 1⟩) (fun _ => ?_)
 clear hK K
 (try simp only [lpX])
 refine ru_o 12 fun K hK => ?_
 go_simp
 refine ru_back_late hK (by kernel_rfl) ?_
 clear hK K
 (try simp only [lpX])
 refine ru_done (by kernel_rfl) ?_
 have Fn_ := (((F7.drop 0 rfl).drop 0 rfl).drop 0 rfl)
 (try dsimp only [lpF, lpG] at Fn_)
 obtain ⟨w16, hx17, F19, hxs18⟩ := Fn_.name
 (try simp at hxs18)
 rw [hx17]
 clear hx17 F7 Fn_
 go_wp2_with fail
 go_ret
 exact ⟨rfl, F19.gb⟩
set_option maxHeartbeats 8000000 in
theorem leg_c (n : Int) (v : Value) (l : Lg) (w : World) (hn : -1000 <= n /\ n <= 1000) :
  Calls Tryz.prog 65 #[.agg #[.int .i64 n, v], .agg #[.int .i64 l.a, .int .i64 l.b, .int .i64 l.long, .int .i64 l.op, .int .i64 l.cost]] w (Ret (.int .i64 (lgErr n l)) w) := by
 have F1 : Bun w [] w := Bun.nil _
 go_enter Tryz.func65, Tryz.ntmps65
 cases c2 : wth l.a 0 (n - 1)
 ·
  have c2o := wth_f c2
  have c2H := lhd c2
  cases c3 : wth l.long 1 1000000
  ·
   have c3o := wth_f c3
   have c3H := lhd c3
   go_wp2_with fail
   replace F1 := F1.new 54 #[.int .i64 n, v] (n := w.heap.size) (by simp)
   replace F1 := F1.new 94 #[.int .i64 l.a, .int .i64 l.b, .int .i64 l.long, .int .i64 l.op, .int .i64 l.cost] (n := (w.heap.size + 1)) (by simp)
   have Fn_ := F1
   (try dsimp only [lpF, lpG] at Fn_)
   obtain ⟨w7, hx8, F10, hxs9⟩ := Fn_.name
   (try simp at hxs9)
   rw [hx8]
   clear hx8 F1 Fn_
   have hw4 : IntKind.i64.wrap (n - 1) = n - 1 := IntWalk.i64_in _ (by omega)
   replace F10 := F10.drew
   refine ru_begin (fun W => W.cell? ⟨(w.heap.size + 1), 0, none⟩ = some (.int .i64 l.a) /\ W.cell? ⟨w.heap.size, 0, none⟩ = some (.int .i64 n) /\ W.cell? ⟨(w.heap.size + 1), 1, none⟩ = some (.int .i64 l.b) /\ W.cell? ⟨(w.heap.size + 1), 2, none⟩ = some (.int .i64 l.long) /\ W.cell? ⟨(w.heap.size + 1), 3, none⟩ = some (.int .i64 l.op)) 36 (by kernel_rfl) ?_ ?_
   · exact ⟨F10.q 0 0, F10.q 1 0, F10.q 0 1, F10.q 0 2, F10.q 0 3⟩
   obtain ⟨wd13, hwd_⟩ : ∃ x : World, w7.drew = x := ⟨_, rfl⟩
   rw [hwd_] at F10 ⊢
   have wd13s : w7.heap.size <= wd13.heap.size := by rw [← hwd_]; exact Nat.le_refl _
   clear hwd_
   have hS12 := (And.intro (F10.q 0 0) (And.intro (F10.q 1 0) (And.intro (F10.q 0 1) (And.intro (F10.q 0 2) (F10.q 0 3)))))
   refine ru_t 0 [] ?_
   refine ru_t 1 [] ?_
   refine ru_t 2 [] ?_
   refine ru_t 3 [] ?_
   refine ru_t 4 [] ?_
   refine ru_t 15 [] ?_
   refine ru_t 16 [] ?_
   refine ru_t 17 [] ?_
   refine ru_t 18 [] ?_
   refine ru_t 19 [] ?_
   refine ru_t 21 [] ?_
   refine ru_t 22 [] ?_
   refine ru_t 30 [] ?_
   refine ru_t 31 [] ?_
   (try simp only [lpX])
   clear hS12
   refine ru_o 5 fun K hK => ?_
   go_simp
   refine (within_c _ _ _ _).mono ?_
   rintro e _ ⟨rfl, rfl⟩
   refine ru_back hK (by exact ⟨F10.q 0 0, F10.q 1 0, F10.q 0 1, F10.q 0 2, F10.q 0 3⟩) (fun _ => ?_)
   clear hK K
   (try simp only [lpX])
   refine ru_p 6 ?_
   (try simp only [lpX])
   refine ru_ps 7 ?_
   refine ru_ps 9 ?_
   (try simp only [lpX])
   refine ru_ps 8 ?_
   refine ru_ps 10 ?_
   (try simp only [lpX])
   refine ru_ps 11 ?_
   (try simp only [lpX])
   refine ru_ps 12 ?_
   (try simp only [lpX])
   refine ru_p 13 ?_
   (try simp only [lpX])
   refine ru_o 14 fun K hK => ?_
   go_simp
   refine (unless_c _ _ _).mono ?_
   rintro e _ ⟨rfl, rfl⟩
   refine ru_back hK (by exact ⟨F10.q 0 0, F10.q 1 0, F10.q 0 1, F10.q 0 2, F10.q 0 3⟩) (fun _ => ?_)
   clear hK K
   (try simp only [lpX])
   refine ru_o 20 fun K hK => ?_
   go_simp
   refine (unless_c _ _ _).mono ?_
   rintro e _ ⟨rfl, rfl⟩
   refine ru_back hK (by exact ⟨F10.q 0 0, F10.q 1 0, F10.q 0 1, F10.q 0 2, F10.q 0 3⟩) (fun _ => ?_)
   clear hK K
   (try simp only [lpX])
   refine ru_o 23 fun K hK => ?_
   go_simp
   refine (within_c _ _ _ _).mono ?_
   rintro e _ ⟨rfl, rfl⟩
   refine ru_back hK (by exact ⟨F10.q 0 0, F10.q 1 0, F10.q 0 1, F10.q 0 2, F10.q 0 3⟩) (fun _ => ?_)
   clear hK K
   (try simp only [lpX])
   refine ru_p 24 ?_
   (try simp only [lpX])
   refine ru_ps 25 ?_
   (try simp only [lpX])
   refine ru_ps 26 ?_
   (try simp only [lpX])
   refine ru_ps 27 ?_
   (try simp only [lpX])
   refine ru_p 28 ?_
   (try simp only [lpX])
   refine ru_o 29 fun K hK => ?_
   go_simp
   refine (unless_c _ _ _).mono ?_
   rintro e _ ⟨rfl, rfl⟩
   refine ru_back hK (by exact ⟨F10.q 0 0, F10.q 1 0, F10.q 0 1, F10.q 0 2, F10.q 0 3⟩) (fun _ => ?_)
   clear hK K
   (try simp only [lpX])
   refine ru_o 32 fun K hK => ?_
   go_simp
   refine (within_c _ _ _ _).mono ?_
   rintro e _ ⟨rfl, rfl⟩
   refine ru_back hK (by exact ⟨F10.q 0 0, F10.q 1 0, F10.q 0 1, F10.q 0 2, F10.q 0 3⟩) (fun _ => ?_)
   clear hK K
   (try simp only [lpX])
   refine ru_o 33 fun K hK => ?_
   go_simp
   refine (unless_c _ _ _).mono ?_
   rintro e _ ⟨rfl, rfl⟩
   refine ru_back hK (by exact ⟨F10.q 0 0, F10.q 1 0, F10.q 0 1, F10.q 0 2, F10.q 0 3⟩) (fun _ => ?_)
   clear hK K
   (try simp only [lpX])
   refine ru_o 34 fun K hK => ?_
   go_simp
   replace F10 := F10.new 36 #[.int .i64 (unl false 7), .int .i64 (unl (l.a != l.b) 12), .int .i64 (unl false 2), .int .i64 (unl (wth l.op 1 3) 4)] (n := wd13.heap.size) (by simp)
   refine ru_back hK (by exact ⟨F10.q 1 0, F10.q 2 0, F10.q 1 1, F10.q 1 2, F10.q 1 3⟩) (fun _ => ?_)
   clear hK K
   (try simp only [lpX])
   refine ru_o 35 fun K hK => ?_
   go_simp
   refine (first_c wd13.heap.size (wd13.heap.size + 1) _ [unl false 7, unl (l.a != l.b) 12, unl false 2, unl (wth l.op 1 3) 4] _ (slI_of [unl false 7, unl (l.a != l.b) 12, unl false 2, unl (wth l.op 1 3) 4] 4 4 (F10.b 0 rfl) rfl rfl (by omega)) ((F10.b 0 rfl)).lt).mono ?_
   rintro e w17 ⟨rfl, hg15⟩
   have hg15s := hg15.size
   (try simp at hg15s)
   replace F10 := F10.gn hg15
   refine ru_back hK (by exact ⟨F10.q 1 0, F10.q 2 0, F10.q 1 1, F10.q 1 2, F10.q 1 3⟩) (fun _ => ?_)
   clear hK K
   (try simp only [lpX])
   refine ru_o 36 fun K hK => ?_
   go_simp
   refine ru_back_late hK (by kernel_rfl) ?_
   clear hK K
   (try simp only [lpX])
   refine ru_done (by kernel_rfl) ?_
   (try clear hw4)
   have Fn_ := (((F10.drop 0 rfl).drop 0 rfl).drop 0 rfl)
   (try dsimp only [lpF, lpG] at Fn_)
   obtain ⟨w19, hx20, F22, hxs21⟩ := Fn_.name
   (try simp at hxs21)
   rw [hx20]
   clear hx20 F10 Fn_
   have Hx23 := lhd (show (lgErr n l) = fstE [unl false 7, unl (l.a != l.b) 12, unl false 2, unl (wth l.op 1 3) 4] by rw [leg_sum, c2H.out, c3H.out]; rfl)
   go_wp2_with fail
   go_ret
   exact ⟨by rw [Hx23.out] <;> rfl, F22.gb⟩
  have c3o := wth_t c3
  have c3H := lhd c3
  go_wp2_with fail
  replace F1 := F1.new 54 #[.int .i64 n, v] (n := w.heap.size) (by simp)
  replace F1 := F1.new 94 #[.int .i64 l.a, .int .i64 l.b, .int .i64 l.long, .int .i64 l.op, .int .i64 l.cost] (n := (w.heap.size + 1)) (by simp)
  have Fn_ := F1
  (try dsimp only [lpF, lpG] at Fn_)
  obtain ⟨w27, hx28, F30, hxs29⟩ := Fn_.name
  (try simp at hxs29)
  rw [hx28]
  clear hx28 F1 Fn_
  have hw24 : IntKind.i64.wrap (n - 1) = n - 1 := IntWalk.i64_in _ (by omega)
  replace F30 := F30.drew
  refine ru_begin (fun W => W.cell? ⟨(w.heap.size + 1), 0, none⟩ = some (.int .i64 l.a) /\ W.cell? ⟨w.heap.size, 0, none⟩ = some (.int .i64 n) /\ W.cell? ⟨(w.heap.size + 1), 1, none⟩ = some (.int .i64 l.b) /\ W.cell? ⟨(w.heap.size + 1), 2, none⟩ = some (.int .i64 l.long) /\ W.cell? ⟨(w.heap.size + 1), 3, none⟩ = some (.int .i64 l.op) /\ W.cell? ⟨(w.heap.size + 1), 4, none⟩ = some (.int .i64 l.cost)) 36 (by kernel_rfl) ?_ ?_
  · exact ⟨F30.q 0 0, F30.q 1 0, F30.q 0 1, F30.q 0 2, F30.q 0 3, F30.q 0 4⟩
  obtain ⟨wd33, hwd_⟩ : ∃ x : World, w27.drew = x := ⟨_, rfl⟩
  rw [hwd_] at F30 ⊢
  have wd33s : w27.heap.size <= wd33.heap.size := by rw [← hwd_]; exact Nat.le_refl _
  clear hwd_
  have hS32 := (And.intro (F30.q 0 0) (And.intro (F30.q 1 0) (And.intro (F30.q 0 1) (And.intro (F30.q 0 2) (And.intro (F30.q 0 3) (F30.q 0 4))))))
  refine ru_t 0 [] ?_
  refine ru_t 1 [] ?_
  refine ru_t 2 [] ?_
  refine ru_t 3 [] ?_
  refine ru_t 4 [] ?_
  refine ru_t 15 [] ?_
  refine ru_t 16 [] ?_
  refine ru_t 17 [] ?_
  refine ru_t 18 [] ?_
  refine ru_t 19 [] ?_
  refine ru_t 21 [] ?_
  refine ru_t 22 [] ?_
  refine ru_t 30 [] ?_
  refine ru_t 31 [] ?_
  (try simp only [lpX])
  clear hS32
  refine ru_o 5 fun K hK => ?_
  go_simp
  refine (within_c _ _ _ _).mono ?_
  rintro e _ ⟨rfl, rfl⟩
  refine ru_back hK (by exact ⟨F30.q 0 0, F30.q 1 0, F30.q 0 1, F30.q 0 2, F30.q 0 3, F30.q 0 4⟩) (fun _ => ?_)
  clear hK K
  (try simp only [lpX])
  refine ru_p 6 ?_
  (try simp only [lpX])
  refine ru_ps 7 ?_
  refine ru_ps 9 ?_
  (try simp only [lpX])
  refine ru_ps 8 ?_
  refine ru_ps 10 ?_
  (try simp only [lpX])
  refine ru_ps 11 ?_
  (try simp only [lpX])
  refine ru_ps 12 ?_
  (try simp only [lpX])
  refine ru_p 13 ?_
  (try simp only [lpX])
  refine ru_o 14 fun K hK => ?_
  go_simp
  refine (unless_c _ _ _).mono ?_
  rintro e _ ⟨rfl, rfl⟩
  refine ru_back hK (by exact ⟨F30.q 0 0, F30.q 1 0, F30.q 0 1, F30.q 0 2, F30.q 0 3, F30.q 0 4⟩) (fun _ => ?_)
  clear hK K
  (try simp only [lpX])
  refine ru_o 20 fun K hK => ?_
  go_simp
  refine (unless_c _ _ _).mono ?_
  rintro e _ ⟨rfl, rfl⟩
  refine ru_back hK (by exact ⟨F30.q 0 0, F30.q 1 0, F30.q 0 1, F30.q 0 2, F30.q 0 3, F30.q 0 4⟩) (fun _ => ?_)
  clear hK K
  (try simp only [lpX])
  refine ru_o 23 fun K hK => ?_
  go_simp
  refine (within_c _ _ _ _).mono ?_
  rintro e _ ⟨rfl, rfl⟩
  refine ru_back hK (by exact ⟨F30.q 0 0, F30.q 1 0, F30.q 0 1, F30.q 0 2, F30.q 0 3, F30.q 0 4⟩) (fun _ => ?_)
  clear hK K
  (try simp only [lpX])
  refine ru_p 24 ?_
  (try simp only [lpX])
  refine ru_p 25 ?_
  (try simp only [lpX])
  refine ru_t 26 [] ?_
  (try simp only [lpX])
  refine ru_o 27 fun K hK => ?_
  go_simp
  refine (within_c _ _ _ _).mono ?_
  rintro e _ ⟨rfl, rfl⟩
  refine ru_back hK (by exact ⟨F30.q 0 0, F30.q 1 0, F30.q 0 1, F30.q 0 2, F30.q 0 3, F30.q 0 4⟩) (fun _ => ?_)
  clear hK K
  (try simp only [lpX])
  refine ru_p 28 ?_
  (try simp only [lpX])
  refine ru_o 29 fun K hK => ?_
  go_simp
  refine (unless_c _ _ _).mono ?_
  rintro e _ ⟨rfl, rfl⟩
  refine ru_back hK (by exact ⟨F30.q 0 0, F30.q 1 0, F30.q 0 1, F30.q 0 2, F30.q 0 3, F30.q 0 4⟩) (fun _ => ?_)
  clear hK K
  (try simp only [lpX])
  refine ru_o 32 fun K hK => ?_
  go_simp
  refine (within_c _ _ _ _).mono ?_
  rintro e _ ⟨rfl, rfl⟩
  refine ru_back hK (by exact ⟨F30.q 0 0, F30.q 1 0, F30.q 0 1, F30.q 0 2, F30.q 0 3, F30.q 0 4⟩) (fun _ => ?_)
  clear hK K
  (try simp only [lpX])
  refine ru_o 33 fun K hK => ?_
  go_simp
  refine (unless_c _ _ _).mono ?_
  rintro e _ ⟨rfl, rfl⟩
  refine ru_back hK (by exact ⟨F30.q 0 0, F30.q 1 0, F30.q 0 1, F30.q 0 2, F30.q 0 3, F30.q 0 4⟩) (fun _ => ?_)
  clear hK K
  (try simp only [lpX])
  refine ru_o 34 fun K hK => ?_
  go_simp
  replace F30 := F30.new 36 #[.int .i64 (unl false 7), .int .i64 (unl (l.a != l.b) 12), .int .i64 (unl (wth l.cost 0 100000) 2), .int .i64 (unl (wth l.op 1 3) 4)] (n := wd33.heap.size) (by simp)
  refine ru_back hK (by exact ⟨F30.q 1 0, F30.q 2 0, F30.q 1 1, F30.q 1 2, F30.q 1 3, F30.q 1 4⟩) (fun _ => ?_)
  clear hK K
  (try simp only [lpX])
  refine ru_o 35 fun K hK => ?_
  go_simp
  refine (first_c wd33.heap.size (wd33.heap.size + 1) _ [unl false 7, unl (l.a != l.b) 12, unl (wth l.cost 0 100000) 2, unl (wth l.op 1 3) 4] _ (slI_of [unl false 7, unl (l.a != l.b) 12, unl (wth l.cost 0 100000) 2, unl (wth l.op 1 3) 4] 4 4 (F30.b 0 rfl) rfl rfl (by omega)) ((F30.b 0 rfl)).lt).mono ?_
  rintro e w37 ⟨rfl, hg35⟩
  have hg35s := hg35.size
  (try simp at hg35s)
  replace F30 := F30.gn hg35
  refine ru_back hK (by exact ⟨F30.q 1 0, F30.q 2 0, F30.q 1 1, F30.q 1 2, F30.q 1 3, F30.q 1 4⟩) (fun _ => ?_)
  clear hK K
  (try simp only [lpX])
  refine ru_o 36 fun K hK => ?_
  go_simp
  refine ru_back_late hK (by kernel_rfl) ?_
  clear hK K
  (try simp only [lpX])
  refine ru_done (by kernel_rfl) ?_
  (try clear hw24)
  have Fn_ := (((F30.drop 0 rfl).drop 0 rfl).drop 0 rfl)
  (try dsimp only [lpF, lpG] at Fn_)
  obtain ⟨w39, hx40, F42, hxs41⟩ := Fn_.name
  (try simp at hxs41)
  rw [hx40]
  clear hx40 F30 Fn_
  have Hx43 := lhd (show (lgErr n l) = fstE [unl false 7, unl (l.a != l.b) 12, unl (wth l.cost 0 100000) 2, unl (wth l.op 1 3) 4] by rw [leg_sum, c2H.out, c3H.out]; rfl)
  go_wp2_with fail
  go_ret
  exact ⟨by rw [Hx43.out] <;> rfl, F42.gb⟩
 have c2o := wth_t c2
 have c2H := lhd c2
 cases c44 : wth l.long 1 1000000
 ·
  have c44o := wth_f c44
  have c44H := lhd c44
  go_wp2_with fail
  replace F1 := F1.new 54 #[.int .i64 n, v] (n := w.heap.size) (by simp)
  replace F1 := F1.new 94 #[.int .i64 l.a, .int .i64 l.b, .int .i64 l.long, .int .i64 l.op, .int .i64 l.cost] (n := (w.heap.size + 1)) (by simp)
  have Fn_ := F1
  (try dsimp only [lpF, lpG] at Fn_)
  obtain ⟨w48, hx49, F51, hxs50⟩ := Fn_.name
  (try simp at hxs50)
  rw [hx49]
  clear hx49 F1 Fn_
  have hw45 : IntKind.i64.wrap (n - 1) = n - 1 := IntWalk.i64_in _ (by omega)
  replace F51 := F51.drew
  refine ru_begin (fun W => W.cell? ⟨(w.heap.size + 1), 0, none⟩ = some (.int .i64 l.a) /\ W.cell? ⟨w.heap.size, 0, none⟩ = some (.int .i64 n) /\ W.cell? ⟨(w.heap.size + 1), 1, none⟩ = some (.int .i64 l.b) /\ W.cell? ⟨(w.heap.size + 1), 2, none⟩ = some (.int .i64 l.long) /\ W.cell? ⟨(w.heap.size + 1), 3, none⟩ = some (.int .i64 l.op)) 36 (by kernel_rfl) ?_ ?_
  · exact ⟨F51.q 0 0, F51.q 1 0, F51.q 0 1, F51.q 0 2, F51.q 0 3⟩
  obtain ⟨wd54, hwd_⟩ : ∃ x : World, w48.drew = x := ⟨_, rfl⟩
  rw [hwd_] at F51 ⊢
  have wd54s : w48.heap.size <= wd54.heap.size := by rw [← hwd_]; exact Nat.le_refl _
  clear hwd_
  have hS53 := (And.intro (F51.q 0 0) (And.intro (F51.q 1 0) (And.intro (F51.q 0 1) (And.intro (F51.q 0 2) (F51.q 0 3)))))
  refine ru_t 0 [] ?_
  refine ru_t 1 [] ?_
  refine ru_t 2 [] ?_
  refine ru_t 3 [] ?_
  refine ru_t 4 [] ?_
  refine ru_t 15 [] ?_
  refine ru_t 16 [] ?_
  refine ru_t 17 [] ?_
  refine ru_t 18 [] ?_
  refine ru_t 19 [] ?_
  refine ru_t 21 [] ?_
  refine ru_t 22 [] ?_
  refine ru_t 30 [] ?_
  refine ru_t 31 [] ?_
  (try simp only [lpX])
  clear hS53
  refine ru_o 5 fun K hK => ?_
  go_simp
  refine (within_c _ _ _ _).mono ?_
  rintro e _ ⟨rfl, rfl⟩
  refine ru_back hK (by exact ⟨F51.q 0 0, F51.q 1 0, F51.q 0 1, F51.q 0 2, F51.q 0 3⟩) (fun _ => ?_)
  clear hK K
  (try simp only [lpX])
  refine ru_p 6 ?_
  (try simp only [lpX])
  refine ru_p 7 ?_
  refine ru_p 9 ?_
  (try simp only [lpX])
  refine ru_t 8 [] ?_
  refine ru_t 10 [] ?_
  (try simp only [lpX])
  have hw55 : IntKind.i64.wrap (n - 1) = n - 1 := IntWalk.i64_in _ (by omega)
  refine ru_p 11 ?_
  (try simp only [lpX])
  refine ru_o 12 fun K hK => ?_
  go_simp
  refine (within_c _ _ _ _).mono ?_
  rintro e _ ⟨rfl, rfl⟩
  refine ru_back hK (by exact ⟨F51.q 0 0, F51.q 1 0, F51.q 0 1, F51.q 0 2, F51.q 0 3⟩) (fun _ => ?_)
  clear hK K
  (try simp only [lpX])
  refine ru_p 13 ?_
  (try simp only [lpX])
  refine ru_o 14 fun K hK => ?_
  go_simp
  refine (unless_c _ _ _).mono ?_
  rintro e _ ⟨rfl, rfl⟩
  refine ru_back hK (by exact ⟨F51.q 0 0, F51.q 1 0, F51.q 0 1, F51.q 0 2, F51.q 0 3⟩) (fun _ => ?_)
  clear hK K
  (try simp only [lpX])
  refine ru_o 20 fun K hK => ?_
  go_simp
  refine (unless_c _ _ _).mono ?_
  rintro e _ ⟨rfl, rfl⟩
  refine ru_back hK (by exact ⟨F51.q 0 0, F51.q 1 0, F51.q 0 1, F51.q 0 2, F51.q 0 3⟩) (fun _ => ?_)
  clear hK K
  (try simp only [lpX])
  refine ru_o 23 fun K hK => ?_
  go_simp
  refine (within_c _ _ _ _).mono ?_
  rintro e _ ⟨rfl, rfl⟩
  refine ru_back hK (by exact ⟨F51.q 0 0, F51.q 1 0, F51.q 0 1, F51.q 0 2, F51.q 0 3⟩) (fun _ => ?_)
  clear hK K
  (try simp only [lpX])
  refine ru_p 24 ?_
  (try simp only [lpX])
  refine ru_ps 25 ?_
  (try simp only [lpX])
  refine ru_ps 26 ?_
  (try simp only [lpX])
  refine ru_ps 27 ?_
  (try simp only [lpX])
  refine ru_p 28 ?_
  (try simp only [lpX])
  refine ru_o 29 fun K hK => ?_
  go_simp
  refine (unless_c _ _ _).mono ?_
  rintro e _ ⟨rfl, rfl⟩
  refine ru_back hK (by exact ⟨F51.q 0 0, F51.q 1 0, F51.q 0 1, F51.q 0 2, F51.q 0 3⟩) (fun _ => ?_)
  clear hK K
  (try simp only [lpX])
  refine ru_o 32 fun K hK => ?_
  go_simp
  refine (within_c _ _ _ _).mono ?_
  rintro e _ ⟨rfl, rfl⟩
  refine ru_back hK (by exact ⟨F51.q 0 0, F51.q 1 0, F51.q 0 1, F51.q 0 2, F51.q 0 3⟩) (fun _ => ?_)
  clear hK K
  (try simp only [lpX])
  refine ru_o 33 fun K hK => ?_
  go_simp
  refine (unless_c _ _ _).mono ?_
  rintro e _ ⟨rfl, rfl⟩
  refine ru_back hK (by exact ⟨F51.q 0 0, F51.q 1 0, F51.q 0 1, F51.q 0 2, F51.q 0 3⟩) (fun _ => ?_)
  clear hK K
  (try simp only [lpX])
  refine ru_o 34 fun K hK => ?_
  go_simp
  replace F51 := F51.new 36 #[.int .i64 (unl (wth l.b 0 (n - 1)) 7), .int .i64 (unl (l.a != l.b) 12), .int .i64 (unl false 2), .int .i64 (unl (wth l.op 1 3) 4)] (n := wd54.heap.size) (by simp)
  refine ru_back hK (by exact ⟨F51.q 1 0, F51.q 2 0, F51.q 1 1, F51.q 1 2, F51.q 1 3⟩) (fun _ => ?_)
  clear hK K
  (try simp only [lpX])
  refine ru_o 35 fun K hK => ?_
  go_simp
  refine (first_c wd54.heap.size (wd54.heap.size + 1) _ [unl (wth l.b 0 (n - 1)) 7, unl (l.a != l.b) 12, unl false 2, unl (wth l.op 1 3) 4] _ (slI_of [unl (wth l.b 0 (n - 1)) 7, unl (l.a != l.b) 12, unl false 2, unl (wth l.op 1 3) 4] 4 4 (F51.b 0 rfl) rfl rfl (by omega)) ((F51.b 0 rfl)).lt).mono ?_
  rintro e w59 ⟨rfl, hg57⟩
  have hg57s := hg57.size
  (try simp at hg57s)
  replace F51 := F51.gn hg57
  refine ru_back hK (by exact ⟨F51.q 1 0, F51.q 2 0, F51.q 1 1, F51.q 1 2, F51.q 1 3⟩) (fun _ => ?_)
  clear hK K
  (try simp only [lpX])
  refine ru_o 36 fun K hK => ?_
  go_simp
  refine ru_back_late hK (by kernel_rfl) ?_
  clear hK K
  (try simp only [lpX])
  refine ru_done (by kernel_rfl) ?_
  (try clear hw45 hw55)
  have Fn_ := (((F51.drop 0 rfl).drop 0 rfl).drop 0 rfl)
  (try dsimp only [lpF, lpG] at Fn_)
  obtain ⟨w61, hx62, F64, hxs63⟩ := Fn_.name
  (try simp at hxs63)
  rw [hx62]
  clear hx62 F51 Fn_
  have Hx65 := lhd (show (lgErr n l) = fstE [unl (wth l.b 0 (n - 1)) 7, unl (l.a != l.b) 12, unl false 2, unl (wth l.op 1 3) 4] by rw [leg_sum, c2H.out, c44H.out]; rfl)
  go_wp2_with fail
  go_ret
  exact ⟨by rw [Hx65.out] <;> rfl, F64.gb⟩
 have c44o := wth_t c44
 have c44H := lhd c44
 go_wp2_with fail
 replace F1 := F1.new 54 #[.int .i64 n, v] (n := w.heap.size) (by simp)
 replace F1 := F1.new 94 #[.int .i64 l.a, .int .i64 l.b, .int .i64 l.long, .int .i64 l.op, .int .i64 l.cost] (n := (w.heap.size + 1)) (by simp)
 have Fn_ := F1
 (try dsimp only [lpF, lpG] at Fn_)
 obtain ⟨w69, hx70, F72, hxs71⟩ := Fn_.name
 (try simp at hxs71)
 rw [hx70]
 clear hx70 F1 Fn_
 have hw66 : IntKind.i64.wrap (n - 1) = n - 1 := IntWalk.i64_in _ (by omega)
 replace F72 := F72.drew
 refine ru_begin (fun W => W.cell? ⟨(w.heap.size + 1), 0, none⟩ = some (.int .i64 l.a) /\ W.cell? ⟨w.heap.size, 0, none⟩ = some (.int .i64 n) /\ W.cell? ⟨(w.heap.size + 1), 1, none⟩ = some (.int .i64 l.b) /\ W.cell? ⟨(w.heap.size + 1), 2, none⟩ = some (.int .i64 l.long) /\ W.cell? ⟨(w.heap.size + 1), 3, none⟩ = some (.int .i64 l.op) /\ W.cell? ⟨(w.heap.size + 1), 4, none⟩ = some (.int .i64 l.cost)) 36 (by kernel_rfl) ?_ ?_
 · exact ⟨F72.q 0 0, F72.q 1 0, F72.q 0 1, F72.q 0 2, F72.q 0 3, F72.q 0 4⟩
 obtain ⟨wd75, hwd_⟩ : ∃ x : World, w69.drew = x := ⟨_, rfl⟩
 rw [hwd_] at F72 ⊢
 have wd75s : w69.heap.size <= wd75.heap.size := by rw [← hwd_]; exact Nat.le_refl _
 clear hwd_
 have hS74 := (And.intro (F72.q 0 0) (And.intro (F72.q 1 0) (And.intro (F72.q 0 1) (And.intro (F72.q 0 2) (And.intro (F72.q 0 3) (F72.q 0 4))))))
 refine ru_t 0 [] ?_
 refine ru_t 1 [] ?_
 refine ru_t 2 [] ?_
 refine ru_t 3 [] ?_
 refine ru_t 4 [] ?_
 refine ru_t 15 [] ?_
 refine ru_t 16 [] ?_
 refine ru_t 17 [] ?_
 refine ru_t 18 [] ?_
 refine ru_t 19 [] ?_
 refine ru_t 21 [] ?_
 refine ru_t 22 [] ?_
 refine ru_t 30 [] ?_
 refine ru_t 31 [] ?_
 (try simp only [lpX])
 clear hS74
 refine ru_o 5 fun K hK => ?_
 go_simp
 refine (within_c _ _ _ _).mono ?_
 rintro e _ ⟨rfl, rfl⟩
 refine ru_back hK (by exact ⟨F72.q 0 0, F72.q 1 0, F72.q 0 1, F72.q 0 2, F72.q 0 3, F72.q 0 4⟩) (fun _ => ?_)
 clear hK K
 (try simp only [lpX])
 refine ru_p 6 ?_
 (try simp only [lpX])
 refine ru_p 7 ?_
 refine ru_p 9 ?_
 (try simp only [lpX])
 refine ru_t 8 [] ?_
 refine ru_t 10 [] ?_
 (try simp only [lpX])
 have hw76 : IntKind.i64.wrap (n - 1) = n - 1 := IntWalk.i64_in _ (by omega)
 refine ru_p 11 ?_
 (try simp only [lpX])
 refine ru_o 12 fun K hK => ?_
 go_simp
 refine (within_c _ _ _ _).mono ?_
 rintro e _ ⟨rfl, rfl⟩
 refine ru_back hK (by exact ⟨F72.q 0 0, F72.q 1 0, F72.q 0 1, F72.q 0 2, F72.q 0 3, F72.q 0 4⟩) (fun _ => ?_)
 clear hK K
 (try simp only [lpX])
 refine ru_p 13 ?_
 (try simp only [lpX])
 refine ru_o 14 fun K hK => ?_
 go_simp
 refine (unless_c _ _ _).mono ?_
 rintro e _ ⟨rfl, rfl⟩
 refine ru_back hK (by exact ⟨F72.q 0 0, F72.q 1 0, F72.q 0 1, F72.q 0 2, F72.q 0 3, F72.q 0 4⟩) (fun _ => ?_)
 clear hK K
 (try simp only [lpX])
 refine ru_o 20 fun K hK => ?_
 go_simp
 refine (unless_c _ _ _).mono ?_
 rintro e _ ⟨rfl, rfl⟩
 refine ru_back hK (by exact ⟨F72.q 0 0, F72.q 1 0, F72.q 0 1, F72.q 0 2, F72.q 0 3, F72.q 0 4⟩) (fun _ => ?_)
 clear hK K
 (try simp only [lpX])
 refine ru_o 23 fun K hK => ?_
 go_simp
 refine (within_c _ _ _ _).mono ?_
 rintro e _ ⟨rfl, rfl⟩
 refine ru_back hK (by exact ⟨F72.q 0 0, F72.q 1 0, F72.q 0 1, F72.q 0 2, F72.q 0 3, F72.q 0 4⟩) (fun _ => ?_)
 clear hK K
 (try simp only [lpX])
 refine ru_p 24 ?_
 (try simp only [lpX])
 refine ru_p 25 ?_
 (try simp only [lpX])
 refine ru_t 26 [] ?_
 (try simp only [lpX])
 refine ru_o 27 fun K hK => ?_
 go_simp
 refine (within_c _ _ _ _).mono ?_
 rintro e _ ⟨rfl, rfl⟩
 refine ru_back hK (by exact ⟨F72.q 0 0, F72.q 1 0, F72.q 0 1, F72.q 0 2, F72.q 0 3, F72.q 0 4⟩) (fun _ => ?_)
 clear hK K
 (try simp only [lpX])
 refine ru_p 28 ?_
 (try simp only [lpX])
 refine ru_o 29 fun K hK => ?_
 go_simp
 refine (unless_c _ _ _).mono ?_
 rintro e _ ⟨rfl, rfl⟩
 refine ru_back hK (by exact ⟨F72.q 0 0, F72.q 1 0, F72.q 0 1, F72.q 0 2, F72.q 0 3, F72.q 0 4⟩) (fun _ => ?_)
 clear hK K
 (try simp only [lpX])
 refine ru_o 32 fun K hK => ?_
 go_simp
 refine (within_c _ _ _ _).mono ?_
 rintro e _ ⟨rfl, rfl⟩
 refine ru_back hK (by exact ⟨F72.q 0 0, F72.q 1 0, F72.q 0 1, F72.q 0 2, F72.q 0 3, F72.q 0 4⟩) (fun _ => ?_)
 clear hK K
 (try simp only [lpX])
 refine ru_o 33 fun K hK => ?_
 go_simp
 refine (unless_c _ _ _).mono ?_
 rintro e _ ⟨rfl, rfl⟩
 refine ru_back hK (by exact ⟨F72.q 0 0, F72.q 1 0, F72.q 0 1, F72.q 0 2, F72.q 0 3, F72.q 0 4⟩) (fun _ => ?_)
 clear hK K
 (try simp only [lpX])
 refine ru_o 34 fun K hK => ?_
 go_simp
 replace F72 := F72.new 36 #[.int .i64 (unl (wth l.b 0 (n - 1)) 7), .int .i64 (unl (l.a != l.b) 12), .int .i64 (unl (wth l.cost 0 100000) 2), .int .i64 (unl (wth l.op 1 3) 4)] (n := wd75.heap.size) (by simp)
 refine ru_back hK (by exact ⟨F72.q 1 0, F72.q 2 0, F72.q 1 1, F72.q 1 2, F72.q 1 3, F72.q 1 4⟩) (fun _ => ?_)
 clear hK K
 (try simp only [lpX])
 refine ru_o 35 fun K hK => ?_
 go_simp
 refine (first_c wd75.heap.size (wd75.heap.size + 1) _ [unl (wth l.b 0 (n - 1)) 7, unl (l.a != l.b) 12, unl (wth l.cost 0 100000) 2, unl (wth l.op 1 3) 4] _ (slI_of [unl (wth l.b 0 (n - 1)) 7, unl (l.a != l.b) 12, unl (wth l.cost 0 100000) 2, unl (wth l.op 1 3) 4] 4 4 (F72.b 0 rfl) rfl rfl (by omega)) ((F72.b 0 rfl)).lt).mono ?_
 rintro e w80 ⟨rfl, hg78⟩
 have hg78s := hg78.size
 (try simp at hg78s)
 replace F72 := F72.gn hg78
 refine ru_back hK (by exact ⟨F72.q 1 0, F72.q 2 0, F72.q 1 1, F72.q 1 2, F72.q 1 3, F72.q 1 4⟩) (fun _ => ?_)
 clear hK K
 (try simp only [lpX])
 refine ru_o 36 fun K hK => ?_
 go_simp
 refine ru_back_late hK (by kernel_rfl) ?_
 clear hK K
 (try simp only [lpX])
 refine ru_done (by kernel_rfl) ?_
 (try clear hw66 hw76)
 have Fn_ := (((F72.drop 0 rfl).drop 0 rfl).drop 0 rfl)
 (try dsimp only [lpF, lpG] at Fn_)
 obtain ⟨w82, hx83, F85, hxs84⟩ := Fn_.name
 (try simp at hxs84)
 rw [hx83]
 clear hx83 F72 Fn_
 have Hx86 := lhd (show (lgErr n l) = fstE [unl (wth l.b 0 (n - 1)) 7, unl (l.a != l.b) 12, unl (wth l.cost 0 100000) 2, unl (wth l.op 1 3) 4] by rw [leg_sum, c2H.out, c44H.out]; rfl)
 go_wp2_with fail
 go_ret
 exact ⟨by rw [Hx86.out] <;> rfl, F85.gb⟩
set_option maxHeartbeats 8000000 in
theorem checkNet_c (lo hi : Nat) (v : Value) (n : Int) (ls : List Lg) (w : World) (hl : Sl lgEnc 5 lo hi w v ls) (h2 : hi <= w.heap.size) (hn : -1000 <= n /\ n <= 1000) :
  Calls Tryz.prog 28 #[.agg #[.int .i64 n, v]] w (Ret (.int .i64 (netErr n ls)) w) := by
 have F1 : Bun w [] w := Bun.nil _
 have hm_ls := hl.len
 unfold maxLen at hm_ls
 obtain ⟨aL, cL, rfl⟩ := hl.any
 replace F1 := F1.sl0 hl h2 rfl
 clear hl
 go_enter Tryz.func28, Tryz.ntmps28
 go_wp2_with fail
 replace F1 := F1.new 54 #[.int .i64 n, .slice aL ls.length cL] (n := w.heap.size) (by simp)
 have Fn_ := F1
 (try dsimp only [lpF, lpG] at Fn_)
 obtain ⟨w4, hx5, F7, hxs6⟩ := Fn_.name
 (try simp at hxs6)
 rw [hx5]
 clear hx5 F1 Fn_
 replace F7 := F7.drew
 refine ru_begin (fun W => C2 W w.heap.size (.int .i64 n) (.slice aL ls.length cL)) 11 (by kernel_rfl) ?_ ?_
 · exact (F7.c2 0)
 obtain ⟨wd10, hwd_⟩ : ∃ x : World, w4.drew = x := ⟨_, rfl⟩
 rw [hwd_] at F7 ⊢
 have wd10s : w4.heap.size <= wd10.heap.size := by rw [← hwd_]; exact Nat.le_refl _
 clear hwd_
 have hS9 := (F7.c2 0)
 refine ru_t 0 [] ?_
 refine ru_t 1 [] ?_
 refine ru_t 4 [] ?_
 refine ru_t 5 [] ?_
 refine ru_t 6 [] ?_
 refine ru_t 7 [] ?_
 (try simp only [lpX])
 clear hS9
 refine ru_o 2 fun K hK => ?_
 go_simp
 refine (within_c _ _ _ _).mono ?_
 rintro e _ ⟨rfl, rfl⟩
 refine ru_back hK (by exact (F7.c2 0)) (fun _ => ?_)
 clear hK K
 (try simp only [lpX])
 refine ru_o 3 fun K hK => ?_
 go_simp
 refine (unless_c _ _ _).mono ?_
 rintro e _ ⟨rfl, rfl⟩
 refine ru_back hK (by exact (F7.c2 0)) (fun _ => ?_)
 clear hK K
 (try simp only [lpX])
 refine ru_o 8 fun K hK => ?_
 go_simp
 refine (unless_c _ _ _).mono ?_
 rintro e _ ⟨rfl, rfl⟩
 refine ru_back hK (by exact (F7.c2 0)) (fun _ => ?_)
 clear hK K
 (try simp only [lpX])
 refine ru_o 9 fun K hK => ?_
 go_simp
 replace F7 := F7.new 36 #[.int .i64 (unl (wth n 1 40) 2), .int .i64 (unl (decide ((ls.length : Int) <= 200)) 8)] (n := wd10.heap.size) (by simp)
 refine ru_back hK (by exact (F7.c2 1)) (fun _ => ?_)
 clear hK K
 (try simp only [lpX])
 refine ru_o 10 fun K hK => ?_
 go_simp
 refine (first_c wd10.heap.size (wd10.heap.size + 1) _ [unl (wth n 1 40) 2, (unl (decide ((ls.length : Int) <= 200)) 8)] _ (slI_of [unl (wth n 1 40) 2, (unl (decide ((ls.length : Int) <= 200)) 8)] 2 2 (F7.b 0 rfl) rfl rfl (by omega)) ((F7.b 0 rfl)).lt).mono ?_
 rintro e w14 ⟨rfl, hg12⟩
 have hg12s := hg12.size
 (try simp at hg12s)
 replace F7 := F7.gn hg12
 refine ru_back hK (by exact (F7.c2 1)) (fun _ => ?_)
 clear hK K
 (try simp only [lpX])
 refine ru_o 11 fun K hK => ?_
 go_simp
 refine ru_back_late hK (by kernel_rfl) ?_
 clear hK K
 (try simp only [lpX])
 refine ru_done (by kernel_rfl) ?_
 have Fn_ := (F7.drop 0 rfl)
 (try dsimp only [lpF, lpG] at Fn_)
 obtain ⟨w16, hx17, F19, hxs18⟩ := Fn_.name
 (try simp at hxs18)
 rw [hx17]
 clear hx17 F7 Fn_
 by_cases c20 : fstE [unl (wth n 1 40) 2, (unl (decide ((ls.length : Int) <= 200)) 8)] = 0
 ·
  obtain ⟨c20a, c20b⟩ := bqt c20
  have c20H := lhd c20
  clear c20
  have b21 := F19.bx2 0 rfl
  go_wp2_with fail
  clear b21
  have H0 : Hid (netErr n ls = lgsErr n ls) := lhd (net_good c20H.out)
  obtain ⟨HI22_, HI220⟩ : ∃ I : RelT, I = (fun t ds wr => ∃ (k : Nat), t 1 = .pointer (some ⟨w.heap.size, 0, none⟩) /\ t 22 = .slice aL ls.length cL /\ t 23 = .int .i64 (ls.length : Int) /\ t 24 = .int .i64 (k : Int) /\ k <= ls.length /\ netErr n ls = lgsErr n (ls.drop k) /\ ds = [] /\ w16.heap.size <= wr.heap.size /\ Bun w [rbox w.heap.size 54 #[.int .i64 n, .slice aL ls.length cL], rsl lgEnc 5 lo hi (.slice aL ls.length cL) ls] wr) := ⟨_, rfl⟩
  have HI22 := lhd HI220
  clear HI220
  refine wp_loopS 35 rfl HI22_ (fun t wr => ls.length - (intOf (t 24)).toNat) ?atStart2 ?round2
  case round2 =>
   intro t ds wr hHid
   rw [HI22.out] at hHid
   obtain ⟨k, e1, e22, e23, e24, hrel⟩ := hHid
   have e : ((List.range 35).map t).toArray = #[t 0, t 1, t 2, t 3, t 4, t 5, t 6, t 7, t 8, t 9, t 10, t 11, t 12, t 13, t 14, t 15, t 16, t 17, t 18, t 19, t 20, t 21, t 22, t 23, t 24, t 25, t 26, t 27, t 28, t 29, t 30, t 31, t 32, t 33, t 34] := rfl
   (try dsimp only at e)
   rw [e1, e22, e23, e24] at e
   rw [e]
   simp only [e24]
   clear e e1 e22 e23 e24
   obtain ⟨hk, hR, rfl, hs24, hF23⟩ := hrel
   clear F19
   obtain ⟨w25, rfl⟩ : ∃ x_ : World, x_ = wr := ⟨_, rfl⟩
   have HR := lhd hR
   clear hR
   by_cases c26 : (k : Int) < (ls.length : Int)
   ·
    have c26H := lhd c26
    obtain ⟨x27, o28, e_⟩ := Sl.addr (hF23.s 1 rfl) (by omega)
    subst e_
    obtain ⟨z, hz29_⟩ : ∃ z_, ls[k]? = some z_ := ⟨_, List.getElem?_eq_getElem (by omega)⟩
    have hz29 := lhd hz29_
    clear hz29_
    have HZ : Hid (netErr n ls = if ¬ lgErr n z = 0 then lgErr n z else lgsErr n (ls.drop (k + 1))) := lhd (by rw [HR.out, drop_cons hz29.out, lgsErr])
    have b30 := hF23.bx2 0 rfl
    have ge31 : World.cell? _ ⟨x27, o28 + k * 5, none⟩ = some (.int .i64 z.a) := (Sl.cells (hF23.at 1 rfl) hz29.out 0 _ rfl)
    have gl32 := cell_lt ge31
    have ge33 : World.cell? _ ⟨x27, o28 + k * 5 + 1, none⟩ = some (.int .i64 z.b) := (Sl.cells (hF23.at 1 rfl) hz29.out 1 _ rfl)
    have ge34 : World.cell? _ ⟨x27, o28 + k * 5 + 2, none⟩ = some (.int .i64 z.long) := (Sl.cells (hF23.at 1 rfl) hz29.out 2 _ rfl)
    have ge35 : World.cell? _ ⟨x27, o28 + k * 5 + 3, none⟩ = some (.int .i64 z.op) := (Sl.cells (hF23.at 1 rfl) hz29.out 3 _ rfl)
    have ge36 : World.cell? _ ⟨x27, o28 + k * 5 + 4, none⟩ = some (.int .i64 z.cost) := (Sl.cells (hF23.at 1 rfl) hz29.out 4 _ rfl)
    go_wp2_with fail
    clear b30 ge31 gl32 ge33 ge34 ge35 ge36
    have F37 := hF23.new 94 #[.int .i64 z.a, .int .i64 z.b, .int .i64 z.long, .int .i64 z.op, .int .i64 z.cost] (n := w25.heap.size) (by simp)
    clear hF23
    refine (leg_c n _ z _ hn).mono ?_
    rintro e w40 ⟨rfl, hg38⟩
    have hg38s := hg38.size
    (try simp at hg38s)
    replace F37 := F37.gn hg38
    clear hg38
    by_cases c42 : lgErr n z = 0
    ·
     obtain ⟨c42a, c42b⟩ := bqt c42
     have c42H := lhd c42
     clear c42
     go_wp2_with fail
     have F43 : Bun w [rbox w.heap.size 54 #[.int .i64 n, .slice (some ⟨x27, o28, none⟩) ls.length cL], rsl lgEnc 5 lo hi (.slice (some ⟨x27, o28, none⟩) ls.length cL) ls] _ := F37.pick [1, 2] (by decide) rfl
     clear F37
     (first | refine ⟨rfl, ?_, ?_⟩ | refine ⟨?_, ?_⟩)
     · rw [HI22.out]; exact ⟨k + 1, rfl, rfl, rfl, (by show Value.int .i64 ((k : Int) + 1) = _; simp), (by omega), (by rw [HZ.out, if_neg (not_not_intro c42H.out)]), (by first | rfl | simp), (by first | omega | (simp; done) | (simp; omega)), F43⟩
     · simp [slot, intOf]; omega
    obtain ⟨c42a, c42b⟩ := bqf c42
    have c42H := lhd c42
    clear c42
    have Hx44 := lhd (show (netErr n ls) = lgErr n z by rw [HZ.out, if_pos c42H.out])
    go_wp2_with fail
    go_ret
    exact ⟨by rw [Hx44.out] <;> rfl, F37.gb⟩
   have c26H := lhd c26
   have c26a := dec_f c26
   have HE : Hid (netErr n ls = 0) := lhd (by rw [HR.out, List.drop_eq_nil_of_le (by omega)]; rfl)
   have Hx45 := lhd (show (netErr n ls) = 0 by exact HE.out)
   go_wp2_with fail
   go_ret
   exact ⟨by rw [Hx45.out] <;> rfl, hF23.gb⟩
  case atStart2 =>
   rw [HI22.out]
   exact ⟨0, rfl, rfl, rfl, rfl, Nat.zero_le _, H0.out, rfl, (by first | exact Nat.le_refl _ | omega | (simp; done) | (simp; omega)), F19⟩
 obtain ⟨c20a, c20b⟩ := bqf c20
 have c20H := lhd c20
 clear c20
 have Hx46 := lhd (show (netErr n ls) = fstE [unl (wth n 1 40) 2, (unl (decide ((ls.length : Int) <= 200)) 8)] by exact net_bad c20H.out)
 go_wp2_with fail
 go_ret
 exact ⟨by rw [Hx46.out] <;> rfl, F19.gb⟩
end Go.Proofs.YtcoldeolmleeiaaGreat
