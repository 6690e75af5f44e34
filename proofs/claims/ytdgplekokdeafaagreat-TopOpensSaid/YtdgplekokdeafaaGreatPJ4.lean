/- build and its reference: what is wrong with jobs, by the reference. -/
import Derived.Test.YtdgplekokdeafaaGreatPJ3
set_option linter.unusedVariables false
set_option linter.unusedSimpArgs false
set_option linter.unnecessarySimpa false
namespace Go.Proofs.YtdgplekokdeafaaGreat
open Go.RowKit
set_option maxRecDepth 100000
theorem rgJ475 (t : Nat -> Value) : ((List.range 75).map t).toArray = #[t 0, t 1, t 2, t 3, t 4, t 5, t 6, t 7, t 8, t 9, t 10, t 11, t 12, t 13, t 14, t 15, t 16, t 17, t 18, t 19, t 20, t 21, t 22, t 23, t 24, t 25, t 26, t 27, t 28, t 29, t 30, t 31, t 32, t 33, t 34, t 35, t 36, t 37, t 38, t 39, t 40, t 41, t 42, t 43, t 44, t 45, t 46, t 47, t 48, t 49, t 50, t 51, t 52, t 53, t 54, t 55, t 56, t 57, t 58, t 59, t 60, t 61, t 62, t 63, t 64, t 65, t 66, t 67, t 68, t 69, t 70, t 71, t 72, t 73, t 74] := rfl
theorem rgJ456 (t : Nat -> Value) : ((List.range 56).map t).toArray = #[t 0, t 1, t 2, t 3, t 4, t 5, t 6, t 7, t 8, t 9, t 10, t 11, t 12, t 13, t 14, t 15, t 16, t 17, t 18, t 19, t 20, t 21, t 22, t 23, t 24, t 25, t 26, t 27, t 28, t 29, t 30, t 31, t 32, t 33, t 34, t 35, t 36, t 37, t 38, t 39, t 40, t 41, t 42, t 43, t 44, t 45, t 46, t 47, t 48, t 49, t 50, t 51, t 52, t 53, t 54, t 55] := rfl
theorem has_next {l : List Int} {j : Nat} {y z : Int} (hy : l[j]? = some y) (h : hasI (l.take j) z = false) (hne : ¬ y = z) : hasI (l.take (j + 1)) z = false := by
 rw [← take_snoc hy]
 rw [Bool.eq_false_iff] at h ⊢
 intro h1
 rw [hasI_iff, List.mem_append, List.mem_singleton] at h1
 rcases h1 with h1 | h1
 · exact h (hasI_iff.2 h1)
 · exact hne h1.symm
theorem has_found {l : List Int} {j k : Nat} {y z : Int} (hy : l[j]? = some y) (hjk : j < k) (he : y = z) : (l.take k).contains z = true := by
 subst he
 refine hasI_iff.2 (List.mem_of_getElem? (i := j) ?_)
 rw [List.getElem?_take, if_pos hjk, hy]
theorem out5_c (n lo hi : Int) (w : World)  :
  Calls Tryz.prog 112 #[.int .i64 n, .int .i64 lo, .int .i64 hi] w (fun e w' => e = .returned (.bool (outB n lo hi)) /\ w = w') := by
 have F1 : Bun w [] w := Bun.nil _
 go_enter Tryz.func112, Tryz.ntmps112
 by_cases c2 : n < lo
 ·
  have c2H := lhd c2
  have Hx3 := lhd (show ((outB n lo hi : Bool)) = true by simp [outB]; omega)
  go_wp2_with fail
  go_ret
  exact ⟨by rw [Hx3.out] <;> rfl, rfl⟩
 have c2H := lhd c2
 have c2a := dec_f c2
 have Hx4 := lhd (show ((outB n lo hi : Bool)) = (decide (hi < n)) by simp [outB]; omega)
 go_wp2_with fail
 go_ret
 exact ⟨by rw [Hx4.out] <;> rfl, rfl⟩
set_option maxHeartbeats 2000000 in
theorem spn5_c (a b : Int) (w : World)  :
  Calls Tryz.prog 119 #[.agg #[.int .i64 a, .int .i64 b]] w (Ret (.int .i64 (spanErr a b 0 2000)) w) := by
 have F1 : Bun w [] w := Bun.nil _
 go_enter Tryz.func119, Tryz.ntmps119
 go_wp2_with fail
 replace F1 := F1.new 27 #[.int .i64 a, .int .i64 b] (n := w.heap.size) (by simp)
 refine (out5_c _ _ _ _).mono ?_
 rintro e _ ⟨rfl, rfl⟩
 have Fn_ := F1
 (try dsimp only [lpF, lpG] at Fn_)
 obtain ⟨w3, hx4, F6, hxs5⟩ := Fn_.name
 (try simp at hxs5)
 rw [hx4]
 clear hx4 F1 Fn_
 cases c7 : outB a 0 2000
 ·
  have c7o := outB_f c7
  have c7H := lhd c7
  have b8 := F6.bx2 0 rfl
  go_wp2_with fail
  clear b8
  refine (out5_c _ _ _ _).mono ?_
  rintro e _ ⟨rfl, rfl⟩
  cases c9 : outB b 0 2000
  ·
   have c9o := outB_f c9
   have c9H := lhd c9
   by_cases c10 : b < a
   ·
    have c10H := lhd c10
    have Hx11 := lhd (show (spanErr a b 0 2000) = 11 by unfold spanErr; (repeat' split) <;> omega)
    have b12 := F6.bx2 0 rfl
    go_wp2_with fail
    clear b12
    go_ret
    exact ⟨by rw [Hx11.out] <;> rfl, F6.gb⟩
   have c10H := lhd c10
   have c10a := dec_f c10
   have Hx13 := lhd (show (spanErr a b 0 2000) = 0 by unfold spanErr; (repeat' split) <;> omega)
   have b14 := F6.bx2 0 rfl
   go_wp2_with fail
   clear b14
   go_ret
   exact ⟨by rw [Hx13.out] <;> rfl, F6.gb⟩
  have c9o := outB_t c9
  have c9H := lhd c9
  have Hx15 := lhd (show (spanErr a b 0 2000) = 2 by unfold spanErr; (repeat' split) <;> omega)
  go_wp2_with fail
  go_ret
  exact ⟨by rw [Hx15.out] <;> rfl, F6.gb⟩
 have c7o := outB_t c7
 have c7H := lhd c7
 have Hx16 := lhd (show (spanErr a b 0 2000) = 2 by unfold spanErr; (repeat' split) <;> omega)
 go_wp2_with fail
 go_ret
 exact ⟨by rw [Hx16.out] <;> rfl, F6.gb⟩
set_option maxHeartbeats 8000000 in
theorem rtask_c (lo hi : Nat) (vm vt : Value) (ms : List Mch) (ts : List Tsk) (i : Nat) (u : Tsk) (w : World) (hj : JobAt lo hi w vm vt ms ts) (h2 : hi <= w.heap.size) (hti : ts[i]? = some u) :
  Calls Tryz.prog 113 #[.agg #[vm, vt], .int .i64 (i : Int)] w (Ret (.int .i64 (tskErr ms.length i u)) w) := by
 have F1 : Bun w [] w := Bun.nil _
 obtain ⟨hms, hts, haf⟩ := hj
 have hm_ms := hms.len
 unfold maxLen at hm_ms
 obtain ⟨aM, cM, rfl⟩ := hms.any
 replace F1 := F1.sl0 hms h2 rfl
 clear hms
 have hm_ts := hts.len
 unfold maxLen at hm_ts
 obtain ⟨aT, cT, rfl⟩ := hts.any
 replace F1 := F1.sl0 hts h2 rfl
 clear hts
 replace F1 := F1.non0 (rafs lo hi ts) haf (fun _ h_ => Nat.lt_of_lt_of_le h_.2 h2) rfl rfl
 clear haf
 have hil := (List.getElem?_eq_some_iff.1 hti).1
 obtain ⟨x5, o6, e_⟩ := Sl.addr (F1.s 1 rfl) (by omega)
 subst e_
 have hz7 : Hid (ts[i]? = some u) := lhd (hti)
 obtain ⟨a_u, c_u, hav_u, hcap_u, hsl_u⟩ := Afs.open (F1.at 0 rfl : Afs lo hi _ ts) hz7.out
 have HAV_u := lhd hav_u
 clear hav_u
 replace F1 := F1.more 0 (rsl intEnc 1 lo hi (.slice a_u u.af.length c_u) u.af) rfl rfl rfl (fun _ h_ => h_) hsl_u
 have hm_u := (F1.s 0 rfl).len
 unfold maxLen at hm_u
 clear hti
 go_enter Tryz.func113, Tryz.ntmps113
 have ge9 : World.cell? _ ⟨x5, o6 + i * 8, none⟩ = some (.int .i64 u.m) := (Sl.cells (F1.at 2 rfl) hz7.out 0 _ rfl)
 have gl10 := cell_lt ge9
 have ge11 : World.cell? _ ⟨x5, o6 + i * 8 + 1, none⟩ = some (.int .i64 u.ho.lo) := (Sl.cells (F1.at 2 rfl) hz7.out 1 _ rfl)
 have ge12 : World.cell? _ ⟨x5, o6 + i * 8 + 2, none⟩ = some (.int .i64 u.ho.hi) := (Sl.cells (F1.at 2 rfl) hz7.out 2 _ rfl)
 have ge13 : World.cell? _ ⟨x5, o6 + i * 8 + 3, none⟩ = some (.int .i64 u.wa.lo) := (Sl.cells (F1.at 2 rfl) hz7.out 3 _ rfl)
 have ge14 : World.cell? _ ⟨x5, o6 + i * 8 + 4, none⟩ = some (.int .i64 u.wa.hi) := (Sl.cells (F1.at 2 rfl) hz7.out 4 _ rfl)
 have ge15 : World.cell? _ ⟨x5, o6 + i * 8 + 5, none⟩ = some (.int .i64 u.fr.lo) := (Sl.cells (F1.at 2 rfl) hz7.out 5 _ rfl)
 have ge16 : World.cell? _ ⟨x5, o6 + i * 8 + 6, none⟩ = some (.int .i64 u.fr.hi) := (Sl.cells (F1.at 2 rfl) hz7.out 6 _ rfl)
 have ge17 : World.cell? _ ⟨x5, o6 + i * 8 + 7, none⟩ = some (.slice a_u u.af.length c_u) := (HAV_u.out ▸ (Sl.cells (F1.at 2 rfl) hz7.out 7 _ rfl))
 go_wp2_with fail
 clear ge9 gl10 ge11 ge12 ge13 ge14 ge15 ge16 ge17
 replace F1 := F1.new 43 #[.slice aM ms.length cM, .slice (some ⟨x5, o6, none⟩) ts.length cT] (n := w.heap.size) (by simp)
 replace F1 := F1.new 54 #[.int .i64 u.m, .int .i64 u.ho.lo, .int .i64 u.ho.hi, .int .i64 u.wa.lo, .int .i64 u.wa.hi, .int .i64 u.fr.lo, .int .i64 u.fr.hi, .slice a_u u.af.length c_u] (n := (w.heap.size + 1)) (by simp)
 refine (out5_c _ _ _ _).mono ?_
 rintro e _ ⟨rfl, rfl⟩
 have Fn_ := F1
 (try dsimp only [lpF, lpG] at Fn_)
 obtain ⟨w20, hx21, F23, hxs22⟩ := Fn_.name
 (try simp at hxs22)
 rw [hx21]
 clear hx21 F1 Fn_
 cases c24 : outB u.m 0 ((ms.length : Int) - 1)
 ·
  have c24o := outB_f c24
  have c24H := lhd c24
  have b25 := F23.bx8 0 rfl
  go_wp2_with fail
  clear b25
  replace F23 := F23.new 27 #[.int .i64 u.ho.lo, .int .i64 u.ho.hi, .int .i64 u.wa.lo, .int .i64 u.wa.hi, .int .i64 u.fr.lo, .int .i64 u.fr.hi] (n := w20.heap.size) (by simp)
  refine wp_loop_rounds 4 ?_
  rw [rounds_succ]
  have b27 := F23.bx6 0 rfl
  go_wp2_with fail
  clear b27
  refine (spn5_c _ _ _).mono ?_
  rintro e w30 ⟨rfl, hg28⟩
  have hg28s := hg28.size
  (try simp at hg28s)
  replace F23 := F23.gn hg28
  clear hg28
  by_cases c32 : spanErr u.ho.lo u.ho.hi 0 2000 = 0
  ·
   obtain ⟨c32a, c32b⟩ := bqt c32
   have c32H := lhd c32
   clear c32
   go_wp2_with fail
   rw [rounds_succ]
   have b33 := F23.bx6 0 rfl
   go_wp2_with fail
   clear b33
   refine (spn5_c _ _ _).mono ?_
   rintro e w36 ⟨rfl, hg34⟩
   have hg34s := hg34.size
   (try simp at hg34s)
   replace F23 := F23.gn hg34
   clear hg34
   by_cases c38 : spanErr u.wa.lo u.wa.hi 0 2000 = 0
   ·
    obtain ⟨c38a, c38b⟩ := bqt c38
    have c38H := lhd c38
    clear c38
    go_wp2_with fail
    rw [rounds_succ]
    have b39 := F23.bx6 0 rfl
    go_wp2_with fail
    clear b39
    refine (spn5_c _ _ _).mono ?_
    rintro e w42 ⟨rfl, hg40⟩
    have hg40s := hg40.size
    (try simp at hg40s)
    replace F23 := F23.gn hg40
    clear hg40
    by_cases c44 : spanErr u.fr.lo u.fr.hi 0 2000 = 0
    ·
     obtain ⟨c44a, c44b⟩ := bqt c44
     have c44H := lhd c44
     clear c44
     go_wp2_with fail
     rw [rounds_succ]
     go_wp2_with fail
     have H0 : Hid (tskErr ms.length i u = afErr i [] u.af) := lhd (by unfold tskErr; rw [if_neg (by omega), if_neg (not_not_intro c32H.out), if_neg (not_not_intro c38H.out), if_neg (not_not_intro c44H.out)])
     obtain ⟨HI45_, HI450⟩ : ∃ I : RelT, I = (fun t ds wr => ∃ (k : Nat), t 1 = .int .i64 (i : Int) /\ t 5 = .pointer (some ⟨w.heap.size + 1, 0, none⟩) /\ t 9 = .int .i64 (k : Int) /\ k <= u.af.length /\ tskErr ms.length i u = afErr i (u.af.take k) (u.af.drop k) /\ ds = [] /\ w42.heap.size <= wr.heap.size /\ Bun w [rbox (w.heap.size + 1) 54 #[.int .i64 u.m, .int .i64 u.ho.lo, .int .i64 u.ho.hi, .int .i64 u.wa.lo, .int .i64 u.wa.hi, .int .i64 u.fr.lo, .int .i64 u.fr.hi, .slice a_u u.af.length c_u], rsl intEnc 1 lo hi (.slice a_u u.af.length c_u) u.af, rafs lo hi ts, rsl tskEnc 8 lo hi (.slice (some ⟨x5, o6, none⟩) ts.length cT) ts, rsl mchEnc 3 lo hi (.slice aM ms.length cM) ms] wr) := ⟨_, rfl⟩
     have HI45 := lhd HI450
     clear HI450
     refine wp_loopS 75 rfl HI45_ (fun t wr => u.af.length - (intOf (t 9)).toNat) ?atStart1 ?round1
     case round1 =>
      intro t ds wr hHid
      rw [HI45.out] at hHid
      obtain ⟨k, e1, e5, e9, hrel⟩ := hHid
      have e := rgJ475 t
      (try dsimp only at e)
      rw [e1, e5, e9] at e
      rw [e]
      simp only [e9]
      clear e e1 e5 e9
      obtain ⟨hk, hR, rfl, hs47, hF46⟩ := hrel
      clear F23
      obtain ⟨w48, rfl⟩ : ∃ x_ : World, x_ = wr := ⟨_, rfl⟩
      have HR := lhd hR
      clear hR
      by_cases c49 : (k : Int) < (u.af.length : Int)
      ·
       have c49H := lhd c49
       obtain ⟨x50, o51, e_⟩ := Sl.addr (hF46.s 1 rfl) (by omega)
       subst e_
       obtain ⟨z, hz52_⟩ : ∃ z_, u.af[k]? = some z_ := ⟨_, List.getElem?_eq_getElem (by omega)⟩
       have hz52 := lhd hz52_
       clear hz52_
       have HZ : Hid (tskErr ms.length i u = afErr i (u.af.take k) (z :: u.af.drop (k + 1))) := lhd (by rw [HR.out, drop_cons hz52.out])
       have b53 := hF46.bx8 0 rfl
       have ge54 : World.cell? _ ⟨x50, o51 + k, none⟩ = some (.int .i64 z) := (by have h_ := Sl.cells (hF46.at 1 rfl) hz52.out 0 _ rfl; simpa using h_)
       have gl55 := cell_lt ge54
       go_wp2_with fail
       clear b53 ge54 gl55
       refine (out5_c _ _ _ _).mono ?_
       rintro e _ ⟨rfl, rfl⟩
       cases c56 : outB z 0 ((i : Int) - 1)
       ·
        have c56o := outB_f c56
        have c56H := lhd c56
        go_wp2_with fail
        obtain ⟨HI57_, HI570⟩ : ∃ I : RelT, I = (fun t ds wr => ∃ (j : Nat), t 1 = .int .i64 (i : Int) /\ t 5 = .pointer (some ⟨w.heap.size + 1, 0, none⟩) /\ t 9 = .int .i64 (k : Int) /\ t 10 = .int .i64 (j : Int) /\ j <= k /\ hasI (u.af.take j) z = false /\ ds = [] /\ w48.heap.size <= wr.heap.size /\ Bun w [rbox (w.heap.size + 1) 54 #[.int .i64 u.m, .int .i64 u.ho.lo, .int .i64 u.ho.hi, .int .i64 u.wa.lo, .int .i64 u.wa.hi, .int .i64 u.fr.lo, .int .i64 u.fr.hi, .slice (some ⟨x50, o51, none⟩) u.af.length c_u], rsl intEnc 1 lo hi (.slice (some ⟨x50, o51, none⟩) u.af.length c_u) u.af, rafs lo hi ts, rsl tskEnc 8 lo hi (.slice (some ⟨x5, o6, none⟩) ts.length cT) ts, rsl mchEnc 3 lo hi (.slice aM ms.length cM) ms] wr) := ⟨_, rfl⟩
        have HI57 := lhd HI570
        clear HI570
        refine wp_loopS 75 rfl HI57_ (fun t wr => k - (intOf (t 10)).toNat) ?atStart2 ?round2
        case round2 =>
         intro t ds wr hHid
         rw [HI57.out] at hHid
         obtain ⟨j, e1, e5, e9, e10, hrel⟩ := hHid
         have e := rgJ475 t
         (try dsimp only at e)
         rw [e1, e5, e9, e10] at e
         rw [e]
         simp only [e10]
         clear e e1 e5 e9 e10
         obtain ⟨hj, hRJ, rfl, hs59, hF58⟩ := hrel
         clear hF46
         obtain ⟨w60, rfl⟩ : ∃ x_ : World, x_ = wr := ⟨_, rfl⟩
         have HRJ := lhd hRJ
         clear hRJ
         by_cases c61 : (j : Int) < (k : Int)
         ·
          have c61H := lhd c61
          obtain ⟨y, hz62_⟩ : ∃ z_, u.af[j]? = some z_ := ⟨_, List.getElem?_eq_getElem (by omega)⟩
          have hz62 := lhd hz62_
          clear hz62_
          go_wp2_with fail
          have b63 := hF58.bx8 0 rfl
          have ge64 : World.cell? _ ⟨x50, o51 + j, none⟩ = some (.int .i64 y) := (by have h_ := Sl.cells (hF58.at 1 rfl) hz62.out 0 _ rfl; simpa using h_)
          have ge65 : World.cell? _ ⟨x50, o51 + k, none⟩ = some (.int .i64 z) := (by have h_ := Sl.cells (hF58.at 1 rfl) hz52.out 0 _ rfl; simpa using h_)
          go_quiet (fail)
          clear b63 ge64 ge65
          have F66 := hF58.drewN nq
          clear hF58
          have Fn_ := F66
          (try dsimp only [lpF, lpG] at Fn_)
          obtain ⟨w67, hx68, F70, hxs69⟩ := Fn_.name
          (try simp at hxs69)
          rw [hx68]
          clear hx68 F66 Fn_
          by_cases c71 : y = z
          ·
           obtain ⟨c71a, c71b⟩ := bqt c71
           have c71H := lhd c71
           clear c71
           have Hx72 := lhd (show (tskErr ms.length i u) = 9 by rw [HZ.out, afErr, if_neg (by omega), if_pos (has_found hz62.out (by omega) c71H.out)])
           go_wp2_with fail
           go_ret
           exact ⟨by rw [Hx72.out] <;> rfl, F70.gb⟩
          obtain ⟨c71a, c71b⟩ := bqf c71
          have c71H := lhd c71
          clear c71
          go_wp2_with fail
          (first | refine ⟨by kernel_rfl, ?_, ?_⟩ | refine ⟨rfl, ?_, ?_⟩ | refine ⟨?_, ?_⟩)
          · rw [HI57.out]; exact ⟨j + 1, (by kernel_rfl), (by kernel_rfl), (by kernel_rfl), (by show Value.int .i64 ((j : Int) + 1) = _; simp), (by omega), (has_next hz62.out HRJ.out c71H.out), (by first | rfl | simp), (by first | omega | (simp; done) | (simp; omega)), F70⟩
          · simp [slot, intOf]; omega
         have c61H := lhd c61
         have c61a := dec_f c61
         have HNO : Hid (hasI (u.af.take k) z = false) := lhd (by have h_ := HRJ.out; rwa [show j = k by omega] at h_)
         go_wp2_with fail
         (first | refine ⟨by kernel_rfl, ?_, ?_⟩ | refine ⟨rfl, ?_, ?_⟩ | refine ⟨?_, ?_⟩)
         · rw [HI45.out]; exact ⟨k + 1, (by kernel_rfl), (by kernel_rfl), (by show Value.int .i64 ((k : Int) + 1) = _; simp), (by omega), (by rw [HZ.out, afErr, if_neg (by omega), if_neg (by have h_ := HNO.out; unfold hasI at h_; rw [h_]; decide), take_snoc hz52.out]), (by first | rfl | simp), (by first | omega | (simp; done) | (simp; omega)), hF58⟩
         · simp [slot, intOf]; omega
        case atStart2 =>
         rw [HI57.out]
         exact ⟨0, (by kernel_rfl), (by kernel_rfl), (by kernel_rfl), rfl, Nat.zero_le _, rfl, rfl, (by first | exact Nat.le_refl _ | omega | (simp; done) | (simp; omega)), hF46⟩
       have c56o := outB_t c56
       have c56H := lhd c56
       have Hx73 := lhd (show (tskErr ms.length i u) = 7 by rw [HZ.out, afErr, if_pos (by omega)])
       go_wp2_with fail
       go_ret
       exact ⟨by rw [Hx73.out] <;> rfl, hF46.gb⟩
      have c49H := lhd c49
      have c49a := dec_f c49
      have HE : Hid (tskErr ms.length i u = 0) := lhd (by rw [HR.out, List.drop_eq_nil_of_le (by omega)]; rfl)
      have Hx74 := lhd (show (tskErr ms.length i u) = 0 by exact HE.out)
      have b75 := hF46.bx8 0 rfl
      go_wp2_with fail
      clear b75
      go_ret
      exact ⟨by rw [Hx74.out] <;> rfl, hF46.gb⟩
     case atStart1 =>
      rw [HI45.out]
      exact ⟨0, (by kernel_rfl), (by kernel_rfl), rfl, Nat.zero_le _, H0.out, rfl, (by first | exact Nat.le_refl _ | omega | (simp; done) | (simp; omega)), ((F23.drop 0 rfl).drop 1 rfl)⟩
    obtain ⟨c44a, c44b⟩ := bqf c44
    have c44H := lhd c44
    clear c44
    have Hx76 := lhd (show (tskErr ms.length i u) = spanErr u.fr.lo u.fr.hi 0 2000 by unfold tskErr; rw [if_neg (by omega), if_neg (not_not_intro c32H.out), if_neg (not_not_intro c38H.out), if_pos c44H.out])
    go_wp2_with fail
    go_ret
    exact ⟨by rw [Hx76.out] <;> rfl, F23.gb⟩
   obtain ⟨c38a, c38b⟩ := bqf c38
   have c38H := lhd c38
   clear c38
   have Hx77 := lhd (show (tskErr ms.length i u) = spanErr u.wa.lo u.wa.hi 0 2000 by unfold tskErr; rw [if_neg (by omega), if_neg (not_not_intro c32H.out), if_pos c38H.out])
   go_wp2_with fail
   go_ret
   exact ⟨by rw [Hx77.out] <;> rfl, F23.gb⟩
  obtain ⟨c32a, c32b⟩ := bqf c32
  have c32H := lhd c32
  clear c32
  have Hx78 := lhd (show (tskErr ms.length i u) = spanErr u.ho.lo u.ho.hi 0 2000 by unfold tskErr; rw [if_neg (by omega), if_pos c32H.out])
  go_wp2_with fail
  go_ret
  exact ⟨by rw [Hx78.out] <;> rfl, F23.gb⟩
 have c24o := outB_t c24
 have c24H := lhd c24
 have Hx79 := lhd (show (tskErr ms.length i u) = 7 by unfold tskErr; rw [if_pos (by omega)])
 go_wp2_with fail
 go_ret
 exact ⟨by rw [Hx79.out] <;> rfl, F23.gb⟩
set_option maxHeartbeats 8000000 in
theorem rbcheck_c (lo hi : Nat) (vm vt : Value) (ms : List Mch) (ts : List Tsk) (w : World) (hj : JobAt lo hi w vm vt ms ts) (h2 : hi <= w.heap.size) :
  Calls Tryz.prog 97 #[.agg #[vm, vt]] w (Ret (.int .i64 (jobErr ms ts)) w) := by
 have F1 : Bun w [] w := Bun.nil _
 obtain ⟨hms, hts, haf⟩ := hj
 have hm_ms := hms.len
 unfold maxLen at hm_ms
 obtain ⟨aM, cM, rfl⟩ := hms.any
 replace F1 := F1.sl0 hms h2 rfl
 clear hms
 have hm_ts := hts.len
 unfold maxLen at hm_ts
 obtain ⟨aT, cT, rfl⟩ := hts.any
 replace F1 := F1.sl0 hts h2 rfl
 clear hts
 replace F1 := F1.non0 (rafs lo hi ts) haf (fun _ h_ => Nat.lt_of_lt_of_le h_.2 h2) rfl rfl
 clear haf
 go_enter Tryz.func97, Tryz.ntmps97
 by_cases c5 : 10 < (ms.length : Int)
 ·
  have c5H := lhd c5
  have Hx6 := lhd (show (jobErr ms ts) = 8 by rw [jobErr, if_pos (by omega)])
  go_wp2_with fail
  replace F1 := F1.new 43 #[.slice aM ms.length cM, .slice aT ts.length cT] (n := w.heap.size) (by simp)
  go_ret
  exact ⟨by rw [Hx6.out] <;> rfl, F1.gb⟩
 have c5H := lhd c5
 have c5a := dec_f c5
 go_wp2_with fail
 replace F1 := F1.new 43 #[.slice aM ms.length cM, .slice aT ts.length cT] (n := w.heap.size) (by simp)
 have H0 : Hid (jobErr ms ts = jobE1 ms ts ms) := lhd (by rw [jobErr, if_neg (by omega)]; rfl)
 obtain ⟨HI9_, HI90⟩ : ∃ I : RelT, I = (fun t ds wr => ∃ (k : Nat), t 1 = .pointer (some ⟨w.heap.size, 0, none⟩) /\ t 3 = .int .i64 (k : Int) /\ k <= ms.length /\ jobErr ms ts = jobE1 ms ts (ms.drop k) /\ ds = [] /\ w.heap.size <= wr.heap.size /\ Bun w [rbox w.heap.size 43 #[.slice aM ms.length cM, .slice aT ts.length cT], rafs lo hi ts, rsl tskEnc 8 lo hi (.slice aT ts.length cT) ts, rsl mchEnc 3 lo hi (.slice aM ms.length cM) ms] wr) := ⟨_, rfl⟩
 have HI9 := lhd HI90
 clear HI90
 refine wp_loopS 56 rfl HI9_ (fun t wr => ms.length - (intOf (t 3)).toNat) ?atStart3 ?round3
 case round3 =>
  intro t ds wr hHid
  rw [HI9.out] at hHid
  obtain ⟨k, e1, e3, hrel⟩ := hHid
  have e := rgJ456 t
  (try dsimp only at e)
  rw [e1, e3] at e
  rw [e]
  simp only [e3]
  clear e e1 e3
  obtain ⟨hk, hR, rfl, hs11, hF10⟩ := hrel
  clear F1
  obtain ⟨w12, rfl⟩ : ∃ x_ : World, x_ = wr := ⟨_, rfl⟩
  have HR := lhd hR
  clear hR
  by_cases c13 : (k : Int) < (ms.length : Int)
  ·
   have c13H := lhd c13
   obtain ⟨x14, o15, e_⟩ := Sl.addr (hF10.s 3 rfl) (by omega)
   subst e_
   obtain ⟨z, hz16_⟩ : ∃ z_, ms[k]? = some z_ := ⟨_, List.getElem?_eq_getElem (by omega)⟩
   have hz16 := lhd hz16_
   clear hz16_
   have HZ : Hid (jobErr ms ts = if ¬ mchErr z = 0 then mchErr z else jobE1 ms ts (ms.drop (k + 1))) := lhd (by rw [HR.out, drop_cons hz16.out, jobE1_cons])
   have b17 := hF10.bx2 0 rfl
   have ge18 : World.cell? _ ⟨x14, o15 + k * 3, none⟩ = some (.int .i64 z.mild) := (Sl.cells (hF10.at 3 rfl) hz16.out 0 _ rfl)
   have gl19 := cell_lt ge18
   have ge20 : World.cell? _ ⟨x14, o15 + k * 3 + 1, none⟩ = some (.int .i64 z.hard) := (Sl.cells (hF10.at 3 rfl) hz16.out 1 _ rfl)
   have ge21 : World.cell? _ ⟨x14, o15 + k * 3 + 2, none⟩ = some (.int .i64 z.shift) := (Sl.cells (hF10.at 3 rfl) hz16.out 2 _ rfl)
   go_wp2_with fail
   clear b17 ge18 gl19 ge20 ge21
   have F22 := hF10.new 94 #[.int .i64 z.mild, .int .i64 z.hard, .int .i64 z.shift] (n := w12.heap.size) (by simp)
   clear hF10
   refine (out5_c _ _ _ _).mono ?_
   rintro e _ ⟨rfl, rfl⟩
   have Fn_ := F22
   (try dsimp only [lpF, lpG] at Fn_)
   obtain ⟨w23, hx24, F26, hxs25⟩ := Fn_.name
   (try simp at hxs25)
   rw [hx24]
   clear hx24 F22 Fn_
   cases c27 : outB z.mild (-1000) 1000
   ·
    have c27o := outB_f c27
    have c27H := lhd c27
    have b28 := F26.bx3 0 rfl
    go_wp2_with fail
    clear b28
    refine (out5_c _ _ _ _).mono ?_
    rintro e _ ⟨rfl, rfl⟩
    cases c29 : outB z.hard (-1000) 1000
    ·
     have c29o := outB_f c29
     have c29H := lhd c29
     by_cases c30 : z.hard < z.mild
     ·
      have c30H := lhd c30
      have Hx31 := lhd (show (jobErr ms ts) = 11 by rw [HZ.out, show mchErr z = 11 by (unfold mchErr; (repeat' split) <;> omega)]; rfl)
      have b32 := F26.bx3 0 rfl
      go_wp2_with fail
      clear b32
      go_ret
      exact ⟨by rw [Hx31.out] <;> rfl, F26.gb⟩
     have c30H := lhd c30
     have c30a := dec_f c30
     have b33 := F26.bx3 0 rfl
     go_wp2_with fail
     clear b33
     refine (out5_c _ _ _ _).mono ?_
     rintro e _ ⟨rfl, rfl⟩
     cases c34 : outB z.shift 1 24
     ·
      have c34o := outB_f c34
      have c34H := lhd c34
      go_wp2_with fail
      have F35 : Bun w [rbox w.heap.size 43 #[.slice (some ⟨x14, o15, none⟩) ms.length cM, .slice aT ts.length cT], rafs lo hi ts, rsl tskEnc 8 lo hi (.slice aT ts.length cT) ts, rsl mchEnc 3 lo hi (.slice (some ⟨x14, o15, none⟩) ms.length cM) ms] _ := F26.pick [1, 2, 3, 4] (by decide) rfl
      clear F26
      (first | refine ⟨by kernel_rfl, ?_, ?_⟩ | refine ⟨rfl, ?_, ?_⟩ | refine ⟨?_, ?_⟩)
      · rw [HI9.out]; exact ⟨k + 1, (by kernel_rfl), (by show Value.int .i64 ((k : Int) + 1) = _; simp), (by omega), (by rw [HZ.out, if_neg (not_not_intro (by unfold mchErr; rw [if_neg (by omega), if_neg (by omega), if_neg (by omega)]))]), (by first | rfl | simp), (by first | omega | (simp; done) | (simp; omega)), F35⟩
      · simp [slot, intOf]; omega
     have c34o := outB_t c34
     have c34H := lhd c34
     have Hx36 := lhd (show (jobErr ms ts) = 2 by rw [HZ.out, show mchErr z = 2 by (unfold mchErr; (repeat' split) <;> omega)]; rfl)
     go_wp2_with fail
     go_ret
     exact ⟨by rw [Hx36.out] <;> rfl, F26.gb⟩
    have c29o := outB_t c29
    have c29H := lhd c29
    have Hx37 := lhd (show (jobErr ms ts) = 2 by rw [HZ.out, show mchErr z = 2 by (unfold mchErr; (repeat' split) <;> omega)]; rfl)
    go_wp2_with fail
    go_ret
    exact ⟨by rw [Hx37.out] <;> rfl, F26.gb⟩
   have c27o := outB_t c27
   have c27H := lhd c27
   have Hx38 := lhd (show (jobErr ms ts) = 2 by rw [HZ.out, show mchErr z = 2 by (unfold mchErr; (repeat' split) <;> omega)]; rfl)
   go_wp2_with fail
   go_ret
   exact ⟨by rw [Hx38.out] <;> rfl, F26.gb⟩
  have c13H := lhd c13
  have c13a := dec_f c13
  have HE : Hid (jobErr ms ts = if 30 < ts.length then 8 else tsksErr ms.length 0 ts) := lhd (by rw [HR.out, List.drop_eq_nil_of_le (by omega)]; rfl)
  by_cases c39 : 30 < (ts.length : Int)
  ·
   have c39H := lhd c39
   have Hx40 := lhd (show (jobErr ms ts) = 8 by rw [HE.out, if_pos (by omega)])
   have b41 := hF10.bx2 0 rfl
   go_wp2_with fail
   clear b41
   go_ret
   exact ⟨by rw [Hx40.out] <;> rfl, hF10.gb⟩
  have c39H := lhd c39
  have c39a := dec_f c39
  have b42 := hF10.bx2 0 rfl
  go_wp2_with fail
  clear b42
  have H1 : Hid (jobErr ms ts = tsksErr ms.length 0 ts) := lhd (by rw [HE.out, if_neg (by omega)])
  obtain ⟨HI43_, HI430⟩ : ∃ I : RelT, I = (fun t ds wr => ∃ (k : Nat), t 1 = .pointer (some ⟨w.heap.size, 0, none⟩) /\ t 5 = .int .i64 (k : Int) /\ k <= ts.length /\ jobErr ms ts = tsksErr ms.length k (ts.drop k) /\ ds = [] /\ w12.heap.size <= wr.heap.size /\ Bun w [rbox w.heap.size 43 #[.slice aM ms.length cM, .slice aT ts.length cT], rafs lo hi ts, rsl tskEnc 8 lo hi (.slice aT ts.length cT) ts, rsl mchEnc 3 lo hi (.slice aM ms.length cM) ms] wr) := ⟨_, rfl⟩
  have HI43 := lhd HI430
  clear HI430
  refine wp_loopS 56 rfl HI43_ (fun t wr => ts.length - (intOf (t 5)).toNat) ?atStart4 ?round4
  case round4 =>
   intro t ds wr hHid
   rw [HI43.out] at hHid
   obtain ⟨k, e1, e5, hrel⟩ := hHid
   have e := rgJ456 t
   (try dsimp only at e)
   rw [e1, e5] at e
   rw [e]
   simp only [e5]
   clear e e1 e5
   obtain ⟨hk2, hR2, rfl, hs45, hF44⟩ := hrel
   clear hF10
   obtain ⟨w46, rfl⟩ : ∃ x_ : World, x_ = wr := ⟨_, rfl⟩
   have HR2 := lhd hR2
   clear hR2
   by_cases c47 : (k : Int) < (ts.length : Int)
   ·
    have c47H := lhd c47
    obtain ⟨z, htz⟩ : ∃ t_, ts[k]? = some t_ := ⟨_, List.getElem?_eq_getElem (by omega)⟩
    have HZT := lhd htz
    clear htz
    have HZ : Hid (jobErr ms ts = if ¬ tskErr ms.length k z = 0 then tskErr ms.length k z else tsksErr ms.length (k + 1) (ts.drop (k + 1))) := lhd (by rw [HR2.out, drop_cons HZT.out, tsksErr])
    have b48 := hF44.bx2 0 rfl
    go_wp2_with fail
    clear b48
    refine (rtask_c lo hi _ _ ms ts k z _ (JobAt.mk (hF44.s 3 rfl) (hF44.s 2 rfl) (hF44.at 1 rfl : Afs lo hi _ ts)) (Nat.le_trans h2 hF44.gb.size) HZT.out).mono ?_
    rintro e w51 ⟨rfl, hg49⟩
    have hg49s := hg49.size
    (try simp at hg49s)
    have F52 := hF44.gn hg49
    clear hF44
    clear hg49
    by_cases c53 : tskErr ms.length k z = 0
    ·
     obtain ⟨c53a, c53b⟩ := bqt c53
     have c53H := lhd c53
     clear c53
     go_wp2_with fail
     (first | refine ⟨by kernel_rfl, ?_, ?_⟩ | refine ⟨rfl, ?_, ?_⟩ | refine ⟨?_, ?_⟩)
     · rw [HI43.out]; exact ⟨k + 1, (by kernel_rfl), (by show Value.int .i64 ((k : Int) + 1) = _; simp), (by omega), (by rw [HZ.out, if_neg (not_not_intro c53H.out)]), (by first | rfl | simp), (by first | omega | (simp; done) | (simp; omega)), F52⟩
     · simp [slot, intOf]; omega
    obtain ⟨c53a, c53b⟩ := bqf c53
    have c53H := lhd c53
    clear c53
    have Hx54 := lhd (show (jobErr ms ts) = tskErr ms.length k z by rw [HZ.out, if_pos c53H.out])
    go_wp2_with fail
    go_ret
    exact ⟨by rw [Hx54.out] <;> rfl, F52.gb⟩
   have c47H := lhd c47
   have c47a := dec_f c47
   have HE2 : Hid (jobErr ms ts = 0) := lhd (by rw [HR2.out, List.drop_eq_nil_of_le (by omega)]; rfl)
   have Hx55 := lhd (show (jobErr ms ts) = 0 by exact HE2.out)
   have b56 := hF44.bx2 0 rfl
   go_wp2_with fail
   clear b56
   go_ret
   exact ⟨by rw [Hx55.out] <;> rfl, hF44.gb⟩
  case atStart4 =>
   rw [HI43.out]
   exact ⟨0, (by kernel_rfl), rfl, Nat.zero_le _, H1.out, rfl, (by first | exact Nat.le_refl _ | omega | (simp; done) | (simp; omega)), hF10⟩
 case atStart3 =>
  rw [HI9.out]
  exact ⟨0, (by kernel_rfl), rfl, Nat.zero_le _, H0.out, rfl, (by first | exact Nat.le_refl _ | omega | (simp; done) | (simp; omega)), F1⟩
set_option maxHeartbeats 4000000 in
theorem rboth_c (lo hi : Nat) (vm vt : Value) (ms : List Mch) (ts : List Tsk) (lo2 hi2 : Nat) (vd : Value) (dl : List Wea) (w : World) (hj : JobAt lo hi w vm vt ms ts) (h2 : hi <= w.heap.size) (hd : Sl weaEnc 6 lo2 hi2 w vd dl) (h3 : hi2 <= w.heap.size) :
  Calls Tryz.prog 76 #[.agg #[vm, vt], vd] w (Ret (.int .i64 (bothErr ms ts dl)) w) := by
 have F1 : Bun w [] w := Bun.nil _
 obtain ⟨hms, hts, haf⟩ := hj
 have hm_ms := hms.len
 unfold maxLen at hm_ms
 obtain ⟨aM, cM, rfl⟩ := hms.any
 replace F1 := F1.sl0 hms h2 rfl
 clear hms
 have hm_ts := hts.len
 unfold maxLen at hm_ts
 obtain ⟨aT, cT, rfl⟩ := hts.any
 replace F1 := F1.sl0 hts h2 rfl
 clear hts
 replace F1 := F1.non0 (rafs lo hi ts) haf (fun _ h_ => Nat.lt_of_lt_of_le h_.2 h2) rfl rfl
 clear haf
 have hm_ds := hd.len
 unfold maxLen at hm_ds
 obtain ⟨ad, cd, rfl⟩ := hd.any
 replace F1 := F1.sl0 hd h3 rfl
 clear hd
 go_enter Tryz.func76, Tryz.ntmps76
 go_wp2_with fail
 replace F1 := F1.new 43 #[.slice aM ms.length cM, .slice aT ts.length cT] (n := w.heap.size) (by simp)
 refine (rbcheck_c lo hi _ _ ms ts _ (JobAt.mk (F1.s 4 rfl) (F1.s 3 rfl) (F1.at 2 rfl : Afs lo hi _ ts)) (Nat.le_trans h2 F1.gb.size)).mono ?_
 rintro e w9 ⟨rfl, hg7⟩
 have hg7s := hg7.size
 (try simp at hg7s)
 replace F1 := F1.gn hg7
 clear hg7
 by_cases c11 : jobErr ms ts = 0
 ·
  obtain ⟨c11a, c11b⟩ := bqt c11
  have c11H := lhd c11
  clear c11
  go_wp2_with fail
  refine (rindex_c lo2 hi2 _ dl _ (F1.s 1 rfl) (Nat.le_trans h3 F1.gb.size)).mono ?_
  rintro e w14 ⟨rfl, hg12⟩
  have hg12s := hg12.size
  (try simp at hg12s)
  replace F1 := F1.gn hg12
  clear hg12
  have Hx16 := lhd (show (bothErr ms ts dl) = daysE dl by rw [bothErr, if_neg (not_not_intro c11H.out)])
  go_wp2_with fail
  replace F1 := F1.new 27 #[.int .i64 ((indexI dl).lo), .int .i64 ((indexI dl).hi)] (n := w14.heap.size) (by simp)
  go_ret
  exact ⟨by rw [Hx16.out] <;> rfl, F1.gb⟩
 obtain ⟨c11a, c11b⟩ := bqf c11
 have c11H := lhd c11
 clear c11
 have Hx18 := lhd (show (bothErr ms ts dl) = jobErr ms ts by rw [bothErr, if_pos c11H.out])
 go_wp2_with fail
 go_ret
 exact ⟨by rw [Hx18.out] <;> rfl, F1.gb⟩
end Go.Proofs.YtdgplekokdeafaaGreat
