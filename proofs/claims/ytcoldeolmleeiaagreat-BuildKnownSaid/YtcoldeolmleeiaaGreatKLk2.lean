/- build: build.Link: a stable sort. -/
import Derived.Test.YtcoldeolmleeiaaGreatKLk1
import Derived.Test.YtcoldeolmleeiaaGreatKN2
import Derived.Test.YtcoldeolmleeiaaGreatKG2
set_option linter.unusedVariables false
set_option linter.unusedSimpArgs false
set_option linter.unnecessarySimpa false
namespace Go.Proofs.YtcoldeolmleeiaaGreat
open Go.RowKit
set_option maxRecDepth 100000
attribute [local go_sem] Oper.semAt_some
theorem rgLk253 (t : Nat -> Value) : ((List.range 53).map t).toArray = #[t 0, t 1, t 2, t 3, t 4, t 5, t 6, t 7, t 8, t 9, t 10, t 11, t 12, t 13, t 14, t 15, t 16, t 17, t 18, t 19, t 20, t 21, t 22, t 23, t 24, t 25, t 26, t 27, t 28, t 29, t 30, t 31, t 32, t 33, t 34, t 35, t 36, t 37, t 38, t 39, t 40, t 41, t 42, t 43, t 44, t 45, t 46, t 47, t 48, t 49, t 50, t 51, t 52] := rfl
def lkC (ls : List Lg) (x : Int) : Int := match ls[x.toNat]? with | some l => l.cost | none => 0
theorem lkC_at {ls : List Lg} {i : Nat} {l : Lg} (h : ls[i]? = some l) : lkC ls (i : Int) = l.cost := by
 unfold lkC
 rw [Int.toNat_natCast, h]
def ordOk (n : Nat) (l : List Int) : Prop := ∀ x ∈ l, 0 <= x /\ x < n
theorem ordOk.at {n : Nat} {l : List Int} {k : Nat} (h : ordOk n l) (hk : k < l.length) : 0 <= l.getD k 0 /\ l.getD k 0 < n := by
 rw [List.getD_eq_getElem?_getD, List.getElem?_eq_getElem hk]
 exact h _ (List.getElem_mem _)
theorem ordOk.swp {n : Nat} {l : List Int} {j : Nat} (h : ordOk n l) (hj : j + 1 < l.length) : ordOk n (swpJ l j) := fun x hx => h x (mem_swpJ hj hx)
theorem ordOk.ins {n : Nat} {l : List Int} {c : Int -> Int} {k : Nat} (h : ordOk n l) (hk : k < l.length ∨ k = 0) : ordOk n (insN c l k) := fun x hx => h x (mem_insN hk hx)
theorem getD_at {l : List Int} {k : Nat} (h : k < l.length) : l[k]? = some (l.getD k 0) := by
 rw [List.getD_eq_getElem?_getD, List.getElem?_eq_getElem h]; rfl
theorem cmpI_neg {x y : Int} : cmpI x y < 0 ↔ x < y := by unfold cmpI; (repeat' split) <;> omega
set_option maxHeartbeats 4000000 in
theorem link1_c (lo hi gn cL : Nat) (aL : Option Addr) (N : Int) (ls : List Lg) (i j : Nat) (x y : Lg) (w : World) (hl : Sl lgEnc 5 lo hi w (.slice aL ls.length cL) ls) (h2 : hi <= w.heap.size) (hb : Bk w gn 54 #[.int .i64 N, .slice aL ls.length cL]) (hx : ls[i]? = some x) (hy : ls[j]? = some y) :
  Calls Tryz.prog 62 #[.int .i64 (i : Int), .int .i64 (j : Int), .pointer (some ⟨gn, 0, none⟩)] w (Ret (.int .i64 (cmpI x.cost y.cost)) w) := by
 have F1 : Bun w [] w := Bun.nil _
 have hm_ls := hl.len
 unfold maxLen at hm_ls
 replace F1 := F1.sl0 hl h2 rfl
 clear hl
 replace F1 := F1.fix0 hb rfl
 have hil := (List.getElem?_eq_some_iff.1 hx).1
 have hjl := (List.getElem?_eq_some_iff.1 hy).1
 have HX := lhd hx
 have HY := lhd hy
 clear hx hy hb
 obtain ⟨x4, o5, e_⟩ := Sl.addr (F1.s 1 rfl) (by omega)
 subst e_
 have hz6 : Hid (ls[i]? = some x) := lhd (HX.out)
 have hz7 : Hid (ls[j]? = some y) := lhd (HY.out)
 go_enter Tryz.func62, Tryz.ntmps62
 go_wp2_with fail
 have b8 := Bk.bx2 (F1.b 0 rfl)
 have ge9 : World.cell? _ ⟨x4, o5 + i * 5 + 4, none⟩ = some (.int .i64 x.cost) := (Sl.cells (F1.at 1 rfl) hz6.out 4 _ rfl)
 have ge10 : World.cell? _ ⟨x4, o5 + j * 5 + 4, none⟩ = some (.int .i64 y.cost) := (Sl.cells (F1.at 1 rfl) hz7.out 4 _ rfl)
 go_quiet (((go_at_call 63; exact Calls.quiet_of_same ((cmp1_c _ _ _).mono (fun _ _ h => ⟨h.1, h.2.symm⟩)))))
 clear b8 ge9 ge10
 replace F1 := F1.drewN nq
 have Fn_ := F1
 (try dsimp only [lpF, lpG] at Fn_)
 obtain ⟨w12, hx13, F15, hxs14⟩ := Fn_.name
 (try simp at hxs14)
 rw [hx13]
 clear hx13 F1 Fn_
 go_wp2_with fail
 go_ret
 exact ⟨rfl, F15.gb⟩
set_option maxHeartbeats 8000000 in
theorem isort_c (w0 : World) (b0 lo hi gn cap cL nn : Nat) (oa aL : Option Addr) (N : Int) (ls : List Lg) (LR : List Res) (l : List Int) (w : World) (hB : Bun w0 [rown intEnc 3 1 b0 (.slice oa nn cap) l, rbox gn 54 #[.int .i64 N, .slice aL ls.length cL], rsl lgEnc 5 lo hi (.slice aL ls.length cL) ls, rall LR] w) (hln : l.length = nn) (hnn : nn < 20) (hok : ordOk ls.length l) :
  Calls Tryz.prog 91 #[.slice oa nn cap, .int .i64 0, .int .i64 (nn : Int), .func (.func 62) #[] #[.pointer (some ⟨gn, 0, none⟩)]] w (fun e w' => e = .returned (.tuple #[]) /\ Bun w0 [rown intEnc 3 1 b0 (.slice oa nn cap) (insN (lkC ls) l (nn - 1)), rbox gn 54 #[.int .i64 N, .slice aL ls.length cL], rsl lgEnc 5 lo hi (.slice aL ls.length cL) ls, rall LR] w') := by
 have hm_ls := (hB.s 2 rfl).len
 unfold maxLen at hm_ls
 have HOK := lhd hok
 clear hok
 go_enter Tryz.func91, Tryz.ntmps91
 go_wp2_with fail
 obtain ⟨HI1_, HI10⟩ : ∃ I : RelT, I = (fun t ds wr => ∃ (k : Nat), t 0 = .slice oa nn cap /\ t 1 = .int .i64 0 /\ t 2 = .int .i64 (nn : Int) /\ t 3 = .func (.func 62) #[] #[.pointer (some ⟨gn, 0, none⟩)] /\ t 8 = .int .i64 ((k : Int) + 1) /\ (k + 1 <= nn ∨ k = 0) /\ ds = [] /\ Bun w0 [rown intEnc 3 1 b0 (.slice oa nn cap) (insN (lkC ls) l k), rbox gn 54 #[.int .i64 N, .slice aL ls.length cL], rsl lgEnc 5 lo hi (.slice aL ls.length cL) ls, rall LR] wr) := ⟨_, rfl⟩
 have HI1 := lhd HI10
 clear HI10
 refine wp_loopS 53 rfl HI1_ (fun t wr => nn - (intOf (t 8)).toNat) ?atStart1 ?round1
 case round1 =>
  intro t ds wr hHid
  rw [HI1.out] at hHid
  obtain ⟨k, e0, e1, e2, e3, e8, hrel⟩ := hHid
  have e := rgLk253 t
  (try dsimp only at e)
  rw [e0, e1, e2, e3, e8] at e
  rw [e]
  simp only [e8]
  clear e e0 e1 e2 e3 e8
  obtain ⟨hk_, rfl, hF2⟩ := hrel
  clear hB
  obtain ⟨w4, rfl⟩ : ∃ x_ : World, x_ = wr := ⟨_, rfl⟩
  by_cases c5 : ((k : Int) + 1) < (nn : Int)
  ·
   have c5H := lhd c5
   go_wp2_with fail
   obtain ⟨HI6_, HI60⟩ : ∃ I : RelT, I = (fun t ds wr => ∃ (j : Nat) (x : List Int), t 0 = .slice oa nn cap /\ t 1 = .int .i64 0 /\ t 2 = .int .i64 (nn : Int) /\ t 3 = .func (.func 62) #[] #[.pointer (some ⟨gn, 0, none⟩)] /\ t 8 = .int .i64 ((k : Int) + 1) /\ t 9 = .int .i64 (j : Int) /\ j <= k + 1 /\ Hid (sft (lkC ls) j x = insN (lkC ls) l (k + 1)) /\ Hid (x.length = nn) /\ Hid (ordOk ls.length x) /\ ds = [] /\ Bun w0 [rown intEnc 3 1 b0 (.slice oa nn cap) x, rbox gn 54 #[.int .i64 N, .slice aL ls.length cL], rsl lgEnc 5 lo hi (.slice aL ls.length cL) ls, rall LR] wr) := ⟨_, rfl⟩
   have HI6 := lhd HI60
   clear HI60
   refine wp_loopS 53 rfl HI6_ (fun t wr => (intOf (t 9)).toNat) ?atStart2 ?round2
   case round2 =>
    intro t ds wr hHid
    rw [HI6.out] at hHid
    obtain ⟨j, x, e0, e1, e2, e3, e8, e9, hrel⟩ := hHid
    have e := rgLk253 t
    (try dsimp only at e)
    rw [e0, e1, e2, e3, e8, e9] at e
    rw [e]
    simp only [e9]
    clear e e0 e1 e2 e3 e8 e9
    obtain ⟨hj_, HS, hxl, HXO, rfl, hF7⟩ := hrel
    clear hF2
    obtain ⟨w9, rfl⟩ : ∃ x_ : World, x_ = wr := ⟨_, rfl⟩
    by_cases c10 : 0 < (j : Int)
    ·
     have c10H := lhd c10
     obtain ⟨q, rfl⟩ : ∃ q, j = q + 1 := ⟨j - 1, by omega⟩
     have hql : q + 1 < x.length := by have h_ := hxl.out; omega
     have hqn : q + 1 < nn := by omega
     have hqa : 0 <= (q : Int) + 1 := by omega
     have hqb : (q : Int) + 1 < (nn : Int) := by omega
     have hqc : (q : Int) < (nn : Int) := by omega
     have hwq : IntKind.i64.wrap (q : Int) = (q : Int) := IntWalk.i64_in _ (by omega)
     have hq0 : 0 < (q : Int) + 1 := by omega
     obtain ⟨i1, hi1_⟩ : ∃ i_ : Nat, x.getD (q + 1) 0 = (i_ : Int) := ⟨(x.getD (q + 1) 0).toNat, by have h_ := HXO.out.at (show (q + 1) < x.length by omega); omega⟩
     obtain ⟨z1, hz1_⟩ : ∃ z_, ls[i1]? = some z_ := ⟨_, List.getElem?_eq_getElem (by have h_ := HXO.out.at (show (q + 1) < x.length by omega); omega)⟩
     have HJ1 := lhd hi1_
     have HZ1 := lhd hz1_
     clear hi1_ hz1_
     obtain ⟨i2, hi2_⟩ : ∃ i_ : Nat, x.getD q 0 = (i_ : Int) := ⟨(x.getD q 0).toNat, by have h_ := HXO.out.at (show q < x.length by omega); omega⟩
     obtain ⟨z2, hz2_⟩ : ∃ z_, ls[i2]? = some z_ := ⟨_, List.getElem?_eq_getElem (by have h_ := HXO.out.at (show q < x.length by omega); omega)⟩
     have HJ2 := lhd hi2_
     have HZ2 := lhd hz2_
     clear hi2_ hz2_
     obtain ⟨gO11, cO12, e_⟩ := Own.opn (hF7.o 0 rfl) (by omega)
     injection e_ with e1_ e3_ e2_
     subst e1_ e2_
     clear e3_
     have hz13 : Hid (x[(q + 1)]? = some (i1 : Int)) := lhd ((by rw [← HJ1.out]; exact getD_at (by omega)))
     have hz14 : Hid (x[q]? = some (i2 : Int)) := lhd ((by rw [← HJ2.out]; exact getD_at (by omega)))
     go_wp2_with fail
     have F15 := hF7.drew
     clear hF7
     refine ru_begin (fun W => W.cell? ⟨gO11, (q + 1), none⟩ = some (.int .i64 (i1 : Int)) /\ W.cell? ⟨gO11, q, none⟩ = some (.int .i64 (i2 : Int))) 16 (by kernel_rfl) ?_ ?_
     · exact ⟨(by simpa using (Own.sl (F15.o 0 rfl) (fun _ => rfl)).cells hz13.out 0 _ rfl), (by simpa using (Own.sl (F15.o 0 rfl) (fun _ => rfl)).cells hz14.out 0 _ rfl)⟩
     obtain ⟨wd17, hwd_⟩ : ∃ x : World, w9.drew = x := ⟨_, rfl⟩
     rw [hwd_] at F15 ⊢
     have wd17s : w9.heap.size <= wd17.heap.size := by rw [← hwd_]; exact Nat.le_refl _
     clear hwd_
     have hS16 := (And.intro ((by simpa using (Own.sl (F15.o 0 rfl) (fun _ => rfl)).cells hz13.out 0 _ rfl)) ((by simpa using (Own.sl (F15.o 0 rfl) (fun _ => rfl)).cells hz14.out 0 _ rfl)))
     refine ru_t 0 [3, 2] ?_
     refine ru_t 1 [3, 2] ?_
     refine ru_t 2 [3] ?_
     refine ru_t 3 [] ?_
     refine ru_t 4 [15, 14] ?_
     refine ru_t 5 [15, 14, 8, 7] ?_
     refine ru_t 6 [15, 14, 8, 7] ?_
     refine ru_t 7 [15, 14, 8] ?_
     refine ru_t 8 [15, 14] ?_
     refine ru_t 9 [15, 14, 13, 12] ?_
     refine ru_t 10 [15, 14, 13, 12, 11] ?_
     refine ru_t 11 [15, 14, 13, 12] ?_
     refine ru_t 12 [15, 14, 13] ?_
     refine ru_t 13 [15, 14] ?_
     (try simp only [lpX])
     clear hS16
     refine ru_o 14 fun K hK => ?_
     go_simp
     refine (link1_c 0 _ gn cL aL N ls i1 i2 z1 z2 _ (F15.slY 2 rfl) (Nat.le_refl _) (F15.b 1 rfl) HZ1.out HZ2.out).mono ?_
     rintro e w20 ⟨rfl, hg18⟩
     have hg18s := hg18.size
     (try simp at hg18s)
     replace F15 := F15.gn hg18
     refine ru_back hK (by exact ⟨(by simpa using (Own.sl (F15.o 0 rfl) (fun _ => rfl)).cells hz13.out 0 _ rfl), (by simpa using (Own.sl (F15.o 0 rfl) (fun _ => rfl)).cells hz14.out 0 _ rfl)⟩) (fun _ => ?_)
     clear hK K
     (try simp only [lpX])
     refine ru_p 15 ?_
     (try simp only [lpX])
     refine ru_o 16 fun K hK => ?_
     go_simp
     refine ru_back_late hK (by kernel_rfl) ?_
     clear hK K
     (try simp only [lpX])
     refine ru_done (by kernel_rfl) ?_
     have Fn_ := F15
     (try dsimp only [lpF, lpG] at Fn_)
     obtain ⟨w22, hx23, F25, hxs24⟩ := Fn_.name
     (try simp at hxs24)
     rw [hx23]
     clear hx23 F15 Fn_
     by_cases c26 : cmpI z1.cost z2.cost < 0
     ·
      have c26H := lhd c26
      have HLT : Hid (lkC ls (x.getD (q + 1) 0) < lkC ls (x.getD q 0)) := lhd (by rw [HJ1.out, HJ2.out, lkC_at HZ1.out, lkC_at HZ2.out, ← cmpI_neg]; exact c26H.out)
      go_wp2_with fail
      replace F25 := F25.drew
      refine ru_begin (fun W => W.cell? ⟨gO11, q, none⟩ = some (.int .i64 (i2 : Int)) /\ W.cell? ⟨gO11, (q + 1), none⟩ = some (.int .i64 (i1 : Int))) 15 (by kernel_rfl) ?_ ?_
      · exact ⟨(by simpa using (Own.sl (F25.o 0 rfl) (fun _ => rfl)).cells hz14.out 0 _ rfl), (by simpa using (Own.sl (F25.o 0 rfl) (fun _ => rfl)).cells hz13.out 0 _ rfl)⟩
      obtain ⟨wd29, hwd_⟩ : ∃ x : World, w22.drew = x := ⟨_, rfl⟩
      rw [hwd_] at F25 ⊢
      have wd29s : w22.heap.size <= wd29.heap.size := by rw [← hwd_]; exact Nat.le_refl _
      clear hwd_
      have hS28 := (And.intro ((by simpa using (Own.sl (F25.o 0 rfl) (fun _ => rfl)).cells hz14.out 0 _ rfl)) ((by simpa using (Own.sl (F25.o 0 rfl) (fun _ => rfl)).cells hz13.out 0 _ rfl)))
      refine ru_t 0 [] ?_
      refine ru_t 1 [] ?_
      refine ru_t 5 [] ?_
      refine ru_t 6 [] ?_
      refine ru_t 7 [] ?_
      refine ru_t 8 [] ?_
      refine ru_t 9 [] ?_
      refine ru_t 10 [13, 12] ?_
      refine ru_t 11 [13, 12] ?_
      refine ru_t 12 [13] ?_
      refine ru_t 13 [] ?_
      refine ru_t 14 [] ?_
      (try simp only [lpX])
      refine ru_p 2 ?_
      refine ru_p 3 ?_
      (try simp only [lpX])
      refine ru_p 4 ?_
      (try simp only [lpX])
      clear hS28
      refine ru_o 15 fun K hK => ?_
      have kc_ : World.cell? _ ⟨gO11, (q + 1), none⟩ = some (.int .i64 (i1 : Int)) := (by simpa using (Own.sl (F25.o 0 rfl) (fun _ => rfl)).cells hz13.out 0 _ rfl)
      have kf_ : World.frozen? _ ⟨gO11, (q + 1), none⟩ = false := Own.live (F25.o 0 rfl) _
      go_simp
      clear kc_ kf_
      have F30 := Bun.setOwn (sz := 1) (fun _ => rfl) F25 hz13.out (y := (i2 : Int)) (j := 0) (u := (.int .i64 (i2 : Int))) (k := (q + 1)) (by decide) rfl (by omega)
      clear F25
      have hz31 : Hid ((x.set (q + 1) (i2 : Int))[q]? = some (i2 : Int)) := lhd ((List.getElem?_set_ne (by omega)).trans hz14.out)
      refine ru_back_late hK (by kernel_rfl) ?_
      clear hK K
      (try simp only [lpX])
      refine ru_o 16 fun K hK => ?_
      go_simp
      refine ru_back_late hK (by kernel_rfl) ?_
      clear hK K
      (try simp only [lpX])
      refine ru_o 17 fun K hK => ?_
      have kc_ : World.cell? _ ⟨gO11, q, none⟩ = some (.int .i64 (i2 : Int)) := (by simpa using (Own.sl (F30.o 0 rfl) (fun _ => rfl)).cells hz31.out 0 _ rfl)
      have kf_ : World.frozen? _ ⟨gO11, q, none⟩ = false := Own.live (F30.o 0 rfl) _
      go_simp
      clear kc_ kf_
      have F32 := Bun.setOwn (sz := 1) (fun _ => rfl) F30 hz31.out (y := (i1 : Int)) (j := 0) (u := (.int .i64 (i1 : Int))) (k := q) (by decide) rfl (by omega)
      clear F30
      refine ru_back_late hK (by kernel_rfl) ?_
      clear hK K
      (try simp only [lpX])
      refine ru_done (by kernel_rfl) ?_
      have Fn_ := F32
      (try dsimp only [lpF, lpG] at Fn_)
      obtain ⟨w33, hx34, F36, hxs35⟩ := Fn_.name
      (try simp at hxs35)
      rw [hx34]
      clear hx34 F32 Fn_
      go_wp2_with fail
      (first | refine ⟨by kernel_rfl, ?_, ?_⟩ | refine ⟨rfl, ?_, ?_⟩ | refine ⟨?_, ?_⟩)
      · rw [HI6.out]; exact ⟨q, swpJ x q, by (iterate 5 refine ⟨by kernel_rfl, ?_⟩); exact ⟨rfl, (by omega), (lhd (by rw [← HS.out, sft_yes HLT.out])), (lhd (by rw [swpJ_len]; exact hxl.out)), (lhd (HXO.out.swp hql)), (by first | rfl | simp), (by rw [swpJ, HJ1.out, HJ2.out]; exact F36)⟩⟩
      · simp [slot, intOf] <;> omega
     have c26H := lhd c26
     have c26a := dec_f c26
     have HEQ : Hid (x = insN (lkC ls) l (k + 1)) := lhd (by rw [← HS.out, sft_no (by rw [HJ1.out, HJ2.out, lkC_at HZ1.out, lkC_at HZ2.out, ← cmpI_neg]; exact c26H.out)])
     go_wp2_with fail
     (first | refine ⟨by kernel_rfl, ?_, ?_⟩ | refine ⟨rfl, ?_, ?_⟩ | refine ⟨?_, ?_⟩)
     · rw [HI1.out]; exact ⟨k + 1, (by kernel_rfl), (by kernel_rfl), (by kernel_rfl), (by kernel_rfl), (by show Value.int .i64 ((k : Int) + 1 + 1) = _; push_cast; rfl), (by omega), (by first | rfl | simp), (by rw [← HEQ.out]; exact F25)⟩
     · simp [slot, intOf]; omega
    have c10H := lhd c10
    have c10a := dec_f c10
    have HEQ : Hid (x = insN (lkC ls) l (k + 1)) := lhd (by obtain rfl : j = 0 := (by omega); exact HS.out)
    have hj0 : decide (0 < j) = false := decide_eq_false (by omega)
    go_wp2_with fail
    have F37 := hF7.drew
    clear hF7
    refine ru_begin (fun W => True) 16 (by kernel_rfl) ?_ ?_
    · exact trivial
    obtain ⟨wd39, hwd_⟩ : ∃ x : World, w9.drew = x := ⟨_, rfl⟩
    rw [hwd_] at F37 ⊢
    have wd39s : w9.heap.size <= wd39.heap.size := by rw [← hwd_]; exact Nat.le_refl _
    clear hwd_
    have hS38 := trivial
    refine ru_t 0 [3, 2] ?_
    refine ru_t 1 [3, 2] ?_
    refine ru_t 2 [3] ?_
    refine ru_t 3 [] ?_
    refine ru_ts 4 [15, 14] ?_
    refine ru_ts 5 [15, 14, 8, 7] ?_
    refine ru_ts 6 [15, 14, 8, 7] ?_
    refine ru_ts 7 [15, 14, 8] ?_
    refine ru_ts 8 [15, 14] ?_
    refine ru_ts 9 [15, 14, 13, 12] ?_
    refine ru_ts 10 [15, 14, 13, 12, 11] ?_
    refine ru_ts 11 [15, 14, 13, 12] ?_
    refine ru_ts 12 [15, 14, 13] ?_
    refine ru_ts 13 [15, 14] ?_
    refine ru_ts 14 [15] ?_
    refine ru_ts 15 [] ?_
    (try simp only [lpX])
    clear hS38
    refine ru_o 16 fun K hK => ?_
    go_simp
    refine ru_back_late hK (by kernel_rfl) ?_
    clear hK K
    (try simp only [lpX])
    refine ru_done (by kernel_rfl) ?_
    have Fn_ := F37
    (try dsimp only [lpF, lpG] at Fn_)
    obtain ⟨w40, hx41, F43, hxs42⟩ := Fn_.name
    (try simp at hxs42)
    rw [hx41]
    clear hx41 F37 Fn_
    go_wp2_with fail
    (first | refine ⟨by kernel_rfl, ?_, ?_⟩ | refine ⟨rfl, ?_, ?_⟩ | refine ⟨?_, ?_⟩)
    · rw [HI1.out]; exact ⟨k + 1, (by kernel_rfl), (by kernel_rfl), (by kernel_rfl), (by kernel_rfl), (by show Value.int .i64 ((k : Int) + 1 + 1) = _; push_cast; rfl), (by omega), (by first | rfl | simp), (by rw [← HEQ.out]; exact F43)⟩
    · simp [slot, intOf]; omega
   case atStart2 =>
    rw [HI6.out]
    exact ⟨k + 1, _, by (iterate 5 refine ⟨by kernel_rfl, ?_⟩); exact ⟨rfl, (by omega), (lhd rfl), (lhd (by rw [insN_len]; exact hln)), (lhd (HOK.out.ins (by omega))), rfl, hF2⟩⟩
  have c5H := lhd c5
  have c5a := dec_f c5
  go_wp2_with fail
  have F44 : Bun w0 [rown intEnc 3 1 b0 (.slice oa nn cap) (insN (lkC ls) l k), rbox gn 54 #[.int .i64 N, .slice aL ls.length cL], rsl lgEnc 5 lo hi (.slice aL ls.length cL) ls, rall LR] _ := hF2.pick [0, 1, 2, 3] (by decide) rfl
  clear hF2
  exact bodyPost_end (v := .tuple #[]) (by simp [results, Tryz.results91, go_sem]) rfl (⟨rfl, (by obtain rfl : k = nn - 1 := (by omega); exact F44)⟩)
 case atStart1 =>
  rw [HI1.out]
  exact ⟨0, (by kernel_rfl), (by kernel_rfl), (by kernel_rfl), (by kernel_rfl), rfl, (.inr rfl), rfl, hB⟩
set_option maxHeartbeats 4000000 in
theorem stable_c (w0 : World) (b0 lo hi gn cap cL nn : Nat) (oa aL : Option Addr) (N : Int) (ls : List Lg) (LR : List Res) (l : List Int) (w : World) (hB : Bun w0 [rown intEnc 3 1 b0 (.slice oa nn cap) l, rbox gn 54 #[.int .i64 N, .slice aL ls.length cL], rsl lgEnc 5 lo hi (.slice aL ls.length cL) ls, rall LR] w) (hln : l.length = nn) (hnn : nn < 20) (hok : ordOk ls.length l) :
  Calls Tryz.prog 78 #[.slice oa nn cap, .int .i64 (nn : Int), .func (.func 62) #[] #[.pointer (some ⟨gn, 0, none⟩)]] w (fun e w' => e = .returned (.tuple #[]) /\ Bun w0 [rown intEnc 3 1 b0 (.slice oa nn cap) (insN (lkC ls) l (nn - 1)), rbox gn 54 #[.int .i64 N, .slice aL ls.length cL], rsl lgEnc 5 lo hi (.slice aL ls.length cL) ls, rall LR] w') := by
 have hm_ls := (hB.s 2 rfl).len
 unfold maxLen at hm_ls
 have HOK := lhd hok
 clear hok
 have hn20 : decide ((20 : Int) <= (nn : Int)) = false := decide_eq_false (by omega)
 have hn21 : decide ((20 : Int) < (nn : Int)) = false := decide_eq_false (by omega)
 go_enter Tryz.func78, Tryz.ntmps78
 go_wp2_with fail
 refine wp_loop_rounds 2 ?_
 rw [rounds_succ]
 go_wp2_with fail
 refine (isort_c w0 b0 lo hi gn cap cL nn oa aL N ls LR l _ (hB.pick [0, 1, 2, 3] (by decide) rfl) hln hnn HOK.out).mono ?_
 rintro e w2 ⟨rfl, F1⟩
 have hwsF1 := F1.gb.size
 (try clear hB)
 go_wp2_with fail
 refine wp_loop_rounds 2 ?_
 rw [rounds_succ]
 go_wp2_with fail
 have F3 : Bun w0 [rown intEnc 3 1 b0 (.slice oa nn cap) (insN (lkC ls) l (nn - 1)), rbox gn 54 #[.int .i64 N, .slice aL ls.length cL], rsl lgEnc 5 lo hi (.slice aL ls.length cL) ls, rall LR] _ := F1.pick [0, 1, 2, 3] (by decide) rfl
 clear F1
 exact bodyPost_end (v := .tuple #[]) (by simp [results, Tryz.results78, go_sem]) rfl (⟨rfl, F3⟩)
set_option maxHeartbeats 4000000 in
theorem sortst_c (w0 : World) (b0 lo hi gn cap cL nn : Nat) (oa aL : Option Addr) (N : Int) (ls : List Lg) (LR : List Res) (l : List Int) (w : World) (hB : Bun w0 [rown intEnc 3 1 b0 (.slice oa nn cap) l, rbox gn 54 #[.int .i64 N, .slice aL ls.length cL], rsl lgEnc 5 lo hi (.slice aL ls.length cL) ls, rall LR] w) (hln : l.length = nn) (hnn : nn < 20) (hok : ordOk ls.length l) :
  Calls Tryz.prog 61 #[.slice oa nn cap, .func (.func 62) #[] #[.pointer (some ⟨gn, 0, none⟩)]] w (fun e w' => e = .returned (.tuple #[]) /\ Bun w0 [rown intEnc 3 1 b0 (.slice oa nn cap) (insN (lkC ls) l (nn - 1)), rbox gn 54 #[.int .i64 N, .slice aL ls.length cL], rsl lgEnc 5 lo hi (.slice aL ls.length cL) ls, rall LR] w') := by
 have hm_ls := (hB.s 2 rfl).len
 unfold maxLen at hm_ls
 have HOK := lhd hok
 clear hok
 have hn20 : decide ((20 : Int) <= (nn : Int)) = false := decide_eq_false (by omega)
 have hn21 : decide ((20 : Int) < (nn : Int)) = false := decide_eq_false (by omega)
 go_enter Tryz.func61, Tryz.ntmps61
 go_wp2_with fail
 refine (stable_c w0 b0 lo hi gn cap cL nn oa aL N ls LR l _ (hB.pick [0, 1, 2, 3] (by decide) rfl) hln hnn HOK.out).mono ?_
 rintro e w2 ⟨rfl, F1⟩
 have hwsF1 := F1.gb.size
 (try clear hB)
 go_wp2_with fail
 have F3 : Bun w0 [rown intEnc 3 1 b0 (.slice oa nn cap) (insN (lkC ls) l (nn - 1)), rbox gn 54 #[.int .i64 N, .slice aL ls.length cL], rsl lgEnc 5 lo hi (.slice aL ls.length cL) ls, rall LR] _ := F1.pick [0, 1, 2, 3] (by decide) rfl
 clear F1
 exact bodyPost_end (v := .tuple #[]) (by simp [results, Tryz.results61, go_sem]) rfl (⟨rfl, F3⟩)
end Go.Proofs.YtcoldeolmleeiaaGreat
