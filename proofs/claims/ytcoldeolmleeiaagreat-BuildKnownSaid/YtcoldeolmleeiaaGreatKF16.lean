/- frost: first; Ready. -/
import Derived.Test.YtcoldeolmleeiaaGreatKKF1
set_option linter.unusedVariables false
set_option linter.unusedSimpArgs false
set_option linter.unnecessarySimpa false
namespace Go.Proofs.YtcoldeolmleeiaaGreat
open Go.RowKit Go.Shelf
set_option maxRecDepth 100000
attribute [local go_sem] Oper.semAt_some
theorem run_store_func (P : Program) (w : World) (a : Addr) (f : Fn) (x y : Array Value) (m : Mode) : (store a (.func f x y) m).run P w = stored P w a (.func f x y) m := run_store P w a _ m rfl
attribute [local go_sem] run_store_func
set_option maxHeartbeats 8000000 in
theorem first_sureB (lo hi : Nat) (v : Value) (l : Fro) (x : Ice) (lo2 hi2 : Nat) (vd : Value) (dl : List Wea) (pd qd pn : Nat) (need : Int) (w : World) (hl : Sl covEnc 3 lo hi w v l.cov) (h2 : hi <= w.heap.size) (hl2 : Sl weaEnc 6 lo2 hi2 w vd dl) (h22 : hi2 <= w.heap.size) (hOK : LawOk l /\ iceErr x = 0 /\ IceK x 0 0 /\ dl.length <= 400 /\ ∀ d ∈ dl, WeaOk d) (hX : HoldX pd v vd l x w) (hpd : hi <= pd /\ hi2 <= pd) (hbd : Bk w qd 139 (froC l v)) (hbn : Bk w pn 3 #[.int .i64 need]) :
  Calls Tryz.prog 74 #[.func (.func 87) #[] #[.pointer (some ⟨pd + 1, 0, none⟩), .pointer (some ⟨pd + 2, 0, none⟩), .pointer (some ⟨pd, 0, none⟩)], .func (.func 75) #[] #[.pointer (some ⟨qd, 0, none⟩), .pointer (some ⟨pn, 0, none⟩)]] w (Ret (.int .i64 (fstP (fun j => sureB l need (stI l x dl (j + 1))) dl.length)) w) := by
 have F1 : Bun w [] w := Bun.nil _
 have hm_cs := hl.len
 unfold maxLen at hm_cs
 obtain ⟨sa, sc, rfl⟩ := hl.any
 replace F1 := F1.sl0 hl h2 rfl
 clear hl
 have hm_ds := hl2.len
 unfold maxLen at hm_ds
 obtain ⟨da, dc, rfl⟩ := hl2.any
 replace F1 := F1.sl0 hl2 h22 rfl
 clear hl2
 replace F1 := F1.non0 (rext pd (pd + 3) (HoldX pd (.slice sa l.cov.length sc) (.slice da dl.length dc) l x) (fun _ _ _ hg hr h => h.gb hg hr)) hX (fun g e => by have := hX.2.2.lt; have := e.2; omega) rfl rfl
 have hXl := hX.2.2.lt
 replace F1 := F1.fix0 hbd rfl
 replace F1 := F1.fix0 hbn rfl
 have HOK := lhd hOK
 have hn4 := hOK.2.2.2.1
 have hld := hbd.lt
 have hln := hbn.lt
 have HK := lhd (stI_K hOK.1 hOK.2.2.1 hOK.2.2.2.2 hOK.2.2.2.1)
 clear hbd hbn hX
 replace F1 := F1.marks0
 refine callsIn_wide.1 (callsIn_of_wp_marks (n := 0) Tryz.func74 rfl trivial ?_ rfl)
 simp only [Tryz.ntmps74, List.size_toArray, List.length_cons, List.length_nil, Nat.reduceAdd, Nat.reduceSub, Array.replicate_succ, Array.replicate_zero, List.push_toArray, List.append_toArray, List.nil_append, List.cons_append]
 refine wpIn_wide.2 ?_
 refine wp_mono (Q := calmQ _) ?_ calmQ_le
 go_wp2_with fail
 replace F1 := F1.new 147 #[.func (.func 75) #[] #[.pointer (some ⟨qd, 0, none⟩), .pointer (some ⟨pn, 0, none⟩)]] (n := w.heap.size) (by simp)
 replace F1 := F1.new 3 #[.int .i64 0] (n := (w.heap.size + 1)) (by simp)
 have Fn_ := F1
 (try dsimp only [lpF, lpG] at Fn_)
 obtain ⟨w10, hx11, F13, hxs12⟩ := Fn_.name
 (try simp at hxs12)
 rw [hx11]
 clear hx11 F1 Fn_
 refine wp_rangeI (gf := 87) (lb := #[.pointer (some ⟨pd + 1, 0, none⟩), .pointer (some ⟨pd + 2, 0, none⟩), .pointer (some ⟨pd, 0, none⟩)]) rfl (enters_of Tryz.func87 (by kernel_rfl) rfl) (fun _ => rfl) (course_seq pd lo hi lo2 hi2 (.slice sa l.cov.length sc) (.slice da dl.length dc) l x dl HOK.out.1 HOK.out.2.2.1 HOK.out.2.2.2.2 HOK.out.2.2.2.1) (fun hq_ i A => (∀ j, j < i -> (fun j => sureB l need (stI l x dl (j + 1))) j = false) /\ Bun w [rkeep w10.heap.size hq_ A, rbox (w.heap.size + 1) 3 #[.int .i64 0], rbox w.heap.size 147 #[.func (.func 75) #[] #[.pointer (some ⟨qd, 0, none⟩), .pointer (some ⟨pn, 0, none⟩)]], rmarks [], rfix pn 3 #[.int .i64 need], rfix qd 139 (froC l (.slice sa l.cov.length sc)), rext pd (pd + 3) (HoldX pd (.slice sa l.cov.length sc) (.slice da dl.length dc) l x) (fun _ _ _ hg hr h => h.gb hg hr), rsl weaEnc 6 lo2 hi2 (.slice da dl.length dc) dl, rsl covEnc 3 lo hi (.slice sa l.cov.length sc) l.cov] A) (fun cd hq_ i A => cd = .ret /\ 0 < i /\ (∀ j, j < i - 1 -> (fun j => sureB l need (stI l x dl (j + 1))) j = false) /\ (fun j => sureB l need (stI l x dl (j + 1))) (i - 1) = true /\ Bun w [rkeep w10.heap.size hq_ A, rbox (w.heap.size + 1) 3 #[.int .i64 (i : Int)], rbox w.heap.size 147 #[.func (.func 75) #[] #[.pointer (some ⟨qd, 0, none⟩), .pointer (some ⟨pn, 0, none⟩)]], rmarks [], rfix pn 3 #[.int .i64 need], rfix qd 139 (froC l (.slice sa l.cov.length sc)), rext pd (pd + 3) (HoldX pd (.slice sa l.cov.length sc) (.slice da dl.length dc) l x) (fun _ _ _ hg hr h => h.gb hg hr), rsl weaEnc 6 lo2 hi2 (.slice da dl.length dc) dl, rsl covEnc 3 lo hi (.slice sa l.cov.length sc) l.cov] A) ?hI14 ?hIx14 ?hH14 ?h014 ?round14 ?done14 ?stop14
 case hI14 =>
  rintro hq_ i A B r ⟨hno, F_⟩ hg hr
  exact ⟨hno, F_.rekeep hg hr⟩
 case hIx14 =>
  rintro _ hq_ i A B r ⟨rfl, hi0, hno, hyes, F_⟩ hg hr
  exact ⟨rfl, hi0, hno, hyes, F_.rekeep hg hr⟩
 case hH14 =>
  rintro hq_ i A ⟨hno, F_⟩
  exact ⟨⟨(F_.at 6 rfl : HoldX _ _ _ _ _ _).1, (F_.at 6 rfl : HoldX _ _ _ _ _ _).2.1, (F_.at 6 rfl : HoldX _ _ _ _ _ _).2.2, (F_.s 8 rfl), (F_.s 7 rfl), (by omega), (by omega)⟩, F_.kept.1⟩
 case h014 =>
  intro hq_ B hg hs hle
  exact ⟨(fun j hj => absurd hj (Nat.not_lt_zero _)), F13.keep0 hg (Nat.le_refl _) (by omega)⟩
 case round14 =>
  rintro l14 hi14 i W14 ⟨hno, F14_⟩ hlt14 hle14 hhW14
  clear F13
  (try simp only [iceC])
  have HNO := lhd hno
  clear hno
  gi_wp2_with fail
  have F15 := F14_.new 142 #[.int .i64 ((stI l x dl (i + 1)).bl.lo), .int .i64 ((stI l x dl (i + 1)).bl.hi), .int .i64 ((stI l x dl (i + 1)).wh.lo), .int .i64 ((stI l x dl (i + 1)).wh.hi), .int .i64 ((stI l x dl (i + 1)).we.lo), .int .i64 ((stI l x dl (i + 1)).we.hi), .int .i64 ((stI l x dl (i + 1)).sn.lo), .int .i64 ((stI l x dl (i + 1)).sn.hi)] (n := W14.heap.size) (by simp)
  clear F14_
  refine And.intro (F15.front 1 rfl rfl).kept (fun W14b hg14b => ?_)
  have hg14bs := hg14b.size
  (try simp at hg14bs)
  have F16 := (F15.front 1 rfl rfl).rekeep hg14b (fun g e => by cases e; omega)
  clear F15
  have b17 := F16.bx8 1 rfl
  have b18 := F16.bx1 3 rfl
  gi_wp2_with fail
  clear b17 b18
  refine ⟨trivial, rfl, ?_⟩
  refine (CallsIn.inRound l14 (callsIn_wide.2 (sureB_c lo hi _ l (stI l x dl (i + 1)) ((i : Int) + 1) qd pn need _ (F16.s 9 rfl) (Nat.le_trans h2 F16.gb.size) HOK.out.1 (by have h_ := HK.out (i + 1) (by omega); push_cast at h_; exact h_) (by omega) (F16.b 6 rfl) (F16.b 5 rfl)))).mono ?_
  rintro e w21 ⟨rfl, hg19⟩
  have hg19s := hg19.size
  (try simp at hg19s)
  replace F16 := F16.gn hg19
  clear hg19
  cases c23 : sureB l need (stI l x dl (i + 1))
  ·
   have c23H := lhd c23
   gi_wp2_with fail
   have F24 : Bun w [rkeep w10.heap.size hi14 W14b, rbox (w.heap.size + 1) 3 #[.int .i64 0], rbox w.heap.size 147 #[.func (.func 75) #[] #[.pointer (some ⟨qd, 0, none⟩), .pointer (some ⟨pn, 0, none⟩)]], rmarks [], rfix pn 3 #[.int .i64 need], rfix qd 139 (froC l (.slice sa l.cov.length sc)), rext pd (pd + 3) (HoldX pd (.slice sa l.cov.length sc) (.slice da dl.length dc) l x) (fun _ _ _ hg hr h => h.gb hg hr), rsl weaEnc 6 lo2 hi2 (.slice da dl.length dc) dl, rsl covEnc 3 lo hi (.slice sa l.cov.length sc) l.cov] _ := F16.pick [0, 2, 3, 4, 5, 6, 7, 8, 9] (by decide) rfl
   clear F16
   refine And.intro F24.kept ?_
   exact ⟨(fun j hj => by rcases Nat.lt_or_ge j i with h_ | h_ <;> first | exact HNO.out j h_ | (obtain rfl : j = i := (by omega); exact c23H.out)), F24.rekeep (gb_refl _ none) (fun _ e => by cases e)⟩
  have c23H := lhd c23
  have b25 := F16.bx1 2 rfl
  gi_wp2_with fail
  clear b25
  have F26 := ((F16.front 2 rfl rfl).set 0 (.int .i64 ((i : Int) + 1))).nf #[.int .i64 ((i : Int) + 1)] rfl
  clear F16
  have F27 : Bun w [rkeep w10.heap.size hi14 W14b, rbox (w.heap.size + 1) 3 #[.int .i64 ((i : Int) + 1)], rbox w.heap.size 147 #[.func (.func 75) #[] #[.pointer (some ⟨qd, 0, none⟩), .pointer (some ⟨pn, 0, none⟩)]], rmarks [], rfix pn 3 #[.int .i64 need], rfix qd 139 (froC l (.slice sa l.cov.length sc)), rext pd (pd + 3) (HoldX pd (.slice sa l.cov.length sc) (.slice da dl.length dc) l x) (fun _ _ _ hg hr h => h.gb hg hr), rsl weaEnc 6 lo2 hi2 (.slice da dl.length dc) dl, rsl covEnc 3 lo hi (.slice sa l.cov.length sc) l.cov] _ := F26.pick [1, 0, 3, 4, 5, 6, 7, 8, 9] (by decide) rfl
  clear F26
  refine And.intro F27.kept ?_
  exact ⟨rfl, Nat.succ_pos _, HNO.out, c23H.out, F27.rekeep (gb_refl _ none) (fun _ e => by cases e)⟩
 case done14 =>
  rintro hi14 W14 hle14 ⟨hno, F14_⟩ hK14
  clear F13
  have F28 : Bun w [rkeep w10.heap.size hi14 W14, rmarks [], rbox (w.heap.size + 1) 3 #[.int .i64 0], rbox w.heap.size 147 #[.func (.func 75) #[] #[.pointer (some ⟨qd, 0, none⟩), .pointer (some ⟨pn, 0, none⟩)]], rfix pn 3 #[.int .i64 need], rfix qd 139 (froC l (.slice sa l.cov.length sc)), rext pd (pd + 3) (HoldX pd (.slice sa l.cov.length sc) (.slice da dl.length dc) l x) (fun _ _ _ hg hr h => h.gb hg hr), rsl weaEnc 6 lo2 hi2 (.slice da dl.length dc) dl, rsl covEnc 3 lo hi (.slice sa l.cov.length sc) l.cov] _ := F14_.pick [0, 3, 1, 2, 4, 5, 6, 7, 8] (by decide) rfl
  clear F14_
  have hiW14 := F28.kept.1
  replace F28 := F28.mark (by omega) hK14
  have HE : Hid (fstP (fun j => sureB l need (stI l x dl (j + 1))) dl.length = 0) := lhd (fstP_no _ hno)
  clear hno
  have b30 := F28.bx1 1 rfl
  go_wp2_with fail
  clear b30
  have F31 := ((F28.front 1 rfl rfl).set 0 (.int .i64 0)).nf #[.int .i64 0] rfl
  clear F28
  have kb32 := F31.bx1 0 rfl
  go_wp2_with fail
  refine leave_marks (F31.front 1 rfl rfl).marks (.int .i64 0) fun w' hs => ?_
  have km33 := Bk.bx1 (hs.bk ((F31.front 1 rfl rfl).at 1 rfl : Bk _ (w.heap.size + 1) 3 #[.int .i64 0]))
  exact ⟨by simp [results, Tryz.results74, go_sem, km33], ⟨by rw [HE.out], hs.gb (F31.front 1 rfl rfl).gb (Nat.le_refl _)⟩⟩
 case stop14 =>
  rintro _ hi14 i W14 hle14 hiN14 ⟨rfl, hi0, hno, hyes, F14_⟩ hK14
  clear F13
  have F34 : Bun w [rkeep w10.heap.size hi14 W14, rmarks [], rbox (w.heap.size + 1) 3 #[.int .i64 (i : Int)], rbox w.heap.size 147 #[.func (.func 75) #[] #[.pointer (some ⟨qd, 0, none⟩), .pointer (some ⟨pn, 0, none⟩)]], rfix pn 3 #[.int .i64 need], rfix qd 139 (froC l (.slice sa l.cov.length sc)), rext pd (pd + 3) (HoldX pd (.slice sa l.cov.length sc) (.slice da dl.length dc) l x) (fun _ _ _ hg hr h => h.gb hg hr), rsl weaEnc 6 lo2 hi2 (.slice da dl.length dc) dl, rsl covEnc 3 lo hi (.slice sa l.cov.length sc) l.cov] _ := F14_.pick [0, 3, 1, 2, 4, 5, 6, 7, 8] (by decide) rfl
  clear F14_
  have hiW14 := F34.kept.1
  replace F34 := F34.mark (by omega) hK14
  have HE : Hid (fstP (fun j => sureB l need (stI l x dl (j + 1))) dl.length = (i : Int)) := lhd (by rw [fstP_yes hno hyes dl.length (by omega)]; omega)
  clear hno hyes
  go_wp2_with fail
  have kb36 := F34.bx1 1 rfl
  go_wp2_with fail
  refine leave_marks F34.marks (.int .i64 (i : Int)) fun w' hs => ?_
  have km37 := Bk.bx1 (hs.bk (F34.b 1 rfl))
  exact ⟨by simp [results, Tryz.results74, go_sem, km37], ⟨by rw [HE.out], hs.gb F34.gb (Nat.le_refl _)⟩⟩
set_option maxHeartbeats 8000000 in
theorem first_perhB (lo hi : Nat) (v : Value) (l : Fro) (x : Ice) (lo2 hi2 : Nat) (vd : Value) (dl : List Wea) (pd qd pn : Nat) (need : Int) (w : World) (hl : Sl covEnc 3 lo hi w v l.cov) (h2 : hi <= w.heap.size) (hl2 : Sl weaEnc 6 lo2 hi2 w vd dl) (h22 : hi2 <= w.heap.size) (hOK : LawOk l /\ iceErr x = 0 /\ IceK x 0 0 /\ dl.length <= 400 /\ ∀ d ∈ dl, WeaOk d) (hX : HoldX pd v vd l x w) (hpd : hi <= pd /\ hi2 <= pd) (hbd : Bk w qd 139 (froC l v)) (hbn : Bk w pn 3 #[.int .i64 need]) :
  Calls Tryz.prog 74 #[.func (.func 87) #[] #[.pointer (some ⟨pd + 1, 0, none⟩), .pointer (some ⟨pd + 2, 0, none⟩), .pointer (some ⟨pd, 0, none⟩)], .func (.func 77) #[] #[.pointer (some ⟨qd, 0, none⟩), .pointer (some ⟨pn, 0, none⟩)]] w (Ret (.int .i64 (fstP (fun j => perhB l need (stI l x dl (j + 1))) dl.length)) w) := by
 have F1 : Bun w [] w := Bun.nil _
 have hm_cs := hl.len
 unfold maxLen at hm_cs
 obtain ⟨sa, sc, rfl⟩ := hl.any
 replace F1 := F1.sl0 hl h2 rfl
 clear hl
 have hm_ds := hl2.len
 unfold maxLen at hm_ds
 obtain ⟨da, dc, rfl⟩ := hl2.any
 replace F1 := F1.sl0 hl2 h22 rfl
 clear hl2
 replace F1 := F1.non0 (rext pd (pd + 3) (HoldX pd (.slice sa l.cov.length sc) (.slice da dl.length dc) l x) (fun _ _ _ hg hr h => h.gb hg hr)) hX (fun g e => by have := hX.2.2.lt; have := e.2; omega) rfl rfl
 have hXl := hX.2.2.lt
 replace F1 := F1.fix0 hbd rfl
 replace F1 := F1.fix0 hbn rfl
 have HOK := lhd hOK
 have hn4 := hOK.2.2.2.1
 have hld := hbd.lt
 have hln := hbn.lt
 have HK := lhd (stI_K hOK.1 hOK.2.2.1 hOK.2.2.2.2 hOK.2.2.2.1)
 clear hbd hbn hX
 replace F1 := F1.marks0
 refine callsIn_wide.1 (callsIn_of_wp_marks (n := 0) Tryz.func74 rfl trivial ?_ rfl)
 simp only [Tryz.ntmps74, List.size_toArray, List.length_cons, List.length_nil, Nat.reduceAdd, Nat.reduceSub, Array.replicate_succ, Array.replicate_zero, List.push_toArray, List.append_toArray, List.nil_append, List.cons_append]
 refine wpIn_wide.2 ?_
 refine wp_mono (Q := calmQ _) ?_ calmQ_le
 go_wp2_with fail
 replace F1 := F1.new 147 #[.func (.func 77) #[] #[.pointer (some ⟨qd, 0, none⟩), .pointer (some ⟨pn, 0, none⟩)]] (n := w.heap.size) (by simp)
 replace F1 := F1.new 3 #[.int .i64 0] (n := (w.heap.size + 1)) (by simp)
 have Fn_ := F1
 (try dsimp only [lpF, lpG] at Fn_)
 obtain ⟨w10, hx11, F13, hxs12⟩ := Fn_.name
 (try simp at hxs12)
 rw [hx11]
 clear hx11 F1 Fn_
 refine wp_rangeI (gf := 87) (lb := #[.pointer (some ⟨pd + 1, 0, none⟩), .pointer (some ⟨pd + 2, 0, none⟩), .pointer (some ⟨pd, 0, none⟩)]) rfl (enters_of Tryz.func87 (by kernel_rfl) rfl) (fun _ => rfl) (course_seq pd lo hi lo2 hi2 (.slice sa l.cov.length sc) (.slice da dl.length dc) l x dl HOK.out.1 HOK.out.2.2.1 HOK.out.2.2.2.2 HOK.out.2.2.2.1) (fun hq_ i A => (∀ j, j < i -> (fun j => perhB l need (stI l x dl (j + 1))) j = false) /\ Bun w [rkeep w10.heap.size hq_ A, rbox (w.heap.size + 1) 3 #[.int .i64 0], rbox w.heap.size 147 #[.func (.func 77) #[] #[.pointer (some ⟨qd, 0, none⟩), .pointer (some ⟨pn, 0, none⟩)]], rmarks [], rfix pn 3 #[.int .i64 need], rfix qd 139 (froC l (.slice sa l.cov.length sc)), rext pd (pd + 3) (HoldX pd (.slice sa l.cov.length sc) (.slice da dl.length dc) l x) (fun _ _ _ hg hr h => h.gb hg hr), rsl weaEnc 6 lo2 hi2 (.slice da dl.length dc) dl, rsl covEnc 3 lo hi (.slice sa l.cov.length sc) l.cov] A) (fun cd hq_ i A => cd = .ret /\ 0 < i /\ (∀ j, j < i - 1 -> (fun j => perhB l need (stI l x dl (j + 1))) j = false) /\ (fun j => perhB l need (stI l x dl (j + 1))) (i - 1) = true /\ Bun w [rkeep w10.heap.size hq_ A, rbox (w.heap.size + 1) 3 #[.int .i64 (i : Int)], rbox w.heap.size 147 #[.func (.func 77) #[] #[.pointer (some ⟨qd, 0, none⟩), .pointer (some ⟨pn, 0, none⟩)]], rmarks [], rfix pn 3 #[.int .i64 need], rfix qd 139 (froC l (.slice sa l.cov.length sc)), rext pd (pd + 3) (HoldX pd (.slice sa l.cov.length sc) (.slice da dl.length dc) l x) (fun _ _ _ hg hr h => h.gb hg hr), rsl weaEnc 6 lo2 hi2 (.slice da dl.length dc) dl, rsl covEnc 3 lo hi (.slice sa l.cov.length sc) l.cov] A) ?hI14 ?hIx14 ?hH14 ?h014 ?round14 ?done14 ?stop14
 case hI14 =>
  rintro hq_ i A B r ⟨hno, F_⟩ hg hr
  exact ⟨hno, F_.rekeep hg hr⟩
 case hIx14 =>
  rintro _ hq_ i A B r ⟨rfl, hi0, hno, hyes, F_⟩ hg hr
  exact ⟨rfl, hi0, hno, hyes, F_.rekeep hg hr⟩
 case hH14 =>
  rintro hq_ i A ⟨hno, F_⟩
  exact ⟨⟨(F_.at 6 rfl : HoldX _ _ _ _ _ _).1, (F_.at 6 rfl : HoldX _ _ _ _ _ _).2.1, (F_.at 6 rfl : HoldX _ _ _ _ _ _).2.2, (F_.s 8 rfl), (F_.s 7 rfl), (by omega), (by omega)⟩, F_.kept.1⟩
 case h014 =>
  intro hq_ B hg hs hle
  exact ⟨(fun j hj => absurd hj (Nat.not_lt_zero _)), F13.keep0 hg (Nat.le_refl _) (by omega)⟩
 case round14 =>
  rintro l14 hi14 i W14 ⟨hno, F14_⟩ hlt14 hle14 hhW14
  clear F13
  (try simp only [iceC])
  have HNO := lhd hno
  clear hno
  gi_wp2_with fail
  have F15 := F14_.new 142 #[.int .i64 ((stI l x dl (i + 1)).bl.lo), .int .i64 ((stI l x dl (i + 1)).bl.hi), .int .i64 ((stI l x dl (i + 1)).wh.lo), .int .i64 ((stI l x dl (i + 1)).wh.hi), .int .i64 ((stI l x dl (i + 1)).we.lo), .int .i64 ((stI l x dl (i + 1)).we.hi), .int .i64 ((stI l x dl (i + 1)).sn.lo), .int .i64 ((stI l x dl (i + 1)).sn.hi)] (n := W14.heap.size) (by simp)
  clear F14_
  refine And.intro (F15.front 1 rfl rfl).kept (fun W14b hg14b => ?_)
  have hg14bs := hg14b.size
  (try simp at hg14bs)
  have F16 := (F15.front 1 rfl rfl).rekeep hg14b (fun g e => by cases e; omega)
  clear F15
  have b17 := F16.bx8 1 rfl
  have b18 := F16.bx1 3 rfl
  gi_wp2_with fail
  clear b17 b18
  refine ⟨trivial, rfl, ?_⟩
  refine (CallsIn.inRound l14 (callsIn_wide.2 (perhB_c lo hi _ l (stI l x dl (i + 1)) ((i : Int) + 1) qd pn need _ (F16.s 9 rfl) (Nat.le_trans h2 F16.gb.size) HOK.out.1 (by have h_ := HK.out (i + 1) (by omega); push_cast at h_; exact h_) (by omega) (F16.b 6 rfl) (F16.b 5 rfl)))).mono ?_
  rintro e w21 ⟨rfl, hg19⟩
  have hg19s := hg19.size
  (try simp at hg19s)
  replace F16 := F16.gn hg19
  clear hg19
  cases c23 : perhB l need (stI l x dl (i + 1))
  ·
   have c23H := lhd c23
   gi_wp2_with fail
   have F24 : Bun w [rkeep w10.heap.size hi14 W14b, rbox (w.heap.size + 1) 3 #[.int .i64 0], rbox w.heap.size 147 #[.func (.func 77) #[] #[.pointer (some ⟨qd, 0, none⟩), .pointer (some ⟨pn, 0, none⟩)]], rmarks [], rfix pn 3 #[.int .i64 need], rfix qd 139 (froC l (.slice sa l.cov.length sc)), rext pd (pd + 3) (HoldX pd (.slice sa l.cov.length sc) (.slice da dl.length dc) l x) (fun _ _ _ hg hr h => h.gb hg hr), rsl weaEnc 6 lo2 hi2 (.slice da dl.length dc) dl, rsl covEnc 3 lo hi (.slice sa l.cov.length sc) l.cov] _ := F16.pick [0, 2, 3, 4, 5, 6, 7, 8, 9] (by decide) rfl
   clear F16
   refine And.intro F24.kept ?_
   exact ⟨(fun j hj => by rcases Nat.lt_or_ge j i with h_ | h_ <;> first | exact HNO.out j h_ | (obtain rfl : j = i := (by omega); exact c23H.out)), F24.rekeep (gb_refl _ none) (fun _ e => by cases e)⟩
  have c23H := lhd c23
  have b25 := F16.bx1 2 rfl
  gi_wp2_with fail
  clear b25
  have F26 := ((F16.front 2 rfl rfl).set 0 (.int .i64 ((i : Int) + 1))).nf #[.int .i64 ((i : Int) + 1)] rfl
  clear F16
  have F27 : Bun w [rkeep w10.heap.size hi14 W14b, rbox (w.heap.size + 1) 3 #[.int .i64 ((i : Int) + 1)], rbox w.heap.size 147 #[.func (.func 77) #[] #[.pointer (some ⟨qd, 0, none⟩), .pointer (some ⟨pn, 0, none⟩)]], rmarks [], rfix pn 3 #[.int .i64 need], rfix qd 139 (froC l (.slice sa l.cov.length sc)), rext pd (pd + 3) (HoldX pd (.slice sa l.cov.length sc) (.slice da dl.length dc) l x) (fun _ _ _ hg hr h => h.gb hg hr), rsl weaEnc 6 lo2 hi2 (.slice da dl.length dc) dl, rsl covEnc 3 lo hi (.slice sa l.cov.length sc) l.cov] _ := F26.pick [1, 0, 3, 4, 5, 6, 7, 8, 9] (by decide) rfl
  clear F26
  refine And.intro F27.kept ?_
  exact ⟨rfl, Nat.succ_pos _, HNO.out, c23H.out, F27.rekeep (gb_refl _ none) (fun _ e => by cases e)⟩
 case done14 =>
  rintro hi14 W14 hle14 ⟨hno, F14_⟩ hK14
  clear F13
  have F28 : Bun w [rkeep w10.heap.size hi14 W14, rmarks [], rbox (w.heap.size + 1) 3 #[.int .i64 0], rbox w.heap.size 147 #[.func (.func 77) #[] #[.pointer (some ⟨qd, 0, none⟩), .pointer (some ⟨pn, 0, none⟩)]], rfix pn 3 #[.int .i64 need], rfix qd 139 (froC l (.slice sa l.cov.length sc)), rext pd (pd + 3) (HoldX pd (.slice sa l.cov.length sc) (.slice da dl.length dc) l x) (fun _ _ _ hg hr h => h.gb hg hr), rsl weaEnc 6 lo2 hi2 (.slice da dl.length dc) dl, rsl covEnc 3 lo hi (.slice sa l.cov.length sc) l.cov] _ := F14_.pick [0, 3, 1, 2, 4, 5, 6, 7, 8] (by decide) rfl
  clear F14_
  have hiW14 := F28.kept.1
  replace F28 := F28.mark (by omega) hK14
  have HE : Hid (fstP (fun j => perhB l need (stI l x dl (j + 1))) dl.length = 0) := lhd (fstP_no _ hno)
  clear hno
  have b30 := F28.bx1 1 rfl
  go_wp2_with fail
  clear b30
  have F31 := ((F28.front 1 rfl rfl).set 0 (.int .i64 0)).nf #[.int .i64 0] rfl
  clear F28
  have kb32 := F31.bx1 0 rfl
  go_wp2_with fail
  refine leave_marks (F31.front 1 rfl rfl).marks (.int .i64 0) fun w' hs => ?_
  have km33 := Bk.bx1 (hs.bk ((F31.front 1 rfl rfl).at 1 rfl : Bk _ (w.heap.size + 1) 3 #[.int .i64 0]))
  exact ⟨by simp [results, Tryz.results74, go_sem, km33], ⟨by rw [HE.out], hs.gb (F31.front 1 rfl rfl).gb (Nat.le_refl _)⟩⟩
 case stop14 =>
  rintro _ hi14 i W14 hle14 hiN14 ⟨rfl, hi0, hno, hyes, F14_⟩ hK14
  clear F13
  have F34 : Bun w [rkeep w10.heap.size hi14 W14, rmarks [], rbox (w.heap.size + 1) 3 #[.int .i64 (i : Int)], rbox w.heap.size 147 #[.func (.func 77) #[] #[.pointer (some ⟨qd, 0, none⟩), .pointer (some ⟨pn, 0, none⟩)]], rfix pn 3 #[.int .i64 need], rfix qd 139 (froC l (.slice sa l.cov.length sc)), rext pd (pd + 3) (HoldX pd (.slice sa l.cov.length sc) (.slice da dl.length dc) l x) (fun _ _ _ hg hr h => h.gb hg hr), rsl weaEnc 6 lo2 hi2 (.slice da dl.length dc) dl, rsl covEnc 3 lo hi (.slice sa l.cov.length sc) l.cov] _ := F14_.pick [0, 3, 1, 2, 4, 5, 6, 7, 8] (by decide) rfl
  clear F14_
  have hiW14 := F34.kept.1
  replace F34 := F34.mark (by omega) hK14
  have HE : Hid (fstP (fun j => perhB l need (stI l x dl (j + 1))) dl.length = (i : Int)) := lhd (by rw [fstP_yes hno hyes dl.length (by omega)]; omega)
  clear hno hyes
  go_wp2_with fail
  have kb36 := F34.bx1 1 rfl
  go_wp2_with fail
  refine leave_marks F34.marks (.int .i64 (i : Int)) fun w' hs => ?_
  have km37 := Bk.bx1 (hs.bk (F34.b 1 rfl))
  exact ⟨by simp [results, Tryz.results74, go_sem, km37], ⟨by rw [HE.out], hs.gb F34.gb (Nat.le_refl _)⟩⟩
set_option maxHeartbeats 8000000 in
theorem ready_c (lo hi : Nat) (v : Value) (l : Fro) (x : Ice) (lo2 hi2 : Nat) (vd : Value) (dl : List Wea) (need : Int) (w : World) (hl : Sl covEnc 3 lo hi w v l.cov) (h2 : hi <= w.heap.size) (hl2 : Sl weaEnc 6 lo2 hi2 w vd dl) (h22 : hi2 <= w.heap.size) :
  Calls Tryz.prog 60 #[.agg (froC l v), .agg (iceC x), vd, .int .i64 need] w (Ret (.tuple #[.int .i64 (readyS l x dl need), .int .i64 (readyP l x dl need), .int .i64 (readyE l x dl need)]) w) := by
 have F1 : Bun w [] w := Bun.nil _
 have hm_cs := hl.len
 unfold maxLen at hm_cs
 obtain ⟨sa, sc, rfl⟩ := hl.any
 replace F1 := F1.sl0 hl h2 rfl
 clear hl
 have hm_ds := hl2.len
 unfold maxLen at hm_ds
 obtain ⟨da, dc, rfl⟩ := hl2.any
 replace F1 := F1.sl0 hl2 h22 rfl
 clear hl2
 go_enter Tryz.func60, Tryz.ntmps60
 go_wp2_with fail
 replace F1 := F1.new 78 (froC l (.slice sa l.cov.length sc)) (n := w.heap.size) (by simp)
 replace F1 := F1.new 84 (iceC x) (n := (w.heap.size + 1)) (by simp)
 replace F1 := F1.new 3 #[.int .i64 need] (n := (w.heap.size + 2)) (by simp)
 refine (checkAll_c lo hi _ l x lo2 hi2 _ dl _ (F1.s 4 rfl) (Nat.le_trans h2 F1.gb.size) (F1.s 3 rfl) (Nat.le_trans h22 F1.gb.size)).mono ?_
 rintro e w9 ⟨rfl, hg7⟩
 have hg7s := hg7.size
 (try simp at hg7s)
 replace F1 := F1.gn hg7
 clear hg7
 by_cases c11 : allE l x dl = 0
 ·
  obtain ⟨c11a, c11b⟩ := bqt c11
  have c11H := lhd c11
  clear c11
  have HOK := lhd (allOk c11H.out)
  have hn4 := HOK.out.2.2.2.1
  by_cases c12 : need < 0
  ·
   have c12H := lhd c12
   have Hx13 := lhd (show (readyS l x dl need) = 0 by rw [readyS, if_neg (by rw [readyE, if_neg (not_not_intro c11H.out), if_pos (by have := c12H.out; omega)]; omega)])
   have Hx14 := lhd (show (readyP l x dl need) = 0 by rw [readyP, if_neg (by rw [readyE, if_neg (not_not_intro c11H.out), if_pos (by have := c12H.out; omega)]; omega)])
   have Hx15 := lhd (show (readyE l x dl need) = 2 by rw [readyE, if_neg (not_not_intro c11H.out), if_pos (by have := c12H.out; omega)])
   have b16 := F1.bx1 0 rfl
   go_wp2_with fail
   clear b16
   exact bodyPost_ret (v := .tuple #[.int .i64 0, .int .i64 0, .int .i64 2]) (by simp [results, Tryz.results60, go_sem]) rfl (⟨by rw [Hx13.out, Hx14.out, Hx15.out] <;> rfl, F1.gb⟩)
  have c12H := lhd c12
  have c12a := dec_f c12
  by_cases c17 : 5000 < need
  ·
   have c17H := lhd c17
   have Hx18 := lhd (show (readyS l x dl need) = 0 by rw [readyS, if_neg (by rw [readyE, if_neg (not_not_intro c11H.out), if_pos (by have := c12H.out; have := c17H.out; omega)]; omega)])
   have Hx19 := lhd (show (readyP l x dl need) = 0 by rw [readyP, if_neg (by rw [readyE, if_neg (not_not_intro c11H.out), if_pos (by have := c12H.out; have := c17H.out; omega)]; omega)])
   have Hx20 := lhd (show (readyE l x dl need) = 2 by rw [readyE, if_neg (not_not_intro c11H.out), if_pos (by have := c12H.out; have := c17H.out; omega)])
   have b21 := F1.bx1 0 rfl
   go_wp2_with fail
   clear b21
   exact bodyPost_ret (v := .tuple #[.int .i64 0, .int .i64 0, .int .i64 2]) (by simp [results, Tryz.results60, go_sem]) rfl (⟨by rw [Hx18.out, Hx19.out, Hx20.out] <;> rfl, F1.gb⟩)
  have c17H := lhd c17
  have c17a := dec_f c17
  have b23 := F1.bx1 0 rfl
  have b24 := F1.bx8 2 rfl
  go_wp2_with fail
  clear b23 b24
  replace F1 := F1.new 139 (froC l (.slice sa l.cov.length sc)) (n := w9.heap.size) (by simp)
  have Fn_ := (F1.drop 3 rfl)
  (try dsimp only [lpF, lpG] at Fn_)
  obtain ⟨w26, hx27, F29, hxs28⟩ := Fn_.name
  (try simp at hxs28)
  rw [hx27]
  clear hx27 F1 Fn_
  replace F29 := F29.drew
  refine ru_begin (fun W => C8 W w9.heap.size (.int .i64 l.gr) (.int .i64 l.la) (.slice sa l.cov.length sc) (.int .i64 l.melt.lo) (.int .i64 l.melt.hi) (.int .i64 l.soak) (.int .i64 l.white.lo) (.int .i64 l.white.hi) /\ C8 W (w.heap.size + 1) (.int .i64 x.bl.lo) (.int .i64 x.bl.hi) (.int .i64 x.wh.lo) (.int .i64 x.wh.hi) (.int .i64 x.we.lo) (.int .i64 x.we.hi) (.int .i64 x.sn.lo) (.int .i64 x.sn.hi)) 5 (by kernel_rfl) ?_ ?_
  · exact ⟨F29.c8 0, F29.c8 2⟩
  obtain ⟨wd32, hwd_⟩ : ∃ x : World, w26.drew = x := ⟨_, rfl⟩
  rw [hwd_] at F29 ⊢
  have wd32s : w26.heap.size <= wd32.heap.size := by rw [← hwd_]; exact Nat.le_refl _
  clear hwd_
  have hS31 := (And.intro (F29.c8 0) (F29.c8 2))
  refine ru_t 0 [] ?_
  refine ru_t 1 [] ?_
  refine ru_t 3 [] ?_
  (try simp only [lpX])
  clear hS31
  refine ru_o 2 fun K hK => ?_
  go_simp
  refine (layersOf_c x _).mono ?_
  rintro e w35 ⟨rfl, hg33⟩
  have hg33s := hg33.size
  (try simp at hg33s)
  replace F29 := F29.gn hg33
  refine ru_back hK (by exact ⟨F29.c8 0, F29.c8 2⟩) (fun _ => ?_)
  clear hK K
  (try simp only [lpX])
  refine ru_o 4 fun K hK => ?_
  go_simp
  refine (course_e lo hi _ _ _ _ l x _ (F29.s 4 rfl) (Nat.le_trans h2 F29.gb.size)).mono ?_
  rintro e w40 ⟨pd37, pd37e, rfl, hg38, hX37⟩
  have hg38s := hg38.size
  (try simp at hg38s)
  replace F29 := F29.add (rext pd37 (pd37 + 3) (HoldX pd37 (.slice sa l.cov.length sc) (.slice da dl.length dc) l x) (fun _ _ _ hg hr h => h.gb hg hr)) hg38 (hX37) (rext_in (by rw [← pd37e]; exact Nat.le_refl _) hX37.2.2.lt)
  refine ru_back hK (by exact ⟨F29.c8 1, F29.c8 3⟩) (fun _ => ?_)
  clear hK K
  (try simp only [lpX])
  refine ru_o 5 fun K hK => ?_
  go_simp
  refine ru_back_late hK (by kernel_rfl) ?_
  clear hK K
  (try simp only [lpX])
  refine ru_done (by kernel_rfl) ?_
  have Fn_ := (F29.drop 3 rfl)
  (try dsimp only [lpF, lpG] at Fn_)
  obtain ⟨w42, hx43, F45, hxs44⟩ := Fn_.name
  (try simp at hxs44)
  rw [hx43]
  clear hx43 F29 Fn_
  go_wp2_with fail
  refine (first_sureB lo hi _ l x lo2 hi2 _ dl pd37 w9.heap.size (w.heap.size + 2) need _ (F45.s 4 rfl) (Nat.le_trans h2 F45.gb.size) (F45.s 3 rfl) (Nat.le_trans h22 F45.gb.size) HOK.out (F45.at 0 rfl : HoldX _ _ _ _ _ _) (by omega) (F45.b 1 rfl) (F45.b 2 rfl)).mono ?_
  rintro e w48 ⟨rfl, hg46⟩
  have hg46s := hg46.size
  (try simp at hg46s)
  replace F45 := F45.gn hg46
  clear hg46
  go_wp2_with fail
  refine (first_perhB lo hi _ l x lo2 hi2 _ dl pd37 w9.heap.size (w.heap.size + 2) need _ (F45.s 4 rfl) (Nat.le_trans h2 F45.gb.size) (F45.s 3 rfl) (Nat.le_trans h22 F45.gb.size) HOK.out (F45.at 0 rfl : HoldX _ _ _ _ _ _) (by omega) (F45.b 1 rfl) (F45.b 2 rfl)).mono ?_
  rintro e w52 ⟨rfl, hg50⟩
  have hg50s := hg50.size
  (try simp at hg50s)
  replace F45 := F45.gn hg50
  clear hg50
  have Hx54 := lhd (show (readyS l x dl need) = fstP (fun j => sureB l need (stI l x dl (j + 1))) dl.length by rw [readyS, if_pos (by rw [readyE, if_neg (not_not_intro c11H.out), if_neg (by have := c12H.out; have := c17H.out; omega)])])
  have Hx55 := lhd (show (readyP l x dl need) = fstP (fun j => perhB l need (stI l x dl (j + 1))) dl.length by rw [readyP, if_pos (by rw [readyE, if_neg (not_not_intro c11H.out), if_neg (by have := c12H.out; have := c17H.out; omega)])])
  have Hx56 := lhd (show (readyE l x dl need) = 0 by rw [readyE, if_neg (not_not_intro c11H.out), if_neg (by have := c12H.out; have := c17H.out; omega)])
  go_wp2_with fail
  exact bodyPost_ret (v := .tuple #[.int .i64 (fstP (fun j => sureB l need (stI l x dl (j + 1))) dl.length), .int .i64 (fstP (fun j => perhB l need (stI l x dl (j + 1))) dl.length), .int .i64 0]) (by simp [results, Tryz.results60, go_sem]) rfl (⟨by rw [Hx54.out, Hx55.out, Hx56.out] <;> rfl, F45.gb⟩)
 obtain ⟨c11a, c11b⟩ := bqf c11
 have c11H := lhd c11
 clear c11
 have Hx57 := lhd (show (readyS l x dl need) = 0 by rw [readyS, if_neg (by rw [readyE, if_pos c11H.out]; exact c11H.out)])
 have Hx58 := lhd (show (readyP l x dl need) = 0 by rw [readyP, if_neg (by rw [readyE, if_pos c11H.out]; exact c11H.out)])
 have Hx59 := lhd (show (readyE l x dl need) = allE l x dl by rw [readyE, if_pos c11H.out])
 go_wp2_with fail
 exact bodyPost_ret (v := .tuple #[.int .i64 0, .int .i64 0, .int .i64 (allE l x dl)]) (by simp [results, Tryz.results60, go_sem]) rfl (⟨by rw [Hx57.out, Hx58.out, Hx59.out] <;> rfl, F1.gb⟩)
end Go.Proofs.YtcoldeolmleeiaaGreat
