/- bear: tables; what ice bears alone. -/
import Derived.Test.YtlefmbjipdlcfaaMB1
import Derived.Test.YtlefmbjipdlcfaaMJ2
import Derived.Test.YtlefmbjipdlcfaaMK1
import Derived.Test.YtlefmbjipdlcfaaMMixG
import Derived.Test.YtlefmbjipdlcfaaMKC
set_option linter.unusedVariables false
set_option linter.unusedSimpArgs false
set_option linter.unnecessarySimpa false
namespace Go.Proofs.Ytlefmbjipdlcfaa
open Go.RowKit
set_option maxRecDepth 100000
attribute [local go_sem] Oper.semAt_some
theorem drop_cons' {α : Type} {l : List α} {k : Nat} {z : α} (h : l[k]? = some z) : l.drop k = z :: l.drop (k + 1) := by
 obtain ⟨hk, rfl⟩ := List.getElem?_eq_some_iff.1 h
 exact List.drop_eq_getElem_cons hk
theorem lstV_cons (n : Int) (f x : Sha) (l : List Sha) : lstV (x :: l) n f = lstV l n (if x.fr <= n then x else f) := rfl
theorem prtV_of {l : List Sha} {n : Int} {q : Sha} (h : l[0]? = some q) : prtV l n = (lstV l n q).pt := by
 cases l with
 | nil => cases h
 | cons a l => obtain rfl := Option.some.inj h; rfl
def LstP (l : List Sha) (n : Int) (w : World) : Ending -> World -> Prop := fun e w' => ∃ f : Int, e = .returned (.agg #[.int .i64 f, .int .i64 (prtV l n)]) /\ w.grownBy w' none
theorem bfrom_c (x : Sha) (w : World)  :
  Calls Try.prog 68 #[.agg #[.int .i64 x.fr, .int .i64 x.pt]] w (Ret (.int .i64 x.fr) w) := by
 have F1 : Bun w [] w := Bun.nil _
 go_enter Try.func68, Try.ntmps68
 go_wp2_with fail
 replace F1 := F1.new 104 #[.int .i64 x.fr, .int .i64 x.pt] (n := w.heap.size) (by simp)
 go_ret
 exact ⟨rfl, F1.gb⟩
set_option maxHeartbeats 8000000 in
theorem last_c (lo hi : Nat) (v : Value) (l : List Sha) (n : Int) (w : World) (h0 : 0 < l.length) (hl : Sl shaEnc 2 lo hi w v l) (h2 : hi <= w.heap.size) :
  Calls Try.prog 67 #[v, .int .i64 n, .func (.func 68) #[] #[]] w (LstP l n w) := by
 have F1 : Bun w [] w := Bun.nil _
 have hm_ls := hl.len
 unfold maxLen at hm_ls
 obtain ⟨a, c, rfl⟩ := hl.any
 replace F1 := F1.sl0 hl h2 rfl
 clear hl
 obtain ⟨x3, o4, e_⟩ := Sl.addr (F1.at 0 rfl : Sl shaEnc 2 lo hi _ (.slice a l.length c) l) h0
 subst e_
 obtain ⟨c0, hz5_⟩ : ∃ z_, l[0]? = some z_ := ⟨_, List.getElem?_eq_getElem h0⟩
 have hz5 := lhd hz5_
 clear hz5_
 go_enter Try.func67, Try.ntmps67
 have ge6 : World.cell? _ ⟨x3, o4, none⟩ = some (.int .i64 c0.fr) := (by have h_ := Sl.cells (F1.at 0 rfl) hz5.out 0 _ rfl; simpa [Nat.add_assoc] using h_)
 have gl7 := cell_lt ge6
 have ge8 : World.cell? _ ⟨x3, o4 + 1, none⟩ = some (.int .i64 c0.pt) := (by have h_ := Sl.cells (F1.at 0 rfl) hz5.out 1 _ rfl; simpa [Nat.add_assoc] using h_)
 go_wp2_with fail
 clear ge6 gl7 ge8
 replace F1 := F1.new 104 #[.int .i64 0, .int .i64 0] (n := w.heap.size) (by simp)
 replace F1 := F1.new 104 #[.int .i64 c0.fr, .int .i64 c0.pt] (n := (w.heap.size + 1)) (by simp)
 have H0 : Hid (prtV l n = (lstV (l.drop 0) n c0).pt) := lhd (prtV_of hz5.out)
 obtain ⟨HI11_, HI110⟩ : ∃ I : RelT, I = (fun t ds wr => ∃ (k : Nat) (p : Sha), t 1 = .int .i64 n /\ t 2 = .func (.func 68) #[] #[] /\ t 6 = .pointer (some ⟨w.heap.size, 0, none⟩) /\ t 7 = .pointer (some ⟨w.heap.size + 1, 0, none⟩) /\ t 13 = .slice (some ⟨x3, o4, none⟩) l.length c /\ t 14 = .int .i64 (l.length : Int) /\ t 15 = .int .i64 (k : Int) /\ k <= l.length /\ prtV l n = (lstV (l.drop k) n p).pt /\ ds = [] /\ w.heap.size <= wr.heap.size /\ Bun w [rbox (w.heap.size + 1) 104 #[.int .i64 p.fr, .int .i64 p.pt], rbox w.heap.size 104 #[.int .i64 0, .int .i64 0], rsl shaEnc 2 lo hi (.slice (some ⟨x3, o4, none⟩) l.length c) l] wr) := ⟨_, rfl⟩
 have HI11 := lhd HI110
 clear HI110
 refine wp_loopS 27 rfl HI11_ (fun t wr => l.length - (intOf (t 15)).toNat) ?atStart1 ?round1
 case round1 =>
  intro t ds wr hHid
  rw [HI11.out] at hHid
  obtain ⟨k, p, e1, e2, e6, e7, e13, e14, e15, hrel⟩ := hHid
  have e : ((List.range 27).map t).toArray = #[t 0, t 1, t 2, t 3, t 4, t 5, t 6, t 7, t 8, t 9, t 10, t 11, t 12, t 13, t 14, t 15, t 16, t 17, t 18, t 19, t 20, t 21, t 22, t 23, t 24, t 25, t 26] := rfl
  (try dsimp only at e)
  rw [e1, e2, e6, e7, e13, e14, e15] at e
  rw [e]
  simp only [e15]
  clear e e1 e2 e6 e7 e13 e14 e15
  obtain ⟨hk, hR, rfl, hs13, hF12⟩ := hrel
  clear F1
  obtain ⟨w14, rfl⟩ : ∃ x_ : World, x_ = wr := ⟨_, rfl⟩
  have HR := lhd hR
  clear hR
  by_cases c15 : (k : Int) < (l.length : Int)
  ·
   have c15H := lhd c15
   obtain ⟨z, hz16_⟩ : ∃ z_, l[k]? = some z_ := ⟨_, List.getElem?_eq_getElem (by omega)⟩
   have hz16 := lhd hz16_
   clear hz16_
   have HZ : Hid (prtV l n = (lstV (z :: l.drop (k + 1)) n p).pt) := lhd (by rw [HR.out, drop_cons' hz16.out])
   have ge17 : World.cell? _ ⟨x3, o4 + k * 2, none⟩ = some (.int .i64 z.fr) := (Sl.cells (hF12.at 2 rfl) hz16.out 0 _ rfl)
   have gl18 := cell_lt ge17
   have ge19 : World.cell? _ ⟨x3, o4 + k * 2 + 1, none⟩ = some (.int .i64 z.pt) := (Sl.cells (hF12.at 2 rfl) hz16.out 1 _ rfl)
   go_wp2_with fail
   clear ge17 gl18 ge19
   have F20 := hF12.new 104 #[.int .i64 z.fr, .int .i64 z.pt] (n := w14.heap.size) (by simp)
   clear hF12
   refine (bfrom_c z _).mono ?_
   rintro e w23 ⟨rfl, hg21⟩
   have hg21s := hg21.size
   (try simp at hg21s)
   replace F20 := F20.gn hg21
   clear hg21
   by_cases c25 : z.fr <= n
   ·
    have c25H := lhd c25
    have b26 := F20.bx2 0 rfl
    have b27 := F20.bx2 1 rfl
    go_wp2_with fail
    clear b26 b27
    have F28 := (F20.front 1 rfl rfl).pt2 (.int .i64 z.fr) (.int .i64 z.pt)
    clear F20
    have F29 : Bun w [rbox (w.heap.size + 1) 104 #[.int .i64 z.fr, .int .i64 z.pt], rbox w.heap.size 104 #[.int .i64 0, .int .i64 0], rsl shaEnc 2 lo hi (.slice (some ⟨x3, o4, none⟩) l.length c) l] _ := F28.pick [0, 2, 3] (by decide) rfl
    clear F28
    (first | refine ⟨rfl, ?_, ?_⟩ | refine ⟨?_, ?_⟩)
    · rw [HI11.out]; exact ⟨k + 1, z, rfl, rfl, rfl, rfl, rfl, rfl, (by show Value.int .i64 ((k : Int) + 1) = _; simp), (by omega), (by rw [HZ.out, lstV_cons, if_pos c25H.out]), (by first | rfl | simp), (by first | omega | (simp; done) | (simp; omega)), F29⟩
    · simp [slot, intOf]; omega
   have c25H := lhd c25
   have c25a : decide (z.fr <= n) = false := dec_f c25
   go_wp2_with fail
   have F30 : Bun w [rbox (w.heap.size + 1) 104 #[.int .i64 p.fr, .int .i64 p.pt], rbox w.heap.size 104 #[.int .i64 0, .int .i64 0], rsl shaEnc 2 lo hi (.slice (some ⟨x3, o4, none⟩) l.length c) l] _ := F20.pick [1, 2, 3] (by decide) rfl
   clear F20
   (first | refine ⟨rfl, ?_, ?_⟩ | refine ⟨?_, ?_⟩)
   · rw [HI11.out]; exact ⟨k + 1, p, rfl, rfl, rfl, rfl, rfl, rfl, (by show Value.int .i64 ((k : Int) + 1) = _; simp), (by omega), (by rw [HZ.out, lstV_cons, if_neg (by omega)]), (by first | rfl | simp), (by first | omega | (simp; done) | (simp; omega)), F30⟩
   · simp [slot, intOf]; omega
  have c15H := lhd c15
  have c15a : decide ((k : Int) < (l.length : Int)) = false := dec_f c15
  have HE : Hid (prtV l n = p.pt) := lhd (by rw [HR.out, List.drop_eq_nil_of_le (by omega)]; rfl)
  have b31 := hF12.bx2 0 rfl
  have b32 := hF12.bx2 1 rfl
  go_wp2_with fail
  clear b31 b32
  have F33 := (hF12.front 1 rfl rfl).pt2 (.int .i64 p.fr) (.int .i64 p.pt)
  clear hF12
  have kb34 := F33.bx2 0 rfl
  go_wp2_with fail
  exact bodyPost_ret (v := .agg #[.int .i64 p.fr, .int .i64 p.pt]) (by simp [results, Try.results67, go_sem, kb34]) rfl (⟨p.fr, by rw [HE.out], F33.gb⟩)
 case atStart1 =>
  rw [HI11.out]
  exact ⟨0, c0, rfl, rfl, rfl, rfl, rfl, rfl, rfl, Nat.zero_le _, H0.out, rfl, (by first | exact Nat.le_refl _ | omega | (simp; done) | (simp; omega)), F1⟩
set_option maxHeartbeats 4000000 in
theorem part_c (lo hi : Nat) (v : Value) (l : List Sha) (n : Int) (w : World) (h0 : 0 < l.length) (hl : Sl shaEnc 2 lo hi w v l) (h2 : hi <= w.heap.size) :
  Calls Try.prog 62 #[v, .int .i64 n] w (Ret (.int .i64 (prtV l n)) w) := by
 have F1 : Bun w [] w := Bun.nil _
 have hm_ls := hl.len
 unfold maxLen at hm_ls
 obtain ⟨a, c, rfl⟩ := hl.any
 replace F1 := F1.sl0 hl h2 rfl
 clear hl
 go_enter Try.func62, Try.ntmps62
 go_wp2_with fail
 refine (last_c lo hi _ l n _ h0 (F1.at 0 rfl : Sl shaEnc 2 lo hi _ (.slice a l.length c) l) (Nat.le_trans h2 F1.gb.size)).mono ?_
 rintro e w5 ⟨f0, rfl, hg3⟩
 have hg3s := hg3.size
 (try simp at hg3s)
 replace F1 := F1.gn hg3
 clear hg3
 have ge7 : ∀ w, (Instr.field 104 (.agg #[.int .i64 f0, .int .i64 (prtV l n)]) 1).run Try.prog w = .ok (.int .i64 (prtV l n)) w := fun _ => by kernel_rfl
 go_wp2_with fail
 clear ge7
 go_ret
 exact ⟨rfl, F1.gb⟩
set_option maxHeartbeats 8000000 in
theorem table1_c (lo hi : Nat) (v : Value) (w : World) (hl : Sl shaEnc 2 lo hi w v [(⟨0, 1000000⟩ : Sha)]) (h2 : hi <= w.heap.size) :
  Calls Try.prog 61 #[v] w (Ret (.int .i64 0) w) := by
 have F1 : Bun w [] w := Bun.nil _
 have hm_ls := hl.len
 unfold maxLen at hm_ls
 obtain ⟨a, c, rfl⟩ := hl.any
 replace F1 := F1.sl0 hl h2 rfl
 clear hl
 obtain ⟨x3, o4, e_⟩ := Sl.addr (F1.at 0 rfl : Sl shaEnc 2 lo hi _ (.slice a [(⟨0, 1000000⟩ : Sha)].length c) ([(⟨0, 1000000⟩ : Sha)])) (by decide)
 subst e_
 have hz5 : Hid (([(⟨0, 1000000⟩ : Sha)])[0]? = some (⟨0, 1000000⟩ : Sha)) := lhd (rfl)
 go_enter Try.func61, Try.ntmps61
 go_wp2_with fail
 refine wp_loop_rounds 2 ?_
 rw [rounds_succ]
 have ge6 : World.cell? _ ⟨x3, o4, none⟩ = some (.int .i64 0) := (by have h_ := Sl.cells (F1.at 0 rfl) hz5.out 0 _ rfl; simpa [Nat.add_assoc] using h_)
 have gl7 := cell_lt ge6
 have ge8 : World.cell? _ ⟨x3, o4 + 1, none⟩ = some (.int .i64 1000000) := (by have h_ := Sl.cells (F1.at 0 rfl) hz5.out 1 _ rfl; simpa [Nat.add_assoc] using h_)
 go_wp2_with fail
 clear ge6 gl7 ge8
 replace F1 := F1.new 104 #[.int .i64 0, .int .i64 1000000] (n := w.heap.size) (by simp)
 have b10 := F1.bx2 0 rfl
 go_quiet (fail)
 clear b10
 replace F1 := F1.drewN nq
 have Fn_ := F1
 (try dsimp only [List.eraseIdx_cons_succ, List.eraseIdx_cons_zero] at Fn_)
 obtain ⟨w12, hx13, F15, hxs14⟩ := Fn_.name
 (try simp at hxs14)
 rw [hx13]
 clear hx13 F1 Fn_
 have b16 := F15.bx2 0 rfl
 go_wp2_with fail
 clear b16
 go_quiet (fail)
 replace F15 := F15.drewN nq
 have Fn_ := (F15.drop 0 rfl)
 (try dsimp only [List.eraseIdx_cons_succ, List.eraseIdx_cons_zero] at Fn_)
 obtain ⟨w18, hx19, F21, hxs20⟩ := Fn_.name
 (try simp at hxs20)
 rw [hx19]
 clear hx19 F15 Fn_
 go_wp2_with fail
 rw [rounds_succ]
 go_wp2_with fail
 go_ret
 exact ⟨rfl, F21.gb⟩
def TabC (l : List Sha) : Prop := ∀ (lo hi : Nat) (v : Value) (w : World), Sl shaEnc 2 lo hi w v l -> hi <= w.heap.size -> Calls Try.prog 61 #[v] w (Ret (.int .i64 0) w)
theorem tabC_1 : TabC [⟨0, 1000000⟩] := fun lo hi v w h h2 => table1_c lo hi v w h h2
theorem bfault_c (a b lo hi : Int) (w : World)  :
  Calls Try.prog 60 #[.agg #[.int .i64 a, .int .i64 b], .int .i64 lo, .int .i64 hi] w (Ret (.int .i64 (spanErr a b lo hi)) w) := by
 have F1 : Bun w [] w := Bun.nil _
 go_enter Try.func60, Try.ntmps60
 by_cases c2 : a < lo
 ·
  have c2H := lhd c2
  have Hx3 := lhd (show ((spanErr a b lo hi : Int)) = 2 by unfold spanErr; (repeat' split) <;> omega)
  go_wp2_with fail
  replace F1 := F1.new 31 #[.int .i64 a, .int .i64 b] (n := w.heap.size) (by simp)
  go_ret
  exact ⟨by rw [Hx3.out] <;> rfl, F1.gb⟩
 have c2H := lhd c2
 have c2a : decide (a < lo) = false := dec_f c2
 by_cases c5 : hi < a
 ·
  have c5H := lhd c5
  have Hx6 := lhd (show ((spanErr a b lo hi : Int)) = 2 by unfold spanErr; (repeat' split) <;> omega)
  go_wp2_with fail
  replace F1 := F1.new 31 #[.int .i64 a, .int .i64 b] (n := w.heap.size) (by simp)
  go_ret
  exact ⟨by rw [Hx6.out] <;> rfl, F1.gb⟩
 have c5H := lhd c5
 have c5a : decide (hi < a) = false := dec_f c5
 by_cases c8 : b < lo
 ·
  have c8H := lhd c8
  have Hx9 := lhd (show ((spanErr a b lo hi : Int)) = 2 by unfold spanErr; (repeat' split) <;> omega)
  go_wp2_with fail
  replace F1 := F1.new 31 #[.int .i64 a, .int .i64 b] (n := w.heap.size) (by simp)
  go_ret
  exact ⟨by rw [Hx9.out] <;> rfl, F1.gb⟩
 have c8H := lhd c8
 have c8a : decide (b < lo) = false := dec_f c8
 by_cases c11 : hi < b
 ·
  have c11H := lhd c11
  have Hx12 := lhd (show ((spanErr a b lo hi : Int)) = 2 by unfold spanErr; (repeat' split) <;> omega)
  go_wp2_with fail
  replace F1 := F1.new 31 #[.int .i64 a, .int .i64 b] (n := w.heap.size) (by simp)
  go_ret
  exact ⟨by rw [Hx12.out] <;> rfl, F1.gb⟩
 have c11H := lhd c11
 have c11a : decide (hi < b) = false := dec_f c11
 by_cases c14 : b < a
 ·
  have c14H := lhd c14
  have Hx15 := lhd (show ((spanErr a b lo hi : Int)) = 11 by unfold spanErr; (repeat' split) <;> omega)
  go_wp2_with fail
  replace F1 := F1.new 31 #[.int .i64 a, .int .i64 b] (n := w.heap.size) (by simp)
  go_ret
  exact ⟨by rw [Hx15.out] <;> rfl, F1.gb⟩
 have c14H := lhd c14
 have c14a : decide (b < a) = false := dec_f c14
 have Hx17 := lhd (show ((spanErr a b lo hi : Int)) = 0 by unfold spanErr; (repeat' split) <;> omega)
 go_wp2_with fail
 replace F1 := F1.new 31 #[.int .i64 a, .int .i64 b] (n := w.heap.size) (by simp)
 go_ret
 exact ⟨by rw [Hx17.out] <;> rfl, F1.gb⟩
theorem bwithin_c (n lo hi : Int) (w : World)  :
  Calls Try.prog 56 #[.int .i64 n, .int .i64 lo, .int .i64 hi] w (fun e w' => e = .returned (.bool (wth n lo hi)) /\ w = w') := by
 have F1 : Bun w [] w := Bun.nil _
 go_enter Try.func56, Try.ntmps56
 by_cases c2 : lo <= n
 ·
  have c2H := lhd c2
  have Hx3 := lhd (show ((wth n lo hi : Bool)) = (decide (n <= hi)) by simp [wth]; omega)
  go_wp2_with fail
  go_ret
  exact ⟨by rw [Hx3.out] <;> rfl, rfl⟩
 have c2H := lhd c2
 have c2a : decide (lo <= n) = false := dec_f c2
 have Hx4 := lhd (show ((wth n lo hi : Bool)) = false by simp [wth]; omega)
 go_wp2_with fail
 go_ret
 exact ⟨by rw [Hx4.out] <;> rfl, rfl⟩
theorem bwithin_y {n lo hi : Int} (h : lo <= n /\ n <= hi) (w : World) : Calls Try.prog 56 #[.int .i64 n, .int .i64 lo, .int .i64 hi] w (fun e w' => e = .returned (.bool true) /\ w = w') := by
 have h1 := bwithin_c n lo hi w
 rw [show wth n lo hi = true by simp [wth]; omega] at h1
 exact h1
theorem bfault_0 {a b lo hi : Int} (h : lo <= a /\ a <= b /\ b <= hi) (w : World) : Calls Try.prog 60 #[.agg #[.int .i64 a, .int .i64 b], .int .i64 lo, .int .i64 hi] w (Ret (.int .i64 0) w) := by
 have h1 := bfault_c a b lo hi w
 rw [show spanErr a b lo hi = 0 by unfold spanErr; rw [if_neg (by omega), if_neg (by omega)]] at h1
 exact h1
set_option maxHeartbeats 16000000 in
theorem pcheck_c (los his loc hic : Nat) (vs vc : Value) (p : Pla) (w : World) (hp : PlaOk p) (hts : TabC p.sh) (htc : TabC p.cr) (hs : Sl shaEnc 2 los his w vs p.sh) (hs2 : his <= w.heap.size) (hc : Sl shaEnc 2 loc hic w vc p.cr) (hc2 : hic <= w.heap.size) :
  Calls Try.prog 55 #[.agg #[.int .i64 p.st.lo, .int .i64 p.st.hi, vs, vc, .int .i64 p.near, .int .i64 p.edge, .int .i64 p.grav, .int .i64 p.low, .int .i64 p.high, .int .i64 p.shore, .int .i64 p.wider]] w (Ret (.int .i64 0) w) := by
 have F1 : Bun w [] w := Bun.nil _
 have hm_sh := hs.len
 unfold maxLen at hm_sh
 obtain ⟨as_, cs_, rfl⟩ := hs.any
 replace F1 := F1.sl0 hs hs2 rfl
 clear hs
 have hm_cr := hc.len
 unfold maxLen at hm_cr
 obtain ⟨ac_, cc_, rfl⟩ := hc.any
 replace F1 := F1.sl0 hc hc2 rfl
 clear hc
 have HPK := lhd hp
 have hst_ := hp.st
 have hne_ := hp.near
 have hed_ := hp.edge
 have hgr_ := hp.grav
 have hlw_ := hp.low
 have hso_ := hp.shore
 have hwi_ := hp.wider
 clear hp
 have HTS := lhd hts
 have HTC := lhd htc
 clear hts htc
 have kn4 : ¬ (p.high < p.low) := (by omega)
 have kn4H := lhd kn4
 have kn4a : decide (p.high < p.low) = false := dec_f kn4
 go_enter Try.func55, Try.ntmps55
 go_wp2_with fail
 replace F1 := F1.new 107 #[.int .i64 p.st.lo, .int .i64 p.st.hi, .slice as_ p.sh.length cs_, .slice ac_ p.cr.length cc_, .int .i64 p.near, .int .i64 p.edge, .int .i64 p.grav, .int .i64 p.low, .int .i64 p.high, .int .i64 p.shore, .int .i64 p.wider] (n := w.heap.size) (by simp)
 refine (bfault_0 (a := p.st.lo) (b := p.st.hi) (lo := 1) (hi := 100000) (by omega) _).mono ?_
 rintro e w8 ⟨rfl, hg6⟩
 have hg6s := hg6.size
 (try simp at hg6s)
 replace F1 := F1.gn hg6
 clear hg6
 have b10 := F1.bx11 0 rfl
 go_wp2_with fail
 clear b10
 refine (HTS.out _ _ _ _ (F1.at 2 rfl : Sl shaEnc 2 los his _ (.slice as_ p.sh.length cs_) p.sh) (Nat.le_trans hs2 F1.gb.size)).mono ?_
 rintro e w13 ⟨rfl, hg11⟩
 have hg11s := hg11.size
 (try simp at hg11s)
 replace F1 := F1.gn hg11
 clear hg11
 have b15 := F1.bx11 0 rfl
 go_wp2_with fail
 clear b15
 refine (HTC.out _ _ _ _ (F1.at 1 rfl : Sl shaEnc 2 loc hic _ (.slice ac_ p.cr.length cc_) p.cr) (Nat.le_trans hc2 F1.gb.size)).mono ?_
 rintro e w18 ⟨rfl, hg16⟩
 have hg16s := hg16.size
 (try simp at hg16s)
 replace F1 := F1.gn hg16
 clear hg16
 have b20 := F1.bx11 0 rfl
 go_wp2_with fail
 clear b20
 refine (bwithin_y (n := p.near) (lo := 0) (hi := 10000) (by omega) _).mono ?_
 rintro e _ ⟨rfl, rfl⟩
 have b21 := F1.bx11 0 rfl
 go_wp2_with fail
 clear b21
 refine (bwithin_y (n := p.edge) (lo := 0) (hi := 1000000) (by omega) _).mono ?_
 rintro e _ ⟨rfl, rfl⟩
 have b22 := F1.bx11 0 rfl
 go_wp2_with fail
 clear b22
 refine (bwithin_y (n := p.grav) (lo := 1) (hi := 1000) (by omega) _).mono ?_
 rintro e _ ⟨rfl, rfl⟩
 have b23 := F1.bx11 0 rfl
 go_wp2_with fail
 clear b23
 refine (bwithin_y (n := p.low) (lo := 1) (hi := 4000000) (by omega) _).mono ?_
 rintro e _ ⟨rfl, rfl⟩
 have b24 := F1.bx11 0 rfl
 go_wp2_with fail
 clear b24
 refine (bwithin_y (n := p.high) (lo := 1) (hi := 4000000) (by omega) _).mono ?_
 rintro e _ ⟨rfl, rfl⟩
 have b25 := F1.bx11 0 rfl
 go_wp2_with fail
 clear b25
 refine (bwithin_y (n := p.shore) (lo := 0) (hi := 10000) (by omega) _).mono ?_
 rintro e _ ⟨rfl, rfl⟩
 have b26 := F1.bx11 0 rfl
 go_wp2_with fail
 clear b26
 refine (bwithin_y (n := p.wider) (lo := 0) (hi := 1000000) (by omega) _).mono ?_
 rintro e _ ⟨rfl, rfl⟩
 go_wp2_with fail
 go_ret
 exact ⟨rfl, F1.gb⟩
set_option maxHeartbeats 16000000 in
theorem alone_c (los his loc hic : Nat) (vs vc : Value) (p : Pla) (h m : Int) (w : World) (hp : PlaOk p) (hts : TabC p.sh) (htc : TabC p.cr) (hs : Sl shaEnc 2 los his w vs p.sh) (hs2 : his <= w.heap.size) (hc : Sl shaEnc 2 loc hic w vc p.cr) (hc2 : hic <= w.heap.size) (hh : 0 <= h /\ h <= 5000) :
  Calls Try.prog 57 #[.agg #[.int .i64 p.st.lo, .int .i64 p.st.hi, vs, vc, .int .i64 p.near, .int .i64 p.edge, .int .i64 p.grav, .int .i64 p.low, .int .i64 p.high, .int .i64 p.shore, .int .i64 p.wider], .int .i64 h, .int .i64 m] w (Ret (.int .i64 (alnV p h m)) w) := by
 have F1 : Bun w [] w := Bun.nil _
 have hm_sh := hs.len
 unfold maxLen at hm_sh
 obtain ⟨as_, cs_, rfl⟩ := hs.any
 replace F1 := F1.sl0 hs hs2 rfl
 clear hs
 have hm_cr := hc.len
 unfold maxLen at hm_cr
 obtain ⟨ac_, cc_, rfl⟩ := hc.any
 replace F1 := F1.sl0 hc hc2 rfl
 clear hc
 have HPK := lhd hp
 have hst_ := hp.st
 have hne_ := hp.near
 have hed_ := hp.edge
 have hgr_ := hp.grav
 have hlw_ := hp.low
 have hso_ := hp.shore
 have hwi_ := hp.wider
 clear hp
 have HTS := lhd hts
 have HTC := lhd htc
 clear hts htc
 have hab_ := aln_bd HPK.out (h := h) (m := m) hh
 have HAB := lhd hab_
 go_enter Try.func57, Try.ntmps57
 go_wp2_with fail
 replace F1 := F1.new 107 #[.int .i64 p.st.lo, .int .i64 p.st.hi, .slice as_ p.sh.length cs_, .slice ac_ p.cr.length cc_, .int .i64 p.near, .int .i64 p.edge, .int .i64 p.grav, .int .i64 p.low, .int .i64 p.high, .int .i64 p.shore, .int .i64 p.wider] (n := w.heap.size) (by simp)
 have Fn_ := F1
 (try dsimp only [List.eraseIdx_cons_succ, List.eraseIdx_cons_zero] at Fn_)
 obtain ⟨w9, hx10, F12, hxs11⟩ := Fn_.name
 (try simp at hxs11)
 rw [hx10]
 clear hx10 F1 Fn_
 have hw6 : IntKind.i64.wrap (p.st.lo * h) = p.st.lo * h := IntWalk.i64_in _ (by omega)
 have hw7 : IntKind.i64.wrap ((p.st.lo * h) * h) = (p.st.lo * h) * h := IntWalk.i64_in _ (by omega)
 replace F12 := F12.drew
 refine ru_begin (fun W => W.cell? ⟨w.heap.size, 0, none⟩ = some (.int .i64 p.st.lo) /\ W.cell? ⟨w.heap.size, 3, none⟩ = some (.slice ac_ p.cr.length cc_)) 13 (by kernel_rfl) ?_ ?_
 · exact ⟨F12.q 0 0, F12.q 0 3⟩
 obtain ⟨wd15, hwd_⟩ : ∃ x : World, w9.drew = x := ⟨_, rfl⟩
 rw [hwd_] at F12 ⊢
 have wd15s : w9.heap.size <= wd15.heap.size := by rw [← hwd_]; exact Nat.le_refl _
 clear hwd_
 have hS14 := (And.intro (F12.q 0 0) (F12.q 0 3))
 refine ru_t 0 [] ?_
 refine ru_t 1 [] ?_
 refine ru_t 2 [] ?_
 refine ru_t 3 [] ?_
 refine ru_t 4 [] ?_
 refine ru_t 5 [] ?_
 refine ru_t 6 [] ?_
 refine ru_t 7 [] ?_
 refine ru_t 8 [] ?_
 refine ru_t 9 [] ?_
 (try simp only [lpX])
 clear hS14
 refine ru_one 10 rfl (by kernel_rfl) (fun K hK => ?_)
 go_simp
 refine (part_c loc hic _ p.cr m _ HPK.out.cr.n.1 (F12.at 1 rfl : Sl shaEnc 2 loc hic _ (.slice ac_ p.cr.length cc_) p.cr) (Nat.le_trans hc2 F12.gb.size)).mono ?_
 rintro e w18 ⟨rfl, hg16⟩
 have hg16s := hg16.size
 (try simp at hg16s)
 replace F12 := F12.gn hg16
 refine ru_back hK (by exact ⟨F12.q 0 0, F12.q 0 3⟩) (fun _ => ?_)
 clear hK K
 (try simp only [lpX])
 have hw20 : IntKind.i64.wrap (((p.st.lo * h) * h) * (prtV p.cr m)) = ((p.st.lo * h) * h) * (prtV p.cr m) := IntWalk.i64_in _ (by omega)
 refine ru_p 11 ?_
 (try simp only [lpX])
 have hq21 : Int.tdiv (((p.st.lo * h) * h) * (prtV p.cr m)) 1000000000000 = (((p.st.lo * h) * h) * (prtV p.cr m)) / 1000000000000 := Int.tdiv_eq_ediv_of_nonneg (by omega)
 have hw22 : IntKind.i64.wrap ((((p.st.lo * h) * h) * (prtV p.cr m)) / 1000000000000) = (((p.st.lo * h) * h) * (prtV p.cr m)) / 1000000000000 := IntWalk.i64_in _ (by omega)
 refine ru_p 12 ?_
 (try simp only [lpX])
 refine ru_one 13 rfl (by kernel_rfl) (fun K hK => ?_)
 go_simp
 refine ru_back_late hK (by kernel_rfl) ?_
 clear hK K
 (try simp only [lpX])
 refine ru_done (by kernel_rfl) ?_
 (try clear hw6 hw7 hw20 hq21 hw22)
 have Fn_ := (F12.drop 0 rfl)
 (try dsimp only [List.eraseIdx_cons_succ, List.eraseIdx_cons_zero] at Fn_)
 obtain ⟨w23, hx24, F26, hxs25⟩ := Fn_.name
 (try simp at hxs25)
 rw [hx24]
 clear hx24 F12 Fn_
 have Hx27 := lhd (show ((alnV p h m : Int)) = (((p.st.lo * h) * h) * (prtV p.cr m)) / 1000000000000 by rfl)
 go_wp2_with fail
 go_ret
 exact ⟨by rw [Hx27.out] <;> rfl, F26.gb⟩
set_option maxHeartbeats 8000000 in
theorem pbears_c (los his loc hic : Nat) (vs vc : Value) (p : Pla) (h m : Int) (w : World) (hp : PlaOk p) (hts : TabC p.sh) (htc : TabC p.cr) (hs : Sl shaEnc 2 los his w vs p.sh) (hs2 : his <= w.heap.size) (hc : Sl shaEnc 2 loc hic w vc p.cr) (hc2 : hic <= w.heap.size) (hh : 0 <= h /\ h <= 5000) (hm : 0 <= m /\ m <= 10000) :
  Calls Try.prog 49 #[.agg #[.int .i64 p.st.lo, .int .i64 p.st.hi, vs, vc, .int .i64 p.near, .int .i64 p.edge, .int .i64 p.grav, .int .i64 p.low, .int .i64 p.high, .int .i64 p.shore, .int .i64 p.wider], .int .i64 h, .int .i64 m] w (Ret (.tuple #[.int .i64 (alnV p h m), .int .i64 0]) w) := by
 have F1 : Bun w [] w := Bun.nil _
 have hm_sh := hs.len
 unfold maxLen at hm_sh
 obtain ⟨as_, cs_, rfl⟩ := hs.any
 replace F1 := F1.sl0 hs hs2 rfl
 clear hs
 have hm_cr := hc.len
 unfold maxLen at hm_cr
 obtain ⟨ac_, cc_, rfl⟩ := hc.any
 replace F1 := F1.sl0 hc hc2 rfl
 clear hc
 have HPK := lhd hp
 have hst_ := hp.st
 have hne_ := hp.near
 have hed_ := hp.edge
 have hgr_ := hp.grav
 have hlw_ := hp.low
 have hso_ := hp.shore
 have hwi_ := hp.wider
 clear hp
 have HTS := lhd hts
 have HTC := lhd htc
 clear hts htc
 go_enter Try.func49, Try.ntmps49
 go_wp2_with fail
 replace F1 := F1.new 107 #[.int .i64 p.st.lo, .int .i64 p.st.hi, .slice as_ p.sh.length cs_, .slice ac_ p.cr.length cc_, .int .i64 p.near, .int .i64 p.edge, .int .i64 p.grav, .int .i64 p.low, .int .i64 p.high, .int .i64 p.shore, .int .i64 p.wider] (n := w.heap.size) (by simp)
 refine (pcheck_c los his loc hic _ _ p _ HPK.out HTS.out HTC.out (F1.at 2 rfl : Sl shaEnc 2 los his _ (.slice as_ p.sh.length cs_) p.sh) (Nat.le_trans hs2 F1.gb.size) (F1.at 1 rfl : Sl shaEnc 2 loc hic _ (.slice ac_ p.cr.length cc_) p.cr) (Nat.le_trans hc2 F1.gb.size)).mono ?_
 rintro e w7 ⟨rfl, hg5⟩
 have hg5s := hg5.size
 (try simp at hg5s)
 replace F1 := F1.gn hg5
 clear hg5
 go_wp2_with fail
 refine (bwithin_y (n := h) (lo := 0) (hi := 5000) (by omega) _).mono ?_
 rintro e _ ⟨rfl, rfl⟩
 go_wp2_with fail
 refine (bwithin_y (n := m) (lo := 0) (hi := 10000) (by omega) _).mono ?_
 rintro e _ ⟨rfl, rfl⟩
 have b9 := F1.bx11 0 rfl
 go_wp2_with fail
 clear b9
 refine (alone_c los his loc hic _ _ p h m _ HPK.out HTS.out HTC.out (F1.at 2 rfl : Sl shaEnc 2 los his _ (.slice as_ p.sh.length cs_) p.sh) (Nat.le_trans hs2 F1.gb.size) (F1.at 1 rfl : Sl shaEnc 2 loc hic _ (.slice ac_ p.cr.length cc_) p.cr) (Nat.le_trans hc2 F1.gb.size) hh).mono ?_
 rintro e w12 ⟨rfl, hg10⟩
 have hg10s := hg10.size
 (try simp at hg10s)
 replace F1 := F1.gn hg10
 clear hg10
 go_wp2_with fail
 exact bodyPost_ret (v := .tuple #[.int .i64 (alnV p h m), .int .i64 0]) (by simp [results, Try.results49, go_sem]) rfl (⟨rfl, F1.gb⟩)
end Go.Proofs.Ytlefmbjipdlcfaa
