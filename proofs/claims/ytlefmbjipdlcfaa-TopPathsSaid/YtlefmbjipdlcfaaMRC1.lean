/- top: rescue: a rescue in which nothing is wrong. -/
import Derived.Test.YtlefmbjipdlcfaaMKN
import Derived.Test.YtlefmbjipdlcfaaMJ2
import Derived.Test.YtlefmbjipdlcfaaMK1
import Derived.Test.YtlefmbjipdlcfaaMMixG
import Derived.Test.YtlefmbjipdlcfaaMKC
import Derived.Test.YtlefmbjipdlcfaaMPT1
set_option linter.unusedVariables false
set_option linter.unusedSimpArgs false
set_option linter.unnecessarySimpa false
namespace Go.Proofs.Ytlefmbjipdlcfaa
open Go.RowKit
set_option maxRecDepth 100000
attribute [local go_sem] Oper.semAt_some
def ptEnc (l : Lg) : List Value := [.int .i64 l.a, .int .i64 l.b, .int .i64 l.long, .int .i64 l.long, .int .i64 l.op]
structure Pst where
 spot : Int
 lo : Int
 hi : Int
def poEnc (p : Pst) : List Value := [.int .i64 p.spot, .int .i64 p.lo, .int .i64 p.hi, .int .i64 0, .int .i64 0, .int .i64 0, .slice none 0 0]
def chEnc (m : Int) : List Value := [.int .i64 (-400), .int .i64 m, .int .i64 m]
abbrev ws0 (n : Nat) : List Sp := List.replicate n ⟨0, 0⟩
structure RscAt (w : World) (vp vq vw vc : Value) (n : Nat) (ls : List Lg) (p : Pst) (m : Int) : Prop where
 fp : ∃ lo hi, Sl ptEnc 5 lo hi w vp ls /\ hi <= w.heap.size
 fq : ∃ lo hi, Sl poEnc 7 lo hi w vq [p] /\ hi <= w.heap.size
 fw : ∃ lo hi, Sl spEnc 2 lo hi w vw (ws0 n) /\ hi <= w.heap.size
 fc : ∃ lo hi, Sl chEnc 3 lo hi w vc [m] /\ hi <= w.heap.size
structure RscOk (n : Nat) (ls : List Lg) (p : Pst) (m : Int) : Prop where
 nn : 1 <= n /\ n <= 40
 len : ls.length <= 120
 lg : ∀ l ∈ ls, LgOk n l
 long : ∀ l ∈ ls, l.long <= 5000
 spot : 0 <= p.spot /\ p.spot < n
 rdy : 0 <= p.lo /\ p.lo <= p.hi /\ p.hi <= 5000
 mm : 0 <= m /\ m <= 5000
theorem rwithin_c (n lo hi : Int) (w : World)  :
  Calls Try.prog 16 #[.int .i64 n, .int .i64 lo, .int .i64 hi] w (fun e w' => e = .returned (.bool (wth n lo hi)) /\ w = w') := by
 have F1 : Bun w [] w := Bun.nil _
 go_enter Try.func16, Try.ntmps16
 by_cases c2 : lo <= n
 ·
  have c2H := lhd c2
  have Hx3 := lhd (show ((wth n lo hi : Bool)) = (decide (n <= hi)) by simp [wth]; omega)
  go_wp2_with fail
  go_ret
  exact ⟨by rw [Hx3.out] <;> rfl, rfl⟩
 have c2H := lhd c2
 have c2a : decide (lo <= n) = false := dec_f c2
 have Hx4 := lhd (show ((wth n lo hi : Bool)) = false by simp [wth]; omega)
 go_wp2_with fail
 go_ret
 exact ⟨by rw [Hx4.out] <;> rfl, rfl⟩
theorem rfault_c (a b lo hi : Int) (w : World)  :
  Calls Try.prog 44 #[.agg #[.int .i64 a, .int .i64 b], .int .i64 lo, .int .i64 hi] w (Ret (.int .i64 (spanErr a b lo hi)) w) := by
 have F1 : Bun w [] w := Bun.nil _
 go_enter Try.func44, Try.ntmps44
 go_wp2_with fail
 replace F1 := F1.new 31 #[.int .i64 a, .int .i64 b] (n := w.heap.size) (by simp)
 refine (rwithin_c _ _ _ _).mono ?_
 rintro e _ ⟨rfl, rfl⟩
 have Fn_ := F1
 (try dsimp only [List.eraseIdx_cons_succ, List.eraseIdx_cons_zero] at Fn_)
 obtain ⟨w3, hx4, F6, hxs5⟩ := Fn_.name
 (try simp at hxs5)
 rw [hx4]
 clear hx4 F1 Fn_
 cases c7 : wth a lo hi
 ·
  have c7o := wth_f c7
  have c7H := lhd c7
  have Hx8 := lhd (show ((spanErr a b lo hi : Int)) = 2 by unfold spanErr; (repeat' split) <;> omega)
  go_wp2_with fail
  go_ret
  exact ⟨by rw [Hx8.out] <;> rfl, F6.gb⟩
 have c7o := wth_t c7
 have c7H := lhd c7
 have b9 := F6.bx2 0 rfl
 go_wp2_with fail
 clear b9
 refine (rwithin_c _ _ _ _).mono ?_
 rintro e _ ⟨rfl, rfl⟩
 cases c10 : wth b lo hi
 ·
  have c10o := wth_f c10
  have c10H := lhd c10
  have Hx11 := lhd (show ((spanErr a b lo hi : Int)) = 2 by unfold spanErr; (repeat' split) <;> omega)
  go_wp2_with fail
  go_ret
  exact ⟨by rw [Hx11.out] <;> rfl, F6.gb⟩
 have c10o := wth_t c10
 have c10H := lhd c10
 by_cases c12 : b < a
 ·
  have c12H := lhd c12
  have Hx13 := lhd (show ((spanErr a b lo hi : Int)) = 11 by unfold spanErr; (repeat' split) <;> omega)
  have b14 := F6.bx2 0 rfl
  go_wp2_with fail
  clear b14
  go_ret
  exact ⟨by rw [Hx13.out] <;> rfl, F6.gb⟩
 have c12H := lhd c12
 have c12a : decide (b < a) = false := dec_f c12
 have Hx15 := lhd (show ((spanErr a b lo hi : Int)) = 0 by unfold spanErr; (repeat' split) <;> omega)
 have b16 := F6.bx2 0 rfl
 go_wp2_with fail
 clear b16
 go_ret
 exact ⟨by rw [Hx15.out] <;> rfl, F6.gb⟩
theorem rwithin_y {n lo hi : Int} (h : lo <= n /\ n <= hi) (w : World) : Calls Try.prog 16 #[.int .i64 n, .int .i64 lo, .int .i64 hi] w (fun e w' => e = .returned (.bool true) /\ w = w') := by
 have h1 := rwithin_c n lo hi w
 rw [show wth n lo hi = true by simp [wth]; omega] at h1
 exact h1
theorem rfault_0 {a b lo hi : Int} (h : lo <= a /\ a <= b /\ b <= hi) (w : World) : Calls Try.prog 44 #[.agg #[.int .i64 a, .int .i64 b], .int .i64 lo, .int .i64 hi] w (Ret (.int .i64 0) w) := by
 have h1 := rfault_c a b lo hi w
 rw [show spanErr a b lo hi = 0 by unfold spanErr; rw [if_neg (by omega), if_neg (by omega)]] at h1
 exact h1
set_option maxHeartbeats 8000000 in
theorem rfaults_c (lo hi : Nat) (v : Value) (l : List Sp) (m a b : Int) (w : World) (hm : (l.length : Int) = m) (hs : ∀ s ∈ l, a <= s.lo /\ s.lo <= s.hi /\ s.hi <= b) (hl : Sl spEnc 2 lo hi w v l) (h2 : hi <= w.heap.size) :
  Calls Try.prog 31 #[v, .int .i64 m, .int .i64 a, .int .i64 b] w (Ret (.int .i64 0) w) := by
 have F1 : Bun w [] w := Bun.nil _
 have hm_ss := hl.len
 unfold maxLen at hm_ss
 obtain ⟨aS, cS, rfl⟩ := hl.any
 replace F1 := F1.sl0 hl h2 rfl
 clear hl
 have kn3 : (l.length : Int) = m := hm
 have kn3H := lhd kn3
 have kn3a : ((l.length : Int) == m) = true := beq_t kn3
 have kn3b : ((l.length : Int) != m) = false := bne_f kn3
 clear kn3
 clear hm
 go_enter Try.func31, Try.ntmps31
 go_wp2_with fail
 obtain ⟨HI4_, HI40⟩ : ∃ I : RelT, I = (fun t ds wr => ∃ (k : Nat), t 2 = .int .i64 a /\ t 3 = .int .i64 b /\ t 16 = .slice aS l.length cS /\ t 17 = .int .i64 (l.length : Int) /\ t 18 = .int .i64 (k : Int) /\ k <= l.length /\ ds = [] /\ w.heap.size <= wr.heap.size /\ Bun w [rsl spEnc 2 lo hi (.slice aS l.length cS) l] wr) := ⟨_, rfl⟩
 have HI4 := lhd HI40
 clear HI40
 refine wp_loopS 30 rfl HI4_ (fun t wr => l.length - (intOf (t 18)).toNat) ?atStart1 ?round1
 case round1 =>
  intro t ds wr hHid
  rw [HI4.out] at hHid
  obtain ⟨k, e2, e3, e16, e17, e18, hrel⟩ := hHid
  have e : ((List.range 30).map t).toArray = #[t 0, t 1, t 2, t 3, t 4, t 5, t 6, t 7, t 8, t 9, t 10, t 11, t 12, t 13, t 14, t 15, t 16, t 17, t 18, t 19, t 20, t 21, t 22, t 23, t 24, t 25, t 26, t 27, t 28, t 29] := rfl
  (try dsimp only at e)
  rw [e2, e3, e16, e17, e18] at e
  rw [e]
  simp only [e18]
  clear e e2 e3 e16 e17 e18
  obtain ⟨hk, rfl, hs6, hF5⟩ := hrel
  clear F1
  obtain ⟨w7, rfl⟩ : ∃ x_ : World, x_ = wr := ⟨_, rfl⟩
  by_cases c8 : (k : Int) < (l.length : Int)
  ·
   have c8H := lhd c8
   obtain ⟨x9, o10, e_⟩ := Sl.addr (hF5.at 0 rfl : Sl spEnc 2 lo hi _ (.slice aS l.length cS) l) (by omega)
   subst e_
   obtain ⟨z, hz11_⟩ : ∃ z_, l[k]? = some z_ := ⟨_, List.getElem?_eq_getElem (by omega)⟩
   have hz11 := lhd hz11_
   clear hz11_
   have hzb := hs z (List.mem_of_getElem? hz11.out)
   have ge12 : World.cell? _ ⟨x9, o10 + k * 2, none⟩ = some (.int .i64 z.lo) := (Sl.cells (hF5.at 0 rfl) hz11.out 0 _ rfl)
   have gl13 := cell_lt ge12
   have ge14 : World.cell? _ ⟨x9, o10 + k * 2 + 1, none⟩ = some (.int .i64 z.hi) := (Sl.cells (hF5.at 0 rfl) hz11.out 1 _ rfl)
   go_wp2_with fail
   clear ge12 gl13 ge14
   have F15 := hF5.new 31 #[.int .i64 z.lo, .int .i64 z.hi] (n := w7.heap.size) (by simp)
   clear hF5
   refine (rfault_0 (a := z.lo) (b := z.hi) (lo := a) (hi := b) (by omega) _).mono ?_
   rintro e w18 ⟨rfl, hg16⟩
   have hg16s := hg16.size
   (try simp at hg16s)
   replace F15 := F15.gn hg16
   clear hg16
   go_wp2_with fail
   have F20 : Bun w [rsl spEnc 2 lo hi (.slice (some ⟨x9, o10, none⟩) l.length cS) l] _ := F15.pick [1] (by decide) rfl
   clear F15
   (first | refine ⟨rfl, ?_, ?_⟩ | refine ⟨?_, ?_⟩)
   · rw [HI4.out]; exact ⟨k + 1, rfl, rfl, rfl, rfl, (by show Value.int .i64 ((k : Int) + 1) = _; simp), (by omega), (by first | rfl | simp), (by first | omega | (simp; done) | (simp; omega)), F20⟩
   · simp [slot, intOf]; omega
  have c8H := lhd c8
  have c8a : decide ((k : Int) < (l.length : Int)) = false := dec_f c8
  go_wp2_with fail
  go_ret
  exact ⟨rfl, hF5.gb⟩
 case atStart1 =>
  rw [HI4.out]
  exact ⟨0, rfl, rfl, rfl, rfl, rfl, Nat.zero_le _, rfl, (by first | exact Nat.le_refl _ | omega | (simp; done) | (simp; omega)), F1⟩
set_option maxHeartbeats 8000000 in
theorem rpath_c (n : Nat) (vp vq vw vc : Value) (l : Lg) (w : World) (hn : n <= 40) (h : LgOk n l) (hg : l.long <= 5000) :
  Calls Try.prog 29 #[.agg #[.int .i64 (n : Int), vp, vq, vw, vc], .agg #[.int .i64 l.a, .int .i64 l.b, .int .i64 l.long, .int .i64 l.long, .int .i64 l.op]] w (Ret (.int .i64 0) w) := by
 have F1 : Bun w [] w := Bun.nil _
 have ha_ := h.a
 have hb_ := h.b
 have hl_ := h.long
 have ho_ := h.op
 have kn2 : ¬ (l.a = l.b) := h.ne
 have kn2H := lhd kn2
 have kn2a : (l.a == l.b) = false := beq_f kn2
 have kn2b : (l.a != l.b) = true := bne_t kn2
 clear kn2
 go_enter Try.func29, Try.ntmps29
 go_wp2_with fail
 replace F1 := F1.new 42 #[.int .i64 (n : Int), vp, vq, vw, vc] (n := w.heap.size) (by simp)
 replace F1 := F1.new 46 #[.int .i64 l.a, .int .i64 l.b, .int .i64 l.long, .int .i64 l.long, .int .i64 l.op] (n := (w.heap.size + 1)) (by simp)
 refine (rwithin_y (n := l.a) (lo := 0) (hi := (n : Int) - 1) (by omega) _).mono ?_
 rintro e _ ⟨rfl, rfl⟩
 have Fn_ := F1
 (try dsimp only [List.eraseIdx_cons_succ, List.eraseIdx_cons_zero] at Fn_)
 obtain ⟨w5, hx6, F8, hxs7⟩ := Fn_.name
 (try simp at hxs7)
 rw [hx6]
 clear hx6 F1 Fn_
 have b9 := F8.bx5 0 rfl
 have b10 := F8.bx5 1 rfl
 go_wp2_with fail
 clear b9 b10
 refine (rwithin_y (n := l.b) (lo := 0) (hi := (n : Int) - 1) (by omega) _).mono ?_
 rintro e _ ⟨rfl, rfl⟩
 have b11 := F8.bx5 0 rfl
 go_wp2_with fail
 clear b11
 refine (rfault_0 (a := l.long) (b := l.long) (lo := 0) (hi := 5000) (by omega) _).mono ?_
 rintro e w14 ⟨rfl, hg12⟩
 have hg12s := hg12.size
 (try simp at hg12s)
 replace F8 := F8.gn hg12
 clear hg12
 have b16 := F8.bx5 0 rfl
 go_wp2_with fail
 clear b16
 refine (rwithin_y (n := l.op) (lo := 1) (hi := 3) (by omega) _).mono ?_
 rintro e _ ⟨rfl, rfl⟩
 go_wp2_with fail
 go_ret
 exact ⟨rfl, F8.gb⟩
set_option maxHeartbeats 8000000 in
theorem rpost_c (n : Nat) (vp vq vw vc : Value) (p : Pst) (w : World) (hn : n <= 40) (hp : 0 <= p.spot /\ p.spot < n) (hr : 0 <= p.lo /\ p.lo <= p.hi /\ p.hi <= 5000) :
  Calls Try.prog 30 #[.agg #[.int .i64 (n : Int), vp, vq, vw, vc], .agg #[.int .i64 p.spot, .int .i64 p.lo, .int .i64 p.hi, .int .i64 0, .int .i64 0, .int .i64 0, .slice none 0 0]] w (Ret (.int .i64 0) w) := by
 have F1 : Bun w [] w := Bun.nil _
 go_enter Try.func30, Try.ntmps30
 go_wp2_with fail
 replace F1 := F1.new 42 #[.int .i64 (n : Int), vp, vq, vw, vc] (n := w.heap.size) (by simp)
 replace F1 := F1.new 35 #[.int .i64 p.spot, .int .i64 p.lo, .int .i64 p.hi, .int .i64 0, .int .i64 0, .int .i64 0, .slice none 0 0] (n := (w.heap.size + 1)) (by simp)
 refine (rwithin_y (n := p.spot) (lo := 0) (hi := (n : Int) - 1) (by omega) _).mono ?_
 rintro e _ ⟨rfl, rfl⟩
 have Fn_ := F1
 (try dsimp only [List.eraseIdx_cons_succ, List.eraseIdx_cons_zero] at Fn_)
 obtain ⟨w4, hx5, F7, hxs6⟩ := Fn_.name
 (try simp at hxs6)
 rw [hx5]
 clear hx5 F1 Fn_
 have b8 := F7.bx7 0 rfl
 go_wp2_with fail
 clear b8
 refine (rfault_0 (a := p.lo) (b := p.hi) (lo := 0) (hi := 5000) (by omega) _).mono ?_
 rintro e w11 ⟨rfl, hg9⟩
 have hg9s := hg9.size
 (try simp at hg9s)
 replace F7 := F7.gn hg9
 clear hg9
 have b13 := F7.bx7 0 rfl
 go_wp2_with fail
 clear b13
 refine (rwithin_y (n := 0) (lo := 0) (hi := 1439) (by omega) _).mono ?_
 rintro e _ ⟨rfl, rfl⟩
 have b14 := F7.bx7 0 rfl
 go_wp2_with fail
 clear b14
 refine (rwithin_y (n := 0) (lo := 0) (hi := 1439) (by omega) _).mono ?_
 rintro e _ ⟨rfl, rfl⟩
 have b15 := F7.bx7 0 rfl
 go_wp2_with fail
 clear b15
 refine (rfaults_c 0 _ _ [] 0 0 5000 _ rfl (fun _ h => by cases h) ((Own.nil spEnc 31 2 0 _).sl (fun _ => rfl)) (Nat.le_refl _)).mono ?_
 rintro e w18 ⟨rfl, hg16⟩
 have hg16s := hg16.size
 (try simp at hg16s)
 replace F7 := F7.gn hg16
 clear hg16
 go_wp2_with fail
 go_ret
 exact ⟨rfl, F7.gb⟩
set_option maxHeartbeats 8000000 in
theorem rchills_c (lo hi : Nat) (v : Value) (m : Int) (w : World) (hm : 0 <= m /\ m <= 5000) (hl : Sl chEnc 3 lo hi w v [m]) (h2 : hi <= w.heap.size) :
  Calls Try.prog 32 #[v] w (Ret (.int .i64 0) w) := by
 have F1 : Bun w [] w := Bun.nil _
 have hm_ch := hl.len
 unfold maxLen at hm_ch
 obtain ⟨a, c, rfl⟩ := hl.any
 replace F1 := F1.sl0 hl h2 rfl
 clear hl
 obtain ⟨x3, o4, e_⟩ := Sl.addr (F1.at 0 rfl : Sl chEnc 3 lo hi _ (.slice a [m].length c) [m]) Nat.zero_lt_one
 subst e_
 have hz5 : Hid ([m][0]? = some m) := lhd (rfl)
 go_enter Try.func32, Try.ntmps32
 go_wp2_with fail
 refine wp_loop_rounds 2 ?_
 rw [rounds_succ]
 have ge6 : World.cell? _ ⟨x3, o4, none⟩ = some (.int .i64 (-400)) := (by have h_ := Sl.cells (F1.at 0 rfl) hz5.out 0 _ rfl; simpa [Nat.add_assoc] using h_)
 have gl7 := cell_lt ge6
 have ge8 : World.cell? _ ⟨x3, o4 + 1, none⟩ = some (.int .i64 m) := (by have h_ := Sl.cells (F1.at 0 rfl) hz5.out 1 _ rfl; simpa [Nat.add_assoc] using h_)
 have ge9 : World.cell? _ ⟨x3, o4 + 2, none⟩ = some (.int .i64 m) := (by have h_ := Sl.cells (F1.at 0 rfl) hz5.out 2 _ rfl; simpa [Nat.add_assoc] using h_)
 go_wp2_with fail
 clear ge6 gl7 ge8 ge9
 replace F1 := F1.new 38 #[.int .i64 (-400), .int .i64 m, .int .i64 m] (n := w.heap.size) (by simp)
 refine (rwithin_y (n := -400) (lo := -400) (hi := 400) (by omega) _).mono ?_
 rintro e _ ⟨rfl, rfl⟩
 have Fn_ := F1
 (try dsimp only [List.eraseIdx_cons_succ, List.eraseIdx_cons_zero] at Fn_)
 obtain ⟨w11, hx12, F14, hxs13⟩ := Fn_.name
 (try simp at hxs13)
 rw [hx12]
 clear hx12 F1 Fn_
 have b15 := F14.bx3 0 rfl
 go_wp2_with fail
 clear b15
 go_quiet (fail)
 replace F14 := F14.drewN nq
 have Fn_ := F14
 (try dsimp only [List.eraseIdx_cons_succ, List.eraseIdx_cons_zero] at Fn_)
 obtain ⟨w17, hx18, F20, hxs19⟩ := Fn_.name
 (try simp at hxs19)
 rw [hx18]
 clear hx18 F14 Fn_
 have b21 := F20.bx3 0 rfl
 go_wp2_with fail
 clear b21
 refine (rfault_0 (a := m) (b := m) (lo := 0) (hi := 5000) (by omega) _).mono ?_
 rintro e w24 ⟨rfl, hg22⟩
 have hg22s := hg22.size
 (try simp at hg22s)
 replace F20 := F20.gn hg22
 clear hg22
 go_wp2_with fail
 go_quiet (fail)
 replace F20 := F20.drewN nq
 have Fn_ := (F20.drop 0 rfl)
 (try dsimp only [List.eraseIdx_cons_succ, List.eraseIdx_cons_zero] at Fn_)
 obtain ⟨w27, hx28, F30, hxs29⟩ := Fn_.name
 (try simp at hxs29)
 rw [hx28]
 clear hx28 F20 Fn_
 go_wp2_with fail
 rw [rounds_succ]
 go_wp2_with fail
 go_ret
 exact ⟨rfl, F30.gb⟩
set_option maxHeartbeats 16000000 in
theorem rcheck_c (vp vq vw vc : Value) (n : Nat) (ls : List Lg) (p : Pst) (m : Int) (w : World) (hr : RscAt w vp vq vw vc n ls p m) (hk : RscOk n ls p m) :
  Calls Try.prog 15 #[.agg #[.int .i64 (n : Int), vp, vq, vw, vc]] w (Ret (.int .i64 0) w) := by
 have F1 : Bun w [] w := Bun.nil _
 obtain ⟨⟨lo1, hi1, hl1, hh1⟩, ⟨lo2, hi2, hl2, hh2⟩, ⟨lo3, hi3, hl3, hh3⟩, ⟨lo4, hi4, hl4, hh4⟩⟩ := hr
 have hm_ps := hl1.len
 unfold maxLen at hm_ps
 obtain ⟨a1_, c1_, rfl⟩ := hl1.any
 replace F1 := F1.sl0 hl1 hh1 rfl
 clear hl1
 have hm_po := hl2.len
 unfold maxLen at hm_po
 obtain ⟨a2_, c2_, rfl⟩ := hl2.any
 replace F1 := F1.sl0 hl2 hh2 rfl
 clear hl2
 have hm_wa := hl3.len
 unfold maxLen at hm_wa
 obtain ⟨a3_, c3_, rfl⟩ := hl3.any
 replace F1 := F1.sl0 hl3 hh3 rfl
 clear hl3
 have hm_ch := hl4.len
 unfold maxLen at hm_ch
 obtain ⟨a4_, c4_, rfl⟩ := hl4.any
 replace F1 := F1.sl0 hl4 hh4 rfl
 clear hl4
 rw [show (ws0 n).length = n from List.length_replicate] at F1 hm_wa
 obtain ⟨x6, o7, e_⟩ := Sl.addr (F1.at 2 rfl : Sl poEnc 7 lo2 hi2 _ (.slice a2_ [p].length c2_) [p]) Nat.zero_lt_one
 subst e_
 have hz8 : Hid ([p][0]? = some p) := lhd (rfl)
 obtain ⟨x9, o10, e_⟩ := Sl.addr (F1.at 0 rfl : Sl chEnc 3 lo4 hi4 _ (.slice a4_ [m].length c4_) [m]) Nat.zero_lt_one
 subst e_
 have hz11 : Hid ([m][0]? = some m) := lhd (rfl)
 have HRK := lhd hk
 have hnk_ := hk.nn
 have hlk_ := hk.len
 have hsk_ := hk.spot
 have hrk_ := hk.rdy
 have hmk_ := hk.mm
 clear hk
 have kn12 : ¬ (120 < (ls.length : Int)) := (by omega)
 have kn12H := lhd kn12
 have kn12a : decide (120 < (ls.length : Int)) = false := dec_f kn12
 go_enter Try.func15, Try.ntmps15
 go_wp2_with fail
 replace F1 := F1.new 42 #[.int .i64 (n : Int), .slice a1_ ls.length c1_, .slice (some ⟨x6, o7, none⟩) 1 c2_, .slice a3_ n c3_, .slice (some ⟨x9, o10, none⟩) 1 c4_] (n := w.heap.size) (by simp)
 refine (rwithin_y (n := (n : Int)) (lo := 1) (hi := 40) (by omega) _).mono ?_
 rintro e _ ⟨rfl, rfl⟩
 have Fn_ := F1
 (try dsimp only [List.eraseIdx_cons_succ, List.eraseIdx_cons_zero] at Fn_)
 obtain ⟨w14, hx15, F17, hxs16⟩ := Fn_.name
 (try simp at hxs16)
 rw [hx15]
 clear hx15 F1 Fn_
 have b18 := F17.bx5 0 rfl
 go_wp2_with fail
 clear b18
 obtain ⟨HI19_, HI190⟩ : ∃ I : RelT, I = (fun t ds wr => ∃ (k : Nat), t 1 = .pointer (some ⟨w.heap.size, 0, none⟩) /\ t 21 = .slice a1_ ls.length c1_ /\ t 22 = .int .i64 (ls.length : Int) /\ t 23 = .int .i64 (k : Int) /\ k <= ls.length /\ ds = [] /\ w14.heap.size <= wr.heap.size /\ Bun w [rbox w.heap.size 42 #[.int .i64 (n : Int), .slice a1_ ls.length c1_, .slice (some ⟨x6, o7, none⟩) 1 c2_, .slice a3_ n c3_, .slice (some ⟨x9, o10, none⟩) 1 c4_], rsl chEnc 3 lo4 hi4 (.slice (some ⟨x9, o10, none⟩) 1 c4_) [m], rsl spEnc 2 lo3 hi3 (.slice a3_ n c3_) (ws0 n), rsl poEnc 7 lo2 hi2 (.slice (some ⟨x6, o7, none⟩) 1 c2_) [p], rsl ptEnc 5 lo1 hi1 (.slice a1_ ls.length c1_) ls] wr) := ⟨_, rfl⟩
 have HI19 := lhd HI190
 clear HI190
 refine wp_loopS 63 rfl HI19_ (fun t wr => ls.length - (intOf (t 23)).toNat) ?atStart2 ?round2
 case round2 =>
  intro t ds wr hHid
  rw [HI19.out] at hHid
  obtain ⟨k, e1, e21, e22, e23, hrel⟩ := hHid
  have e : ((List.range 63).map t).toArray = #[t 0, t 1, t 2, t 3, t 4, t 5, t 6, t 7, t 8, t 9, t 10, t 11, t 12, t 13, t 14, t 15, t 16, t 17, t 18, t 19, t 20, t 21, t 22, t 23, t 24, t 25, t 26, t 27, t 28, t 29, t 30, t 31, t 32, t 33, t 34, t 35, t 36, t 37, t 38, t 39, t 40, t 41, t 42, t 43, t 44, t 45, t 46, t 47, t 48, t 49, t 50, t 51, t 52, t 53, t 54, t 55, t 56, t 57, t 58, t 59, t 60, t 61, t 62] := rfl
  (try dsimp only at e)
  rw [e1, e21, e22, e23] at e
  rw [e]
  simp only [e23]
  clear e e1 e21 e22 e23
  obtain ⟨hk, rfl, hs21, hF20⟩ := hrel
  clear F17
  obtain ⟨w22, rfl⟩ : ∃ x_ : World, x_ = wr := ⟨_, rfl⟩
  by_cases c23 : (k : Int) < (ls.length : Int)
  ·
   have c23H := lhd c23
   obtain ⟨x24, o25, e_⟩ := Sl.addr (hF20.at 4 rfl : Sl ptEnc 5 lo1 hi1 _ (.slice a1_ ls.length c1_) ls) (by omega)
   subst e_
   obtain ⟨z, hz26_⟩ : ∃ z_, ls[k]? = some z_ := ⟨_, List.getElem?_eq_getElem (by omega)⟩
   have hz26 := lhd hz26_
   clear hz26_
   have HZK := lhd (HRK.out.lg z (List.mem_of_getElem? hz26.out))
   have hzl := HRK.out.long z (List.mem_of_getElem? hz26.out)
   have b27 := hF20.bx5 0 rfl
   have ge28 : World.cell? _ ⟨x24, o25 + k * 5, none⟩ = some (.int .i64 z.a) := (Sl.cells (hF20.at 4 rfl) hz26.out 0 _ rfl)
   have gl29 := cell_lt ge28
   have ge30 : World.cell? _ ⟨x24, o25 + k * 5 + 1, none⟩ = some (.int .i64 z.b) := (Sl.cells (hF20.at 4 rfl) hz26.out 1 _ rfl)
   have ge31 : World.cell? _ ⟨x24, o25 + k * 5 + 2, none⟩ = some (.int .i64 z.long) := (Sl.cells (hF20.at 4 rfl) hz26.out 2 _ rfl)
   have ge32 : World.cell? _ ⟨x24, o25 + k * 5 + 3, none⟩ = some (.int .i64 z.long) := (Sl.cells (hF20.at 4 rfl) hz26.out 3 _ rfl)
   have ge33 : World.cell? _ ⟨x24, o25 + k * 5 + 4, none⟩ = some (.int .i64 z.op) := (Sl.cells (hF20.at 4 rfl) hz26.out 4 _ rfl)
   go_wp2_with fail
   clear b27 ge28 gl29 ge30 ge31 ge32 ge33
   have F34 := hF20.new 46 #[.int .i64 z.a, .int .i64 z.b, .int .i64 z.long, .int .i64 z.long, .int .i64 z.op] (n := w22.heap.size) (by simp)
   clear hF20
   refine (rpath_c n _ _ _ _ z _ hnk_.2 HZK.out hzl).mono ?_
   rintro e w37 ⟨rfl, hg35⟩
   have hg35s := hg35.size
   (try simp at hg35s)
   replace F34 := F34.gn hg35
   clear hg35
   go_wp2_with fail
   have F39 : Bun w [rbox w.heap.size 42 #[.int .i64 (n : Int), .slice (some ⟨x24, o25, none⟩) ls.length c1_, .slice (some ⟨x6, o7, none⟩) 1 c2_, .slice a3_ n c3_, .slice (some ⟨x9, o10, none⟩) 1 c4_], rsl chEnc 3 lo4 hi4 (.slice (some ⟨x9, o10, none⟩) 1 c4_) [m], rsl spEnc 2 lo3 hi3 (.slice a3_ n c3_) (ws0 n), rsl poEnc 7 lo2 hi2 (.slice (some ⟨x6, o7, none⟩) 1 c2_) [p], rsl ptEnc 5 lo1 hi1 (.slice (some ⟨x24, o25, none⟩) ls.length c1_) ls] _ := F34.pick [1, 2, 3, 4, 5] (by decide) rfl
   clear F34
   (first | refine ⟨by kernel_rfl, ?_, ?_⟩ | refine ⟨rfl, ?_, ?_⟩ | refine ⟨?_, ?_⟩)
   · rw [HI19.out]; exact ⟨k + 1, (by kernel_rfl), (by kernel_rfl), (by kernel_rfl), (by show Value.int .i64 ((k : Int) + 1) = _; simp), (by omega), (by first | rfl | simp), (by first | omega | (simp; done) | (simp; omega)), F39⟩
   · simp [slot, intOf]; omega
  have c23H := lhd c23
  have c23a : decide ((k : Int) < (ls.length : Int)) = false := dec_f c23
  have b40 := hF20.bx5 0 rfl
  go_wp2_with fail
  clear b40
  refine wp_loop_rounds 2 ?_
  rw [rounds_succ]
  have b41 := hF20.bx5 0 rfl
  have ge42 : World.cell? _ ⟨x6, o7, none⟩ = some (.int .i64 p.spot) := (by have h_ := Sl.cells (hF20.at 3 rfl) hz8.out 0 _ rfl; simpa [Nat.add_assoc] using h_)
  have gl43 := cell_lt ge42
  have ge44 : World.cell? _ ⟨x6, o7 + 1, none⟩ = some (.int .i64 p.lo) := (by have h_ := Sl.cells (hF20.at 3 rfl) hz8.out 1 _ rfl; simpa [Nat.add_assoc] using h_)
  have ge45 : World.cell? _ ⟨x6, o7 + 2, none⟩ = some (.int .i64 p.hi) := (by have h_ := Sl.cells (hF20.at 3 rfl) hz8.out 2 _ rfl; simpa [Nat.add_assoc] using h_)
  have ge46 : World.cell? _ ⟨x6, o7 + 3, none⟩ = some (.int .i64 0) := (by have h_ := Sl.cells (hF20.at 3 rfl) hz8.out 3 _ rfl; simpa [Nat.add_assoc] using h_)
  have ge47 : World.cell? _ ⟨x6, o7 + 4, none⟩ = some (.int .i64 0) := (by have h_ := Sl.cells (hF20.at 3 rfl) hz8.out 4 _ rfl; simpa [Nat.add_assoc] using h_)
  have ge48 : World.cell? _ ⟨x6, o7 + 5, none⟩ = some (.int .i64 0) := (by have h_ := Sl.cells (hF20.at 3 rfl) hz8.out 5 _ rfl; simpa [Nat.add_assoc] using h_)
  have ge49 : World.cell? _ ⟨x6, o7 + 6, none⟩ = some (.slice none 0 0) := (by have h_ := Sl.cells (hF20.at 3 rfl) hz8.out 6 _ rfl; simpa [Nat.add_assoc] using h_)
  go_wp2_with fail
  clear b41 ge42 gl43 ge44 ge45 ge46 ge47 ge48 ge49
  have F50 := hF20.new 35 #[.int .i64 p.spot, .int .i64 p.lo, .int .i64 p.hi, .int .i64 0, .int .i64 0, .int .i64 0, .slice none 0 0] (n := w22.heap.size) (by simp)
  clear hF20
  refine (rpost_c n _ _ _ _ p _ hnk_.2 hsk_ hrk_).mono ?_
  rintro e w53 ⟨rfl, hg51⟩
  have hg51s := hg51.size
  (try simp at hg51s)
  replace F50 := F50.gn hg51
  clear hg51
  go_wp2_with fail
  rw [rounds_succ]
  have b55 := F50.bx5 1 rfl
  go_wp2_with fail
  clear b55
  refine (rfaults_c _ _ _ (ws0 n) n (-400) 400 _ (by simp) (fun s h => by obtain ⟨_, rfl⟩ := List.mem_replicate.1 h; decide) (F50.at 3 rfl : Sl spEnc 2 lo3 hi3 _ (.slice a3_ n c3_) (ws0 n)) (Nat.le_trans hh3 F50.gb.size)).mono ?_
  rintro e w58 ⟨rfl, hg56⟩
  have hg56s := hg56.size
  (try simp at hg56s)
  replace F50 := F50.gn hg56
  clear hg56
  have b60 := F50.bx5 1 rfl
  go_wp2_with fail
  clear b60
  refine (rchills_c _ _ _ m _ hmk_ (F50.at 2 rfl : Sl chEnc 3 lo4 hi4 _ (.slice (some ⟨x9, o10, none⟩) 1 c4_) [m]) (Nat.le_trans hh4 F50.gb.size)).mono ?_
  rintro e w63 ⟨rfl, hg61⟩
  have hg61s := hg61.size
  (try simp at hg61s)
  replace F50 := F50.gn hg61
  clear hg61
  go_wp2_with fail
  go_ret
  exact ⟨rfl, F50.gb⟩
 case atStart2 =>
  rw [HI19.out]
  exact ⟨0, (by kernel_rfl), (by kernel_rfl), (by kernel_rfl), rfl, Nat.zero_le _, rfl, (by first | exact Nat.le_refl _ | omega | (simp; done) | (simp; omega)), F17⟩
theorem endsOf_c (a b : Int) (w : World)  :
  Calls Try.prog 34 #[.agg #[.int .i64 a, .int .i64 b]] w (Ret (.agg #[.int .i64 a, .int .i64 b]) w) := by
 have F1 : Bun w [] w := Bun.nil _
 go_enter Try.func34, Try.ntmps34
 go_wp2_with fail
 replace F1 := F1.new 31 #[.int .i64 a, .int .i64 b] (n := w.heap.size) (by simp)
 replace F1 := F1.new 84 #[.int .i64 a, .int .i64 b] (n := (w.heap.size + 1)) (by simp)
 have kb4 := F1.bx2 0 rfl
 go_wp2_with fail
 exact bodyPost_ret (v := .agg #[.int .i64 a, .int .i64 b]) (by simp [results, Try.results34, go_sem, kb4]) rfl (⟨rfl, F1.gb⟩)
theorem span_c (a b : Int) (w : World)  :
  Calls Try.prog 36 #[.agg #[.int .i64 a, .int .i64 b]] w (Ret (.agg #[.int .i64 a, .int .i64 b]) w) := by
 have F1 : Bun w [] w := Bun.nil _
 go_enter Try.func36, Try.ntmps36
 go_wp2_with fail
 replace F1 := F1.new 84 #[.int .i64 a, .int .i64 b] (n := w.heap.size) (by simp)
 replace F1 := F1.new 31 #[.int .i64 a, .int .i64 b] (n := (w.heap.size + 1)) (by simp)
 have kb4 := F1.bx2 0 rfl
 go_wp2_with fail
 exact bodyPost_ret (v := .agg #[.int .i64 a, .int .i64 b]) (by simp [results, Try.results36, go_sem, kb4]) rfl (⟨rfl, F1.gb⟩)
theorem mayP_c (x : Int) (w : World)  :
  Calls Try.prog 35 #[.int .i64 0, .int .i64 x] w (Ret (.bool (!decide (x = 2))) w) := by
 have F1 : Bun w [] w := Bun.nil _
 go_enter Try.func35, Try.ntmps35
 have Hx2 := lhd (show ((!decide (x = 2) : Bool)) = (x != 2) by by_cases hv : x = 2 <;> simp [hv])
 go_wp2_with fail
 go_ret
 exact ⟨by rw [Hx2.out] <;> rfl, F1.gb⟩
theorem mayS_c (x : Int) (w : World)  :
  Calls Try.prog 35 #[.int .i64 1, .int .i64 x] w (Ret (.bool (decide (x = 1))) w) := by
 have F1 : Bun w [] w := Bun.nil _
 go_enter Try.func35, Try.ntmps35
 have Hx2 := lhd (show ((decide (x = 1) : Bool)) = (x == 1) by by_cases hv : x = 1 <;> simp [hv])
 go_wp2_with fail
 go_ret
 exact ⟨by rw [Hx2.out] <;> rfl, F1.gb⟩
end Go.Proofs.Ytlefmbjipdlcfaa
