/- frost and its reference: the errors of laws, ice and days. -/
import Derived.Test.YtokelpmngahnoaaUF1
set_option linter.unusedVariables false
set_option linter.unusedSimpArgs false
set_option linter.unnecessarySimpa false
namespace Go.Proofs.Ytokelpmngahnoaa
open Go.RowKit
set_option maxRecDepth 100000
structure Wea where
 cold : Sp
 fall : Sp
 water : Int
 clear : Bool
def weaEnc (d : Wea) : List Value := [.int .i64 d.cold.lo, .int .i64 d.cold.hi, .int .i64 d.fall.lo, .int .i64 d.fall.hi, .int .i64 d.water, .bool d.clear]
def weaErr (d : Wea) : Int := if ¬ spanErr d.cold.lo d.cold.hi (-1000) 1000 = 0 then spanErr d.cold.lo d.cold.hi (-1000) 1000 else if ¬ spanErr d.fall.lo d.fall.hi 0 1000 = 0 then spanErr d.fall.lo d.fall.hi 0 1000 else
 if d.water < 0 ∨ 200 < d.water then 2 else 0
def daysErr : List Wea -> Int
 | [] => 0
 | d :: ds => if ¬ weaErr d = 0 then weaErr d else daysErr ds
def daysE (l : List Wea) : Int := if 400 < l.length then 8 else daysErr l
set_option maxHeartbeats 4000000 in
theorem checkDays_c (lo hi : Nat) (v : Value) (l : List Wea) (w : World) (hl : Sl weaEnc 6 lo hi w v l) (h2 : hi <= w.heap.size) :
  Calls Try.prog 118 #[v] w (Ret (.int .i64 (daysE l)) w) := by
 have F1 : Bun w [] w := Bun.nil _
 have hm_ds := hl.len
 unfold maxLen at hm_ds
 obtain ⟨a, c, rfl⟩ := hl.any
 replace F1 := F1.sl0 hl h2 rfl
 clear hl
 go_enter Try.func118, Try.ntmps118
 by_cases c3 : 400 < (l.length : Int)
 ·
  have c3H := lhd c3
  have Hx4 := lhd (show ((daysE l : Int)) = 8 by unfold daysE; rw [if_pos (by omega)])
  go_wp2_with fail
  go_ret
  exact ⟨by rw [Hx4.out] <;> rfl, F1.gb⟩
 have c3H := lhd c3
 have c3a : decide (400 < (l.length : Int)) = false := dec_f c3
 go_wp2_with fail
 have H0 : Hid (daysE l = daysErr l) := lhd (by unfold daysE; rw [if_neg (by omega)])
 obtain ⟨HI5_, HI50⟩ : ∃ I : RelT, I = (fun t ds wr => ∃ (k : Nat), t 10 = .slice a l.length c /\ t 11 = .int .i64 (l.length : Int) /\ t 12 = .int .i64 (k : Int) /\ k <= l.length /\ daysE l = daysErr (l.drop k) /\ ds = [] /\ w.heap.size <= wr.heap.size /\ Bun w [rsl weaEnc 6 lo hi (.slice a l.length c) l] wr) := ⟨_, rfl⟩
 have HI5 := lhd HI50
 clear HI50
 refine wp_loopS 37 rfl HI5_ (fun t wr => l.length - (intOf (t 12)).toNat) ?atStart1 ?round1
 case round1 =>
  intro t ds wr hHid
  rw [HI5.out] at hHid
  obtain ⟨k, e10, e11, e12, hrel⟩ := hHid
  have e : ((List.range 37).map t).toArray = #[t 0, t 1, t 2, t 3, t 4, t 5, t 6, t 7, t 8, t 9, t 10, t 11, t 12, t 13, t 14, t 15, t 16, t 17, t 18, t 19, t 20, t 21, t 22, t 23, t 24, t 25, t 26, t 27, t 28, t 29, t 30, t 31, t 32, t 33, t 34, t 35, t 36] := rfl
  (try dsimp only at e)
  rw [e10, e11, e12] at e
  rw [e]
  simp only [e12]
  clear e e10 e11 e12
  obtain ⟨hk, hR, rfl, hs7, hF6⟩ := hrel
  clear F1
  obtain ⟨w8, rfl⟩ : ∃ x_ : World, x_ = wr := ⟨_, rfl⟩
  have HR := lhd hR
  clear hR
  by_cases c9 : (k : Int) < (l.length : Int)
  ·
   have c9H := lhd c9
   obtain ⟨x10, o11, e_⟩ := Sl.addr (hF6.at 0 rfl : Sl weaEnc 6 lo hi _ (.slice a l.length c) l) (by omega)
   subst e_
   obtain ⟨z, hz12_⟩ : ∃ z_, l[k]? = some z_ := ⟨_, List.getElem?_eq_getElem (by omega)⟩
   have hz12 := lhd hz12_
   clear hz12_
   have HZ : Hid (daysE l = daysErr (z :: l.drop (k + 1))) := lhd (by rw [HR.out, drop_cons hz12.out])
   have ge13 : World.cell? _ ⟨x10, o11 + k * 6, none⟩ = some (.int .i64 z.cold.lo) := (Sl.cells (hF6.at 0 rfl) hz12.out 0 _ rfl)
   have gl14 := cell_lt ge13
   have ge15 : World.cell? _ ⟨x10, o11 + k * 6 + 1, none⟩ = some (.int .i64 z.cold.hi) := (Sl.cells (hF6.at 0 rfl) hz12.out 1 _ rfl)
   have ge16 : World.cell? _ ⟨x10, o11 + k * 6 + 2, none⟩ = some (.int .i64 z.fall.lo) := (Sl.cells (hF6.at 0 rfl) hz12.out 2 _ rfl)
   have ge17 : World.cell? _ ⟨x10, o11 + k * 6 + 3, none⟩ = some (.int .i64 z.fall.hi) := (Sl.cells (hF6.at 0 rfl) hz12.out 3 _ rfl)
   have ge18 : World.cell? _ ⟨x10, o11 + k * 6 + 4, none⟩ = some (.int .i64 z.water) := (Sl.cells (hF6.at 0 rfl) hz12.out 4 _ rfl)
   have ge19 : World.cell? _ ⟨x10, o11 + k * 6 + 5, none⟩ = some (.bool z.clear) := (Sl.cells (hF6.at 0 rfl) hz12.out 5 _ rfl)
   go_wp2_with fail
   clear ge13 gl14 ge15 ge16 ge17 ge18 ge19
   have F20 := hF6.new 108 #[.int .i64 z.cold.lo, .int .i64 z.cold.hi, .int .i64 z.fall.lo, .int .i64 z.fall.hi, .int .i64 z.water, .bool z.clear] (n := w8.heap.size) (by simp)
   clear hF6
   refine (fault_c _ _ _ _ _).mono ?_
   rintro e w23 ⟨rfl, hg21⟩
   have hg21s := hg21.size
   (try simp at hg21s)
   replace F20 := F20.gn hg21
   clear hg21
   by_cases c25 : spanErr z.cold.lo z.cold.hi (-1000) 1000 = 0
   ·
    have c25a : ((spanErr z.cold.lo z.cold.hi (-1000) 1000) == 0) = true := beq_t c25
    have c25b : ((spanErr z.cold.lo z.cold.hi (-1000) 1000) != 0) = false := bne_f c25
    have c25H := lhd c25
    clear c25
    have b26 := F20.bx6 0 rfl
    go_wp2_with fail
    clear b26
    refine (fault_c _ _ _ _ _).mono ?_
    rintro e w29 ⟨rfl, hg27⟩
    have hg27s := hg27.size
    (try simp at hg27s)
    replace F20 := F20.gn hg27
    clear hg27
    by_cases c31 : spanErr z.fall.lo z.fall.hi 0 1000 = 0
    ·
     have c31a : ((spanErr z.fall.lo z.fall.hi 0 1000) == 0) = true := beq_t c31
     have c31b : ((spanErr z.fall.lo z.fall.hi 0 1000) != 0) = false := bne_f c31
     have c31H := lhd c31
     clear c31
     by_cases c32 : z.water < 0
     ·
      have c32H := lhd c32
      have Hx33 := lhd (show ((daysE l : Int)) = 2 by rw [HZ.out, daysErr]; simp [weaErr, c25H.out, c31H.out, c32H.out] <;> (repeat' split) <;> first | rfl | (intros; exfalso; omega) | omega)
      have b34 := F20.bx6 0 rfl
      go_wp2_with fail
      clear b34
      go_ret
      exact ⟨by rw [Hx33.out] <;> rfl, F20.gb⟩
     have c32H := lhd c32
     have c32a : decide (z.water < 0) = false := dec_f c32
     by_cases c35 : 200 < z.water
     ·
      have c35H := lhd c35
      have Hx36 := lhd (show ((daysE l : Int)) = 2 by rw [HZ.out, daysErr]; simp [weaErr, c25H.out, c31H.out, c32H.out, c35H.out] <;> (repeat' split) <;> first | rfl | (intros; exfalso; omega) | omega)
      have b37 := F20.bx6 0 rfl
      go_wp2_with fail
      clear b37
      go_ret
      exact ⟨by rw [Hx36.out] <;> rfl, F20.gb⟩
     have c35H := lhd c35
     have c35a : decide (200 < z.water) = false := dec_f c35
     have b38 := F20.bx6 0 rfl
     go_wp2_with fail
     clear b38
     have F39 : Bun w [rsl weaEnc 6 lo hi (.slice (some ⟨x10, o11, none⟩) l.length c) l] _ := F20.pick [1] (by decide) rfl
     clear F20
     (first | refine ⟨rfl, ?_, ?_⟩ | refine ⟨?_, ?_⟩)
     · rw [HI5.out]; exact ⟨k + 1, rfl, rfl, (by show Value.int .i64 ((k : Int) + 1) = _; simp), (by omega), (by rw [HZ.out, daysErr]; simp [weaErr, c25H.out, c31H.out, c32H.out, c35H.out] <;> (repeat' split) <;> first | rfl | (intros; exfalso; omega) | omega), (by first | rfl | simp), (by first | omega | (simp; done) | (simp; omega)), F39⟩
     · simp [slot, intOf]; omega
    have c31a : ((spanErr z.fall.lo z.fall.hi 0 1000) == 0) = false := beq_f c31
    have c31b : ((spanErr z.fall.lo z.fall.hi 0 1000) != 0) = true := bne_t c31
    have c31H := lhd c31
    clear c31
    have Hx40 := lhd (show ((daysE l : Int)) = spanErr z.fall.lo z.fall.hi 0 1000 by rw [HZ.out, daysErr]; simp [weaErr, c25H.out, c31H.out] <;> (repeat' split) <;> first | rfl | (intros; exfalso; omega) | omega)
    go_wp2_with fail
    go_ret
    exact ⟨by rw [Hx40.out] <;> rfl, F20.gb⟩
   have c25a : ((spanErr z.cold.lo z.cold.hi (-1000) 1000) == 0) = false := beq_f c25
   have c25b : ((spanErr z.cold.lo z.cold.hi (-1000) 1000) != 0) = true := bne_t c25
   have c25H := lhd c25
   clear c25
   have Hx41 := lhd (show ((daysE l : Int)) = spanErr z.cold.lo z.cold.hi (-1000) 1000 by rw [HZ.out, daysErr]; simp [weaErr, c25H.out] <;> (repeat' split) <;> first | rfl | (intros; exfalso; omega) | omega)
   go_wp2_with fail
   go_ret
   exact ⟨by rw [Hx41.out] <;> rfl, F20.gb⟩
  have c9H := lhd c9
  have c9a : decide ((k : Int) < (l.length : Int)) = false := dec_f c9
  have HE : Hid (daysE l = 0) := lhd (by rw [HR.out, List.drop_eq_nil_of_le (by omega)]; simp [daysErr])
  have Hx42 := lhd (show ((daysE l : Int)) = 0 by exact HE.out)
  go_wp2_with fail
  go_ret
  exact ⟨by rw [Hx42.out] <;> rfl, hF6.gb⟩
 case atStart1 =>
  rw [HI5.out]
  exact ⟨0, rfl, rfl, rfl, Nat.zero_le _, H0.out, rfl, (by first | exact Nat.le_refl _ | omega | (simp; done) | (simp; omega)), F1⟩
set_option maxHeartbeats 4000000 in
theorem rcheckDays_c (lo hi : Nat) (v : Value) (l : List Wea) (w : World) (hl : Sl weaEnc 6 lo hi w v l) (h2 : hi <= w.heap.size) :
  Calls Try.prog 120 #[v] w (Ret (.int .i64 (daysE l)) w) := by
 have F1 : Bun w [] w := Bun.nil _
 have hm_ds := hl.len
 unfold maxLen at hm_ds
 obtain ⟨a, c, rfl⟩ := hl.any
 replace F1 := F1.sl0 hl h2 rfl
 clear hl
 go_enter Try.func120, Try.ntmps120
 by_cases c3 : 400 < (l.length : Int)
 ·
  have c3H := lhd c3
  have Hx4 := lhd (show ((daysE l : Int)) = 8 by unfold daysE; rw [if_pos (by omega)])
  go_wp2_with fail
  go_ret
  exact ⟨by rw [Hx4.out] <;> rfl, F1.gb⟩
 have c3H := lhd c3
 have c3a : decide (400 < (l.length : Int)) = false := dec_f c3
 go_wp2_with fail
 have H0 : Hid (daysE l = daysErr l) := lhd (by unfold daysE; rw [if_neg (by omega)])
 obtain ⟨HI5_, HI50⟩ : ∃ I : RelT, I = (fun t ds wr => ∃ (k : Nat), t 0 = .slice a l.length c /\ t 3 = .int .i64 (k : Int) /\ k <= l.length /\ daysE l = daysErr (l.drop k) /\ ds = [] /\ w.heap.size <= wr.heap.size /\ Bun w [rsl weaEnc 6 lo hi (.slice a l.length c) l] wr) := ⟨_, rfl⟩
 have HI5 := lhd HI50
 clear HI50
 refine wp_loopS 39 rfl HI5_ (fun t wr => l.length - (intOf (t 3)).toNat) ?atStart2 ?round2
 case round2 =>
  intro t ds wr hHid
  rw [HI5.out] at hHid
  obtain ⟨k, e0, e3, hrel⟩ := hHid
  have e : ((List.range 39).map t).toArray = #[t 0, t 1, t 2, t 3, t 4, t 5, t 6, t 7, t 8, t 9, t 10, t 11, t 12, t 13, t 14, t 15, t 16, t 17, t 18, t 19, t 20, t 21, t 22, t 23, t 24, t 25, t 26, t 27, t 28, t 29, t 30, t 31, t 32, t 33, t 34, t 35, t 36, t 37, t 38] := rfl
  (try dsimp only at e)
  rw [e0, e3] at e
  rw [e]
  simp only [e3]
  clear e e0 e3
  obtain ⟨hk, hR, rfl, hs7, hF6⟩ := hrel
  clear F1
  obtain ⟨w8, rfl⟩ : ∃ x_ : World, x_ = wr := ⟨_, rfl⟩
  have HR := lhd hR
  clear hR
  by_cases c9 : (k : Int) < (l.length : Int)
  ·
   have c9H := lhd c9
   obtain ⟨x10, o11, e_⟩ := Sl.addr (hF6.at 0 rfl : Sl weaEnc 6 lo hi _ (.slice a l.length c) l) (by omega)
   subst e_
   obtain ⟨z, hz12_⟩ : ∃ z_, l[k]? = some z_ := ⟨_, List.getElem?_eq_getElem (by omega)⟩
   have hz12 := lhd hz12_
   clear hz12_
   have HZ : Hid (daysE l = daysErr (z :: l.drop (k + 1))) := lhd (by rw [HR.out, drop_cons hz12.out])
   have ge13 : World.cell? _ ⟨x10, o11 + k * 6, none⟩ = some (.int .i64 z.cold.lo) := (Sl.cells (hF6.at 0 rfl) hz12.out 0 _ rfl)
   have gl14 := cell_lt ge13
   have ge15 : World.cell? _ ⟨x10, o11 + k * 6 + 1, none⟩ = some (.int .i64 z.cold.hi) := (Sl.cells (hF6.at 0 rfl) hz12.out 1 _ rfl)
   go_wp2_with fail
   clear ge13 gl14 ge15
   refine (rcheckSpan_c _ _ _ _ _).mono ?_
   rintro e w18 ⟨rfl, hg16⟩
   have hg16s := hg16.size
   (try simp at hg16s)
   have F19 := hF6.gn hg16
   clear hF6
   clear hg16
   by_cases c20 : spanErr z.cold.lo z.cold.hi (-1000) 1000 = 0
   ·
    have c20a : ((spanErr z.cold.lo z.cold.hi (-1000) 1000) == 0) = true := beq_t c20
    have c20b : ((spanErr z.cold.lo z.cold.hi (-1000) 1000) != 0) = false := bne_f c20
    have c20H := lhd c20
    clear c20
    have ge21 : World.cell? _ ⟨x10, o11 + k * 6 + 2, none⟩ = some (.int .i64 z.fall.lo) := (Sl.cells (F19.at 0 rfl) hz12.out 2 _ rfl)
    have gl22 := cell_lt ge21
    have ge23 : World.cell? _ ⟨x10, o11 + k * 6 + 2 + 1, none⟩ = some (.int .i64 z.fall.hi) := (Sl.cells (F19.at 0 rfl) hz12.out 3 _ rfl)
    go_wp2_with fail
    clear ge21 gl22 ge23
    refine (rcheckSpan_c _ _ _ _ _).mono ?_
    rintro e w26 ⟨rfl, hg24⟩
    have hg24s := hg24.size
    (try simp at hg24s)
    replace F19 := F19.gn hg24
    clear hg24
    by_cases c28 : spanErr z.fall.lo z.fall.hi 0 1000 = 0
    ·
     have c28a : ((spanErr z.fall.lo z.fall.hi 0 1000) == 0) = true := beq_t c28
     have c28b : ((spanErr z.fall.lo z.fall.hi 0 1000) != 0) = false := bne_f c28
     have c28H := lhd c28
     clear c28
     have ge29 : World.cell? _ ⟨x10, o11 + k * 6 + 4, none⟩ = some (.int .i64 z.water) := (Sl.cells (F19.at 0 rfl) hz12.out 4 _ rfl)
     have gl30 := cell_lt ge29
     go_wp2_with fail
     clear ge29 gl30
     refine (outside_c _ _ _ _).mono ?_
     rintro e _ ⟨rfl, rfl⟩
     cases c31 : outB z.water 0 200
     ·
      have c31o := outB_f c31
      have c31H := lhd c31o
      go_wp2_with fail
      (first | refine ⟨rfl, ?_, ?_⟩ | refine ⟨?_, ?_⟩)
      · rw [HI5.out]; exact ⟨k + 1, rfl, (by show Value.int .i64 ((k : Int) + 1) = _; simp), (by omega), (by rw [HZ.out, daysErr]; simp [weaErr, c20H.out, c28H.out, c31H.out] <;> (repeat' split) <;> first | rfl | (intros; exfalso; omega) | omega), (by first | rfl | simp), (by first | omega | (simp; done) | (simp; omega)), F19⟩
      · simp [slot, intOf]; omega
     have c31o := outB_t c31
     have c31H := lhd c31o
     have Hx32 := lhd (show ((daysE l : Int)) = 2 by rw [HZ.out, daysErr]; simp [weaErr, c20H.out, c28H.out, c31H.out] <;> (repeat' split) <;> first | rfl | (intros; exfalso; omega) | omega)
     go_wp2_with fail
     go_ret
     exact ⟨by rw [Hx32.out] <;> rfl, F19.gb⟩
    have c28a : ((spanErr z.fall.lo z.fall.hi 0 1000) == 0) = false := beq_f c28
    have c28b : ((spanErr z.fall.lo z.fall.hi 0 1000) != 0) = true := bne_t c28
    have c28H := lhd c28
    clear c28
    have Hx33 := lhd (show ((daysE l : Int)) = spanErr z.fall.lo z.fall.hi 0 1000 by rw [HZ.out, daysErr]; simp [weaErr, c20H.out, c28H.out] <;> (repeat' split) <;> first | rfl | (intros; exfalso; omega) | omega)
    go_wp2_with fail
    go_ret
    exact ⟨by rw [Hx33.out] <;> rfl, F19.gb⟩
   have c20a : ((spanErr z.cold.lo z.cold.hi (-1000) 1000) == 0) = false := beq_f c20
   have c20b : ((spanErr z.cold.lo z.cold.hi (-1000) 1000) != 0) = true := bne_t c20
   have c20H := lhd c20
   clear c20
   have Hx34 := lhd (show ((daysE l : Int)) = spanErr z.cold.lo z.cold.hi (-1000) 1000 by rw [HZ.out, daysErr]; simp [weaErr, c20H.out] <;> (repeat' split) <;> first | rfl | (intros; exfalso; omega) | omega)
   go_wp2_with fail
   go_ret
   exact ⟨by rw [Hx34.out] <;> rfl, F19.gb⟩
  have c9H := lhd c9
  have c9a : decide ((k : Int) < (l.length : Int)) = false := dec_f c9
  have HE : Hid (daysE l = 0) := lhd (by rw [HR.out, List.drop_eq_nil_of_le (by omega)]; simp [daysErr])
  have Hx35 := lhd (show ((daysE l : Int)) = 0 by exact HE.out)
  go_wp2_with fail
  go_ret
  exact ⟨by rw [Hx35.out] <;> rfl, hF6.gb⟩
 case atStart2 =>
  rw [HI5.out]
  exact ⟨0, rfl, rfl, Nat.zero_le _, H0.out, rfl, (by first | exact Nat.le_refl _ | omega | (simp; done) | (simp; omega)), F1⟩
end Go.Proofs.Ytokelpmngahnoaa
