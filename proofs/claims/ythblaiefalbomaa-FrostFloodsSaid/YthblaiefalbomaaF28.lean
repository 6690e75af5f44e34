/- frost: equal lists. -/
import Derived.Test.YthblaiefalbomaaF14
import Derived.Test.YthblaiefalbomaaK1
set_option linter.unusedVariables false
set_option linter.unusedSimpArgs false
set_option linter.unnecessarySimpa false
namespace Go.Proofs.Ythblaiefalbomaa
open Go.RowKit
set_option maxRecDepth 100000

set_option maxHeartbeats 8000000 in
theorem sameIce_c (lo hi lo2 hi2 : Nat) (va vb : Value) (l : List Ice) (w : World) (hl : Sl iceEnc 8 lo hi w va l) (h2 : hi ≤ w.heap.size) (hl2 : Sl iceEnc 8 lo2 hi2 w vb l) (h22 : hi2 ≤ w.heap.size) :
    Calls Try.prog 28 #[va, vb] w (Ret (.bool true) w) := by
  have F1 : Bun w [] w := Bun.nil _
  have hm_as := hl.len
  unfold maxLen at hm_as
  obtain ⟨aa, ac, rfl⟩ := hl.any
  have F2 := F1.sl0 hl h2 rfl
  clear F1
  clear hl
  have hm_bs := hl2.len
  unfold maxLen at hm_bs
  obtain ⟨ba, bc, rfl⟩ := hl2.any
  have F3 := F2.sl0 hl2 h22 rfl
  clear F2
  clear hl2
  go_enter Try.func28, Try.ntmps28
  go_wp2_with fail
  obtain ⟨HI4_, HI40⟩ : ∃ I : (Nat → Value) → List Deferred → World → Prop, I = (fun t ds wr => ∃ (k : Nat), t 0 = .slice aa l.length ac ∧ t 1 = .slice ba l.length bc ∧ t 5 = .int .i64 (k : Int) ∧ k ≤ l.length ∧ ds = [] ∧ w.heap.size ≤ wr.heap.size ∧ Bun w [rsl iceEnc 8 lo2 hi2 (.slice ba l.length bc) l, rsl iceEnc 8 lo hi (.slice aa l.length ac) l] wr) := ⟨_, rfl⟩
  have HI4 := Lib.hid HI40
  clear HI40
  refine wp_loopS 26 rfl HI4_ (fun t wr => l.length - (intOf (t 5)).toNat) ?atStart15 ?round15
  case round15 =>
    intro t ds wr hHid
    rw [HI4.out] at hHid
    obtain ⟨k, e0, e1, e5, hrel⟩ := hHid
    have e : ((List.range 26).map t).toArray = #[t 0, t 1, t 2, t 3, t 4, t 5, t 6, t 7, t 8, t 9, t 10, t 11, t 12, t 13, t 14, t 15, t 16, t 17, t 18, t 19, t 20, t 21, t 22, t 23, t 24, t 25] := rfl
    (try dsimp only at e)
    rw [e0, e1, e5] at e
    rw [e]
    simp only [e5]
    clear e e0 e1 e5
    obtain ⟨hk, rfl, hs6, hF5⟩ := hrel
    clear F3
    obtain ⟨w7, rfl⟩ : ∃ x_ : World, x_ = wr := ⟨_, rfl⟩
    by_cases c8 : (k : Int) < (l.length : Int)
    · skip
      have c8H := Lib.hid c8
      obtain ⟨x9, o10, e_⟩ := Sl.addr (hF5.at 1 rfl : Sl iceEnc 8 lo hi _ (.slice aa l.length ac) l) (by omega)
      subst e_
      obtain ⟨x11, o12, e_⟩ := Sl.addr (hF5.at 0 rfl : Sl iceEnc 8 lo2 hi2 _ (.slice ba l.length bc) l) (by omega)
      subst e_
      obtain ⟨z, hz13_⟩ : ∃ z_, l[k]? = some z_ := ⟨_, List.getElem?_eq_getElem (by omega)⟩
      have hz13 := Lib.hid hz13_
      clear hz13_
      go_wp2_with fail
      have ge14 : World.cell? _ ⟨x9, o10 + k * 8, none⟩ = some (.int .i64 z.bl.lo) := (((hF5.at 1 rfl : Sl iceEnc 8 lo hi _ (.slice (some ⟨x9, o10, none⟩) l.length ac) l)).cells hz13.out 0 _ rfl)
      have ge15 : World.cell? _ ⟨x9, o10 + k * 8 + 1, none⟩ = some (.int .i64 z.bl.hi) := (((hF5.at 1 rfl : Sl iceEnc 8 lo hi _ (.slice (some ⟨x9, o10, none⟩) l.length ac) l)).cells hz13.out 1 _ rfl)
      have ge16 : World.cell? _ ⟨x9, o10 + k * 8 + 2, none⟩ = some (.int .i64 z.wh.lo) := (((hF5.at 1 rfl : Sl iceEnc 8 lo hi _ (.slice (some ⟨x9, o10, none⟩) l.length ac) l)).cells hz13.out 2 _ rfl)
      have ge17 : World.cell? _ ⟨x9, o10 + k * 8 + 3, none⟩ = some (.int .i64 z.wh.hi) := (((hF5.at 1 rfl : Sl iceEnc 8 lo hi _ (.slice (some ⟨x9, o10, none⟩) l.length ac) l)).cells hz13.out 3 _ rfl)
      have ge18 : World.cell? _ ⟨x9, o10 + k * 8 + 4, none⟩ = some (.int .i64 z.we.lo) := (((hF5.at 1 rfl : Sl iceEnc 8 lo hi _ (.slice (some ⟨x9, o10, none⟩) l.length ac) l)).cells hz13.out 4 _ rfl)
      have ge19 : World.cell? _ ⟨x9, o10 + k * 8 + 5, none⟩ = some (.int .i64 z.we.hi) := (((hF5.at 1 rfl : Sl iceEnc 8 lo hi _ (.slice (some ⟨x9, o10, none⟩) l.length ac) l)).cells hz13.out 5 _ rfl)
      have ge20 : World.cell? _ ⟨x9, o10 + k * 8 + 6, none⟩ = some (.int .i64 z.sn.lo) := (((hF5.at 1 rfl : Sl iceEnc 8 lo hi _ (.slice (some ⟨x9, o10, none⟩) l.length ac) l)).cells hz13.out 6 _ rfl)
      have ge21 : World.cell? _ ⟨x9, o10 + k * 8 + 7, none⟩ = some (.int .i64 z.sn.hi) := (((hF5.at 1 rfl : Sl iceEnc 8 lo hi _ (.slice (some ⟨x9, o10, none⟩) l.length ac) l)).cells hz13.out 7 _ rfl)
      have ge22 : World.cell? _ ⟨x11, o12 + k * 8, none⟩ = some (.int .i64 z.bl.lo) := (((hF5.at 0 rfl : Sl iceEnc 8 lo2 hi2 _ (.slice (some ⟨x11, o12, none⟩) l.length bc) l)).cells hz13.out 0 _ rfl)
      have ge23 : World.cell? _ ⟨x11, o12 + k * 8 + 1, none⟩ = some (.int .i64 z.bl.hi) := (((hF5.at 0 rfl : Sl iceEnc 8 lo2 hi2 _ (.slice (some ⟨x11, o12, none⟩) l.length bc) l)).cells hz13.out 1 _ rfl)
      have ge24 : World.cell? _ ⟨x11, o12 + k * 8 + 2, none⟩ = some (.int .i64 z.wh.lo) := (((hF5.at 0 rfl : Sl iceEnc 8 lo2 hi2 _ (.slice (some ⟨x11, o12, none⟩) l.length bc) l)).cells hz13.out 2 _ rfl)
      have ge25 : World.cell? _ ⟨x11, o12 + k * 8 + 3, none⟩ = some (.int .i64 z.wh.hi) := (((hF5.at 0 rfl : Sl iceEnc 8 lo2 hi2 _ (.slice (some ⟨x11, o12, none⟩) l.length bc) l)).cells hz13.out 3 _ rfl)
      have ge26 : World.cell? _ ⟨x11, o12 + k * 8 + 4, none⟩ = some (.int .i64 z.we.lo) := (((hF5.at 0 rfl : Sl iceEnc 8 lo2 hi2 _ (.slice (some ⟨x11, o12, none⟩) l.length bc) l)).cells hz13.out 4 _ rfl)
      have ge27 : World.cell? _ ⟨x11, o12 + k * 8 + 5, none⟩ = some (.int .i64 z.we.hi) := (((hF5.at 0 rfl : Sl iceEnc 8 lo2 hi2 _ (.slice (some ⟨x11, o12, none⟩) l.length bc) l)).cells hz13.out 5 _ rfl)
      have ge28 : World.cell? _ ⟨x11, o12 + k * 8 + 6, none⟩ = some (.int .i64 z.sn.lo) := (((hF5.at 0 rfl : Sl iceEnc 8 lo2 hi2 _ (.slice (some ⟨x11, o12, none⟩) l.length bc) l)).cells hz13.out 6 _ rfl)
      have ge29 : World.cell? _ ⟨x11, o12 + k * 8 + 7, none⟩ = some (.int .i64 z.sn.hi) := (((hF5.at 0 rfl : Sl iceEnc 8 lo2 hi2 _ (.slice (some ⟨x11, o12, none⟩) l.length bc) l)).cells hz13.out 7 _ rfl)
      go_quiet (fail)
      clear ge14 ge15 ge16 ge17 ge18 ge19 ge20 ge21 ge22 ge23 ge24 ge25 ge26 ge27 ge28 ge29
      have F30 := hF5.drewN nq
      clear hF5
      obtain ⟨w31, hx32, F34, hxs33⟩ := (show Bun w [rsl iceEnc 8 lo2 hi2 (.slice (some ⟨x11, o12, none⟩) l.length bc) l, rsl iceEnc 8 lo hi (.slice (some ⟨x9, o10, none⟩) l.length ac) l] _ from F30).name
      (try simp at hxs33)
      rw [hx32]
      clear hx32 F30
      go_wp2_with fail
      (first | refine ⟨rfl, ?_, ?_⟩ | refine ⟨?_, ?_⟩)
      · rw [HI4.out]; exact ⟨k + 1, rfl, rfl, (by show Value.int .i64 ((k : Int) + 1) = _; simp), by omega, (by first | rfl | simp), (by first | omega | (simp; done) | (simp; omega)), F34⟩
      · simp [slot, intOf]; omega
    · skip
      have c8H := Lib.hid c8
      have c8a : decide ((k : Int) < (l.length : Int)) = false := dec_f c8
      go_wp2_with fail
      go_ret
      exact ⟨rfl, hF5.gb⟩
  case atStart15 =>
    rw [HI4.out]
    exact ⟨0, rfl, rfl, rfl, Nat.zero_le _, rfl, (by first | exact Nat.le_refl _ | omega | (simp; done) | (simp; omega)), F3⟩

set_option maxHeartbeats 8000000 in
theorem sameDays_c (lo hi lo2 hi2 : Nat) (va vb : Value) (l : List Wea) (w : World) (hl : Sl weaEnc 6 lo hi w va l) (h2 : hi ≤ w.heap.size) (hl2 : Sl weaEnc 6 lo2 hi2 w vb l) (h22 : hi2 ≤ w.heap.size) :
    Calls Try.prog 47 #[va, vb] w (Ret (.bool true) w) := by
  have F1 : Bun w [] w := Bun.nil _
  have hm_as := hl.len
  unfold maxLen at hm_as
  obtain ⟨aa, ac, rfl⟩ := hl.any
  have F2 := F1.sl0 hl h2 rfl
  clear F1
  clear hl
  have hm_bs := hl2.len
  unfold maxLen at hm_bs
  obtain ⟨ba, bc, rfl⟩ := hl2.any
  have F3 := F2.sl0 hl2 h22 rfl
  clear F2
  clear hl2
  go_enter Try.func47, Try.ntmps47
  go_wp2_with fail
  obtain ⟨HI4_, HI40⟩ : ∃ I : (Nat → Value) → List Deferred → World → Prop, I = (fun t ds wr => ∃ (k : Nat), t 0 = .slice aa l.length ac ∧ t 1 = .slice ba l.length bc ∧ t 5 = .int .i64 (k : Int) ∧ k ≤ l.length ∧ ds = [] ∧ w.heap.size ≤ wr.heap.size ∧ Bun w [rsl weaEnc 6 lo2 hi2 (.slice ba l.length bc) l, rsl weaEnc 6 lo hi (.slice aa l.length ac) l] wr) := ⟨_, rfl⟩
  have HI4 := Lib.hid HI40
  clear HI40
  refine wp_loopS 26 rfl HI4_ (fun t wr => l.length - (intOf (t 5)).toNat) ?atStart16 ?round16
  case round16 =>
    intro t ds wr hHid
    rw [HI4.out] at hHid
    obtain ⟨k, e0, e1, e5, hrel⟩ := hHid
    have e : ((List.range 26).map t).toArray = #[t 0, t 1, t 2, t 3, t 4, t 5, t 6, t 7, t 8, t 9, t 10, t 11, t 12, t 13, t 14, t 15, t 16, t 17, t 18, t 19, t 20, t 21, t 22, t 23, t 24, t 25] := rfl
    (try dsimp only at e)
    rw [e0, e1, e5] at e
    rw [e]
    simp only [e5]
    clear e e0 e1 e5
    obtain ⟨hk, rfl, hs6, hF5⟩ := hrel
    clear F3
    obtain ⟨w7, rfl⟩ : ∃ x_ : World, x_ = wr := ⟨_, rfl⟩
    by_cases c8 : (k : Int) < (l.length : Int)
    · skip
      have c8H := Lib.hid c8
      obtain ⟨x9, o10, e_⟩ := Sl.addr (hF5.at 1 rfl : Sl weaEnc 6 lo hi _ (.slice aa l.length ac) l) (by omega)
      subst e_
      obtain ⟨x11, o12, e_⟩ := Sl.addr (hF5.at 0 rfl : Sl weaEnc 6 lo2 hi2 _ (.slice ba l.length bc) l) (by omega)
      subst e_
      obtain ⟨z, hz13_⟩ : ∃ z_, l[k]? = some z_ := ⟨_, List.getElem?_eq_getElem (by omega)⟩
      have hz13 := Lib.hid hz13_
      clear hz13_
      go_wp2_with fail
      have ge14 : World.cell? _ ⟨x9, o10 + k * 6, none⟩ = some (.int .i64 z.cold.lo) := (((hF5.at 1 rfl : Sl weaEnc 6 lo hi _ (.slice (some ⟨x9, o10, none⟩) l.length ac) l)).cells hz13.out 0 _ rfl)
      have ge15 : World.cell? _ ⟨x9, o10 + k * 6 + 1, none⟩ = some (.int .i64 z.cold.hi) := (((hF5.at 1 rfl : Sl weaEnc 6 lo hi _ (.slice (some ⟨x9, o10, none⟩) l.length ac) l)).cells hz13.out 1 _ rfl)
      have ge16 : World.cell? _ ⟨x9, o10 + k * 6 + 2, none⟩ = some (.int .i64 z.fall.lo) := (((hF5.at 1 rfl : Sl weaEnc 6 lo hi _ (.slice (some ⟨x9, o10, none⟩) l.length ac) l)).cells hz13.out 2 _ rfl)
      have ge17 : World.cell? _ ⟨x9, o10 + k * 6 + 3, none⟩ = some (.int .i64 z.fall.hi) := (((hF5.at 1 rfl : Sl weaEnc 6 lo hi _ (.slice (some ⟨x9, o10, none⟩) l.length ac) l)).cells hz13.out 3 _ rfl)
      have ge18 : World.cell? _ ⟨x9, o10 + k * 6 + 4, none⟩ = some (.int .i64 z.water) := (((hF5.at 1 rfl : Sl weaEnc 6 lo hi _ (.slice (some ⟨x9, o10, none⟩) l.length ac) l)).cells hz13.out 4 _ rfl)
      have ge19 : World.cell? _ ⟨x9, o10 + k * 6 + 5, none⟩ = some (.bool z.clear) := (((hF5.at 1 rfl : Sl weaEnc 6 lo hi _ (.slice (some ⟨x9, o10, none⟩) l.length ac) l)).cells hz13.out 5 _ rfl)
      have ge20 : World.cell? _ ⟨x11, o12 + k * 6, none⟩ = some (.int .i64 z.cold.lo) := (((hF5.at 0 rfl : Sl weaEnc 6 lo2 hi2 _ (.slice (some ⟨x11, o12, none⟩) l.length bc) l)).cells hz13.out 0 _ rfl)
      have ge21 : World.cell? _ ⟨x11, o12 + k * 6 + 1, none⟩ = some (.int .i64 z.cold.hi) := (((hF5.at 0 rfl : Sl weaEnc 6 lo2 hi2 _ (.slice (some ⟨x11, o12, none⟩) l.length bc) l)).cells hz13.out 1 _ rfl)
      have ge22 : World.cell? _ ⟨x11, o12 + k * 6 + 2, none⟩ = some (.int .i64 z.fall.lo) := (((hF5.at 0 rfl : Sl weaEnc 6 lo2 hi2 _ (.slice (some ⟨x11, o12, none⟩) l.length bc) l)).cells hz13.out 2 _ rfl)
      have ge23 : World.cell? _ ⟨x11, o12 + k * 6 + 3, none⟩ = some (.int .i64 z.fall.hi) := (((hF5.at 0 rfl : Sl weaEnc 6 lo2 hi2 _ (.slice (some ⟨x11, o12, none⟩) l.length bc) l)).cells hz13.out 3 _ rfl)
      have ge24 : World.cell? _ ⟨x11, o12 + k * 6 + 4, none⟩ = some (.int .i64 z.water) := (((hF5.at 0 rfl : Sl weaEnc 6 lo2 hi2 _ (.slice (some ⟨x11, o12, none⟩) l.length bc) l)).cells hz13.out 4 _ rfl)
      have ge25 : World.cell? _ ⟨x11, o12 + k * 6 + 5, none⟩ = some (.bool z.clear) := (((hF5.at 0 rfl : Sl weaEnc 6 lo2 hi2 _ (.slice (some ⟨x11, o12, none⟩) l.length bc) l)).cells hz13.out 5 _ rfl)
      go_quiet (fail)
      clear ge14 ge15 ge16 ge17 ge18 ge19 ge20 ge21 ge22 ge23 ge24 ge25
      have F26 := hF5.drewN nq
      clear hF5
      obtain ⟨w27, hx28, F30, hxs29⟩ := (show Bun w [rsl weaEnc 6 lo2 hi2 (.slice (some ⟨x11, o12, none⟩) l.length bc) l, rsl weaEnc 6 lo hi (.slice (some ⟨x9, o10, none⟩) l.length ac) l] _ from F26).name
      (try simp at hxs29)
      rw [hx28]
      clear hx28 F26
      go_wp2_with fail
      (first | refine ⟨rfl, ?_, ?_⟩ | refine ⟨?_, ?_⟩)
      · rw [HI4.out]; exact ⟨k + 1, rfl, rfl, (by show Value.int .i64 ((k : Int) + 1) = _; simp), by omega, (by first | rfl | simp), (by first | omega | (simp; done) | (simp; omega)), F30⟩
      · simp [slot, intOf]; omega
    · skip
      have c8H := Lib.hid c8
      have c8a : decide ((k : Int) < (l.length : Int)) = false := dec_f c8
      go_wp2_with fail
      go_ret
      exact ⟨rfl, hF5.gb⟩
  case atStart16 =>
    rw [HI4.out]
    exact ⟨0, rfl, rfl, rfl, Nat.zero_le _, rfl, (by first | exact Nat.le_refl _ | omega | (simp; done) | (simp; omega)), F3⟩

end Go.Proofs.Ythblaiefalbomaa
