/- frost: the reference of Core; within. -/
import Derived.Test.YthblaiefalbomaaF10
import Derived.Test.YthblaiefalbomaaF24
import Derived.Test.YthblaiefalbomaaK1
set_option linter.unusedVariables false
set_option linter.unusedSimpArgs false
set_option linter.unnecessarySimpa false
namespace Go.Proofs.Ythblaiefalbomaa
open Go.RowKit
set_option maxRecDepth 100000

def inS (a b : Sp) : Bool := decide (b.lo ≤ a.lo) && decide (a.hi ≤ b.hi)
def hasS (x : Sp) (n : Int) : Bool := decide (x.lo ≤ n) && decide (n ≤ x.hi)
def insideB (a b : Ice) : Bool := inS a.bl b.bl && inS a.wh b.wh && inS a.we b.we && inS a.sn b.sn
def inIceB (t : Tr) (x : Ice) : Bool := hasS x.bl t.bl && hasS x.wh t.wh && hasS x.we t.we && hasS x.sn t.sn
theorem common_c (a b : Sp) (w : World)  :
    Calls Try.prog 84 #[.agg #[.int .i64 a.lo, .int .i64 a.hi], .agg #[.int .i64 b.lo, .int .i64 b.hi]] w (Ret (.agg #[.int .i64 (max a.lo b.lo), .int .i64 (min a.hi b.hi)]) w) := by
  have F1 : Bun w [] w := Bun.nil _
  go_enter Try.func84, Try.ntmps84
  go_wp2_with fail
  have F2 := F1.new 27 #[.int .i64 a.lo, .int .i64 a.hi] (n := w.heap.size) (by simp)
  clear F1
  have F3 := F2.new 27 #[.int .i64 b.lo, .int .i64 b.hi] (n := (w.heap.size + 1)) (by simp)
  clear F2
  have F4 := F3.new 27 #[.int .i64 (max a.lo b.lo), .int .i64 (min a.hi b.hi)] (n := (w.heap.size + 2)) (by simp)
  clear F3
  have kb5 := F4.bx2 0 rfl
  go_wp2_with fail
  exact bodyPost_ret (v := .agg #[.int .i64 (max a.lo b.lo), .int .i64 (min a.hi b.hi)]) (by simp [results, Try.results84, go_sem, kb5]) rfl (⟨rfl, F4.gb⟩)

theorem in_c (a b : Sp) (w : World)  :
    Calls Try.prog 54 #[.agg #[.int .i64 a.lo, .int .i64 a.hi], .agg #[.int .i64 b.lo, .int .i64 b.hi]] w (Ret (.bool (inS a b)) w) := by
  have F1 : Bun w [] w := Bun.nil _
  go_enter Try.func54, Try.ntmps54
  by_cases c2 : b.lo ≤ a.lo
  · skip
    have c2H := Lib.hid c2
    have Hx3 := Lib.hid (show ((inS a b : Bool)) = (decide (a.hi ≤ b.hi)) by simp [inS, c2H.out])
    go_wp2_with fail
    have F4 := F1.new 27 #[.int .i64 a.lo, .int .i64 a.hi] (n := w.heap.size) (by simp)
    clear F1
    have F5 := F4.new 27 #[.int .i64 b.lo, .int .i64 b.hi] (n := (w.heap.size + 1)) (by simp)
    clear F4
    go_ret
    exact ⟨by rw [Hx3.out] <;> rfl, F5.gb⟩
  · skip
    have c2H := Lib.hid c2
    have c2a : decide (b.lo ≤ a.lo) = false := dec_f c2
    have Hx6 := Lib.hid (show ((inS a b : Bool)) = false by simp [inS, c2H.out])
    go_wp2_with fail
    have F7 := F1.new 27 #[.int .i64 a.lo, .int .i64 a.hi] (n := w.heap.size) (by simp)
    clear F1
    have F8 := F7.new 27 #[.int .i64 b.lo, .int .i64 b.hi] (n := (w.heap.size + 1)) (by simp)
    clear F7
    go_ret
    exact ⟨by rw [Hx6.out] <;> rfl, F8.gb⟩

theorem has_c (a : Sp) (n : Int) (w : World)  :
    Calls Try.prog 86 #[.agg #[.int .i64 a.lo, .int .i64 a.hi], .int .i64 n] w (Ret (.bool (hasS a n)) w) := by
  have F1 : Bun w [] w := Bun.nil _
  go_enter Try.func86, Try.ntmps86
  by_cases c2 : a.lo ≤ n
  · skip
    have c2H := Lib.hid c2
    have Hx3 := Lib.hid (show ((hasS a n : Bool)) = (decide (n ≤ a.hi)) by simp [hasS, c2H.out])
    go_wp2_with fail
    have F4 := F1.new 27 #[.int .i64 a.lo, .int .i64 a.hi] (n := w.heap.size) (by simp)
    clear F1
    go_ret
    exact ⟨by rw [Hx3.out] <;> rfl, F4.gb⟩
  · skip
    have c2H := Lib.hid c2
    have c2a : decide (a.lo ≤ n) = false := dec_f c2
    have Hx5 := Lib.hid (show ((hasS a n : Bool)) = false by simp [hasS, c2H.out])
    go_wp2_with fail
    have F6 := F1.new 27 #[.int .i64 a.lo, .int .i64 a.hi] (n := w.heap.size) (by simp)
    clear F1
    go_ret
    exact ⟨by rw [Hx5.out] <;> rfl, F6.gb⟩

set_option maxHeartbeats 4000000 in
theorem insideI_c (a b : Ice) (w : World)  :
    Calls Try.prog 43 #[.agg (iceC a), .agg (iceC b)] w (Ret (.bool (insideB a b)) w) := by
  have F1 : Bun w [] w := Bun.nil _
  go_enter Try.func43, Try.ntmps43
  go_wp2_with fail
  have F2 := F1.new 32 (iceC a) (n := w.heap.size) (by simp)
  clear F1
  have F3 := F2.new 32 (iceC b) (n := (w.heap.size + 1)) (by simp)
  clear F2
  refine (in_c a.bl b.bl _).mono ?_
  rintro e w6 ⟨rfl, hg4⟩
  have hg4s := hg4.size
  (try simp at hg4s)
  have F7 := F3.gn hg4
  clear F3
  clear hg4
  cases c8 : inS a.bl b.bl
  · skip
    have c8H := Lib.hid c8
    have Hx9 := Lib.hid (show ((insideB a b : Bool)) = false by simp [insideB, c8H.out])
    go_wp2_with fail
    go_ret
    exact ⟨by rw [Hx9.out] <;> rfl, F7.gb⟩
  · skip
    have c8H := Lib.hid c8
    have b10 := F7.bx8 0 rfl
    have b11 := F7.bx8 1 rfl
    go_wp2_with fail
    clear b10 b11
    refine (in_c a.wh b.wh _).mono ?_
    rintro e w14 ⟨rfl, hg12⟩
    have hg12s := hg12.size
    (try simp at hg12s)
    have F15 := F7.gn hg12
    clear F7
    clear hg12
    cases c16 : inS a.wh b.wh
    · skip
      have c16H := Lib.hid c16
      have Hx17 := Lib.hid (show ((insideB a b : Bool)) = false by simp [insideB, c8H.out, c16H.out])
      go_wp2_with fail
      go_ret
      exact ⟨by rw [Hx17.out] <;> rfl, F15.gb⟩
    · skip
      have c16H := Lib.hid c16
      have b18 := F15.bx8 0 rfl
      have b19 := F15.bx8 1 rfl
      go_wp2_with fail
      clear b18 b19
      refine (in_c a.we b.we _).mono ?_
      rintro e w22 ⟨rfl, hg20⟩
      have hg20s := hg20.size
      (try simp at hg20s)
      have F23 := F15.gn hg20
      clear F15
      clear hg20
      cases c24 : inS a.we b.we
      · skip
        have c24H := Lib.hid c24
        have Hx25 := Lib.hid (show ((insideB a b : Bool)) = false by simp [insideB, c8H.out, c16H.out, c24H.out])
        go_wp2_with fail
        go_ret
        exact ⟨by rw [Hx25.out] <;> rfl, F23.gb⟩
      · skip
        have c24H := Lib.hid c24
        have b26 := F23.bx8 0 rfl
        have b27 := F23.bx8 1 rfl
        go_wp2_with fail
        clear b26 b27
        refine (in_c a.sn b.sn _).mono ?_
        rintro e w30 ⟨rfl, hg28⟩
        have hg28s := hg28.size
        (try simp at hg28s)
        have F31 := F23.gn hg28
        clear F23
        clear hg28
        have Hx32 := Lib.hid (show ((insideB a b : Bool)) = (inS a.sn b.sn) by simp [insideB, c8H.out, c16H.out, c24H.out])
        go_wp2_with fail
        go_ret
        exact ⟨by rw [Hx32.out] <;> rfl, F31.gb⟩

set_option maxHeartbeats 4000000 in
theorem inIce_c (t : Tr) (x : Ice) (w : World)  :
    Calls Try.prog 44 #[.agg #[.int .i64 t.bl, .int .i64 t.wh, .int .i64 t.we, .int .i64 t.sn], .agg (iceC x)] w (Ret (.bool (inIceB t x)) w) := by
  have F1 : Bun w [] w := Bun.nil _
  go_enter Try.func44, Try.ntmps44
  go_wp2_with fail
  have F2 := F1.new 48 #[.int .i64 t.bl, .int .i64 t.wh, .int .i64 t.we, .int .i64 t.sn] (n := w.heap.size) (by simp)
  clear F1
  have F3 := F2.new 32 (iceC x) (n := (w.heap.size + 1)) (by simp)
  clear F2
  refine (has_c x.bl t.bl _).mono ?_
  rintro e w6 ⟨rfl, hg4⟩
  have hg4s := hg4.size
  (try simp at hg4s)
  have F7 := F3.gn hg4
  clear F3
  clear hg4
  cases c8 : hasS x.bl t.bl
  · skip
    have c8H := Lib.hid c8
    have Hx9 := Lib.hid (show ((inIceB t x : Bool)) = false by simp [inIceB, c8H.out])
    go_wp2_with fail
    go_ret
    exact ⟨by rw [Hx9.out] <;> rfl, F7.gb⟩
  · skip
    have c8H := Lib.hid c8
    have b10 := F7.bx8 0 rfl
    have b11 := F7.bx4 1 rfl
    go_wp2_with fail
    clear b10 b11
    refine (has_c x.wh t.wh _).mono ?_
    rintro e w14 ⟨rfl, hg12⟩
    have hg12s := hg12.size
    (try simp at hg12s)
    have F15 := F7.gn hg12
    clear F7
    clear hg12
    cases c16 : hasS x.wh t.wh
    · skip
      have c16H := Lib.hid c16
      have Hx17 := Lib.hid (show ((inIceB t x : Bool)) = false by simp [inIceB, c8H.out, c16H.out])
      go_wp2_with fail
      go_ret
      exact ⟨by rw [Hx17.out] <;> rfl, F15.gb⟩
    · skip
      have c16H := Lib.hid c16
      have b18 := F15.bx8 0 rfl
      have b19 := F15.bx4 1 rfl
      go_wp2_with fail
      clear b18 b19
      refine (has_c x.we t.we _).mono ?_
      rintro e w22 ⟨rfl, hg20⟩
      have hg20s := hg20.size
      (try simp at hg20s)
      have F23 := F15.gn hg20
      clear F15
      clear hg20
      cases c24 : hasS x.we t.we
      · skip
        have c24H := Lib.hid c24
        have Hx25 := Lib.hid (show ((inIceB t x : Bool)) = false by simp [inIceB, c8H.out, c16H.out, c24H.out])
        go_wp2_with fail
        go_ret
        exact ⟨by rw [Hx25.out] <;> rfl, F23.gb⟩
      · skip
        have c24H := Lib.hid c24
        have b26 := F23.bx8 0 rfl
        have b27 := F23.bx4 1 rfl
        go_wp2_with fail
        clear b26 b27
        refine (has_c x.sn t.sn _).mono ?_
        rintro e w30 ⟨rfl, hg28⟩
        have hg28s := hg28.size
        (try simp at hg28s)
        have F31 := F23.gn hg28
        clear F23
        clear hg28
        have Hx32 := Lib.hid (show ((inIceB t x : Bool)) = (hasS x.sn t.sn) by simp [inIceB, c8H.out, c16H.out, c24H.out])
        go_wp2_with fail
        go_ret
        exact ⟨by rw [Hx32.out] <;> rfl, F31.gb⟩

end Go.Proofs.Ythblaiefalbomaa
