/- fuel and its reference: standard litres. -/
import Derived.Test.YtcndphefomigeaaDoorPFuel1
import Derived.Deep.RegionHeld3
import Derived.Deep.DeepCutAuto
set_option linter.unusedVariables false
set_option linter.unusedSimpArgs false
set_option linter.unnecessarySimpa false
namespace Go.Proofs.YtcndphefomigeaaDoor
open Go.RowKit

def stdErr (a b c d e f : Int) : Int := if spanErr a b 0 1000000000 = 0 then (if spanErr c d 0 200 = 0 then spanErr e f (-1000) 1000 else spanErr c d 0 200) else spanErr a b 0 1000000000
def mx4 (a b c d : Int) : Int := max (max (max a b) c) d
def mn4 (a b c d : Int) : Int := min (min (min a b) c) d
def stdLo (a c d e f : Int) : Int := (a * (1000000 - mx4 (c * (e - 150)) (c * (f - 150)) (d * (e - 150)) (d * (f - 150)))) / 1000000
def stdHi (b c d e f : Int) : Int := upD (b * (1000000 - mn4 (c * (e - 150)) (c * (f - 150)) (d * (e - 150)) (d * (f - 150)))) 1000000
/-- What Standard hands back. -/
def stdV (a b c d e f : Int) : Value :=
  if stdErr a b c d e f = 0 then .tuple #[.agg #[.int .i64 (stdLo a c d e f), .int .i64 (stdHi b c d e f)], .int .i64 0] else .tuple #[.agg #[.int .i64 0, .int .i64 0], .int .i64 (stdErr a b c d e f)]
theorem stdV_err {a b c d e f x : Int} (h : stdErr a b c d e f = x) (hx : x ≠ 0) : stdV a b c d e f = .tuple #[.agg #[.int .i64 0, .int .i64 0], .int .i64 x] := by
  subst h
  rw [stdV, if_neg hx]
theorem prod_bd {c e : Int} (h1 : 0 ≤ c) (h2 : c ≤ 200) (h3 : -1000 ≤ e) (h4 : e ≤ 1000) : -230000 ≤ c * (e - 150) ∧ c * (e - 150) ≤ 230000 := by
  constructor
  · have := Int.mul_le_mul_of_nonneg_left (a := -1150) (b := e - 150) (c := c) (by omega) h1
    omega
  · have := Int.mul_le_mul_of_nonneg_left (a := e - 150) (b := 850) (c := c) (by omega) h1
    omega

theorem mul_bd' {x y : Int} {a b : Int} (h1 : 0 ≤ x) (h2 : x ≤ a) (h3 : 0 ≤ y) (h4 : y ≤ b) : 0 ≤ x * y ∧ x * y ≤ a * b :=
  ⟨Int.mul_nonneg h1 h3, Int.mul_le_mul h2 h4 h3 (by omega)⟩

set_option maxHeartbeats 2000000 in
theorem standard_c (a b c d e f : Int) (w : World) :
    Calls Tryd.prog 9 #[.agg #[.int .i64 a, .int .i64 b], .agg #[.int .i64 c, .int .i64 d], .agg #[.int .i64 e, .int .i64 f]] w (Ret (stdV a b c d e f) w) := by
  obtain ⟨W0, hW0⟩ : ∃ W0, ((((w.alloc (.cells #[.int .i64 a, .int .i64 b] 23)).alloc (.cells #[.int .i64 c, .int .i64 d] 23)).alloc (.cells #[.int .i64 e, .int .i64 f] 23)).alloc (.cells #[.int .i64 0, .int .i64 0] 23)) = W0 := ⟨_, rfl⟩
  have hB1 : Bk W0 w.heap.size 23 #[.int .i64 a, .int .i64 b] := by rw [← hW0]; exact ((((Bk.new w 23 #[.int .i64 a, .int .i64 b]).alloc (.cells #[.int .i64 c, .int .i64 d] 23)).alloc (.cells #[.int .i64 e, .int .i64 f] 23)).alloc (.cells #[.int .i64 0, .int .i64 0] 23))
  have hB2 : Bk W0 (w.heap.size + 1) 23 #[.int .i64 c, .int .i64 d] := by
    have hx_ := (((Bk.new (w.alloc (.cells #[.int .i64 a, .int .i64 b] 23)) 23 #[.int .i64 c, .int .i64 d]).alloc (.cells #[.int .i64 e, .int .i64 f] 23)).alloc (.cells #[.int .i64 0, .int .i64 0] 23))
    rw [← hW0]
    simpa using hx_
  have hB3 : Bk W0 (w.heap.size + 2) 23 #[.int .i64 e, .int .i64 f] := by
    have hx_ := ((Bk.new ((w.alloc (.cells #[.int .i64 a, .int .i64 b] 23)).alloc (.cells #[.int .i64 c, .int .i64 d] 23)) 23 #[.int .i64 e, .int .i64 f]).alloc (.cells #[.int .i64 0, .int .i64 0] 23))
    rw [← hW0]
    simpa using hx_
  have hB4 : Bk W0 (w.heap.size + 3) 23 #[.int .i64 0, .int .i64 0] := by
    have hx_ := (Bk.new (((w.alloc (.cells #[.int .i64 a, .int .i64 b] 23)).alloc (.cells #[.int .i64 c, .int .i64 d] 23)).alloc (.cells #[.int .i64 e, .int .i64 f] 23)) 23 #[.int .i64 0, .int .i64 0])
    rw [← hW0]
    simpa using hx_
  have hgW0 : w.grownBy W0 none := hW0 ▸ gb_alloc (gb_alloc (gb_alloc (gb_alloc (gb_refl _ _) _) _) _) _
  have HW0 := Lib.hid hW0
  clear hW0
  go_enter Tryd.func9, Tryd.ntmps9
  go_wp2_with fail
  rw [HW0.out]
  refine (checkSpan_c _ _ _ _ _).mono ?_
  rintro e1 w1 ⟨rfl, hg1⟩
  clear HW0
  have hG1 := gb_trans hgW0 hg1
  replace hB1 := hB1.gb hg1 (by simp <;> omega)
  (try clear qhB1)
  have qhB1 := hB1.c2
  replace hB2 := hB2.gb hg1 (by simp <;> omega)
  (try clear qhB2)
  have qhB2 := hB2.c2
  replace hB3 := hB3.gb hg1 (by simp <;> omega)
  (try clear qhB3)
  have qhB3 := hB3.c2
  replace hB4 := hB4.gb hg1 (by simp <;> omega)
  (try clear qhB4)
  have qhB4 := hB4.c2
  clear hgW0 hg1
  by_cases c1 : spanErr a b 0 1000000000 = 0
  · have hne : (spanErr a b 0 1000000000 != 0) = false := by simp [c1]
    go_wp2_with fail
    refine (checkSpan_c _ _ _ _ _).mono ?_
    rintro e1 w2 ⟨rfl, hg2⟩
    have hG2 := gb_trans hG1 hg2
    replace hB1 := hB1.gb hg2 (by simp <;> omega)
    (try clear qhB1)
    have qhB1 := hB1.c2
    replace hB2 := hB2.gb hg2 (by simp <;> omega)
    (try clear qhB2)
    have qhB2 := hB2.c2
    replace hB3 := hB3.gb hg2 (by simp <;> omega)
    (try clear qhB3)
    have qhB3 := hB3.c2
    replace hB4 := hB4.gb hg2 (by simp <;> omega)
    (try clear qhB4)
    have qhB4 := hB4.c2
    clear hG1 hg2
    by_cases c2 : spanErr c d 0 200 = 0
    · have hne2 : (spanErr c d 0 200 != 0) = false := by simp [c2]
      go_wp2_with fail
      refine (checkSpan_c _ _ _ _ _).mono ?_
      rintro e1 w3 ⟨rfl, hg3⟩
      have hG3 := gb_trans hG2 hg3
      replace hB1 := hB1.gb hg3 (by simp <;> omega)
      (try clear qhB1)
      have qhB1 := hB1.c2
      replace hB2 := hB2.gb hg3 (by simp <;> omega)
      (try clear qhB2)
      have qhB2 := hB2.c2
      replace hB3 := hB3.gb hg3 (by simp <;> omega)
      (try clear qhB3)
      have qhB3 := hB3.c2
      replace hB4 := hB4.gb hg3 (by simp <;> omega)
      (try clear qhB4)
      have qhB4 := hB4.c2
      clear hG2 hg3
      have E : stdErr a b c d e f = spanErr e f (-1000) 1000 := by rw [stdErr, if_pos c1, if_pos c2]
      have HE := Lib.hid E
      clear E
      by_cases c3 : spanErr e f (-1000) 1000 = 0
      · have hne3 : (spanErr e f (-1000) 1000 != 0) = false := by simp [c3]
        have hv : stdV a b c d e f = .tuple #[.agg #[.int .i64 (stdLo a c d e f), .int .i64 (stdHi b c d e f)], .int .i64 0] := by rw [stdV, if_pos (HE.out.trans c3)]
        have HV := Lib.hid hv
        clear hv
        have k1 := spanErr_ok c1
        have k2 := spanErr_ok c2
        have k3 := spanErr_ok c3
        obtain ⟨p1, e1⟩ : ∃ p, c * (e - 150) = p := ⟨_, rfl⟩
        obtain ⟨p2, e2⟩ : ∃ p, c * (f - 150) = p := ⟨_, rfl⟩
        obtain ⟨p3, e3⟩ : ∃ p, d * (e - 150) = p := ⟨_, rfl⟩
        obtain ⟨p4, e4⟩ : ∃ p, d * (f - 150) = p := ⟨_, rfl⟩
        have bp := And.intro (prod_bd (c := c) (e := e) (by omega) (by omega) (by omega) (by omega)) (And.intro (prod_bd (c := c) (e := f) (by omega) (by omega) (by omega) (by omega)) (And.intro (prod_bd (c := d) (e := e) (by omega) (by omega) (by omega) (by omega)) (prod_bd (c := d) (e := f) (by omega) (by omega) (by omega) (by omega))))
        rw [e1, e2, e3, e4] at bp
        have i0 : ∀ w, (Instr.index 62 (.agg #[.int .i64 c, .int .i64 d]) (.int .i64 0)).run Tryd.prog w = .ok (.int .i64 c) w := fun _ => by kernel_rfl
        have i1 : ∀ w, (Instr.index 62 (.agg #[.int .i64 c, .int .i64 d]) (.int .i64 1)).run Tryd.prog w = .ok (.int .i64 d) w := fun _ => by kernel_rfl
        have i2 : ∀ w, (Instr.index 62 (.agg #[.int .i64 e, .int .i64 f]) (.int .i64 0)).run Tryd.prog w = .ok (.int .i64 e) w := fun _ => by kernel_rfl
        have i3 : ∀ w, (Instr.index 62 (.agg #[.int .i64 e, .int .i64 f]) (.int .i64 1)).run Tryd.prog w = .ok (.int .i64 f) w := fun _ => by kernel_rfl
        clear c1 c2 c3 HE
        go_wp2_with fail
        refine wp_loop_rounds 3 ?_
        rw [rounds_succ]
        go_wp2_with fail
        refine wp_loop_rounds 3 ?_
        rw [rounds_succ]
        go_wp2_with fail
        rw [rounds_succ]
        go_wp2_with fail
        rw [rounds_succ]
        go_wp2_with fail
        rw [rounds_succ]
        go_wp2_with fail
        refine wp_loop_rounds 3 ?_
        rw [rounds_succ]
        go_wp2_with fail
        rw [rounds_succ]
        go_wp2_with fail
        rw [rounds_succ]
        go_wp2_with fail
        rw [rounds_succ]
        go_wp2_with fail
        clear i0 i1 i2 i3 qhB2 qhB3
        have el : min 2000000 (min (1000000 - p1) (min (1000000 - p2) (min (1000000 - p3) (1000000 - p4)))) = 1000000 - mx4 p1 p2 p3 p4 := by unfold mx4; omega
        have eh : max 0 (max (1000000 - p1) (max (1000000 - p2) (max (1000000 - p3) (1000000 - p4)))) = 1000000 - mn4 p1 p2 p3 p4 := by unfold mn4; omega
        have bl : 770000 ≤ 1000000 - mx4 p1 p2 p3 p4 ∧ 1000000 - mx4 p1 p2 p3 p4 ≤ 1230000 := by unfold mx4; omega
        have bh : 770000 ≤ 1000000 - mn4 p1 p2 p3 p4 ∧ 1000000 - mn4 p1 p2 p3 p4 ≤ 1230000 := by unfold mn4; omega
        rw [el, eh]
        have HL : stdLo a c d e f = a * (1000000 - mx4 p1 p2 p3 p4) / 1000000 := by rw [stdLo, e1, e2, e3, e4]
        have HH : stdHi b c d e f = upD (b * (1000000 - mn4 p1 p2 p3 p4)) 1000000 := by rw [stdHi, e1, e2, e3, e4]
        clear el eh e1 e2 e3 e4 bp
        generalize 1000000 - mx4 p1 p2 p3 p4 = x at *
        generalize 1000000 - mn4 p1 p2 p3 p4 = y at *
        have bm1 := mul_bd' (x := a) (y := x) (a := 1000000000) (b := 1230000) (by omega) (by omega) (by omega) (by omega)
        have bm2 := mul_bd' (x := b) (y := y) (a := 1000000000) (b := 1230000) (by omega) (by omega) (by omega) (by omega)
        have hw1 : IntKind.i64.wrap (a * x) = a * x := IntWalk.i64_in _ (by omega)
        have hw2 : IntKind.i64.wrap (b * y) = b * y := IntWalk.i64_in _ (by omega)
        have HLH := Lib.hid (And.intro HL HH)
        clear HL HH
        have kp : ∀ u v : Value, ((w3.setCell ⟨w.heap.size + 1 + 1 + 1, 0, none⟩ u).setCell ⟨w.heap.size + 1 + 1 + 1, 1, none⟩ v).drew.cell? ⟨w.heap.size, 0, none⟩ = some (.int .i64 a) ∧ ((w3.setCell ⟨w.heap.size + 1 + 1 + 1, 0, none⟩ u).setCell ⟨w.heap.size + 1 + 1 + 1, 1, none⟩ v).drew.cell? ⟨w.heap.size, 1, none⟩ = some (.int .i64 b) := fun u v => ⟨far_cell (far_cell qhB1.1 (by simp <;> omega) _) (by simp <;> omega) _, far_cell (far_cell qhB1.2.1 (by simp <;> omega) _) (by simp <;> omega) _⟩
        go_region_held3 (fun W => W.cell? ⟨w.heap.size, 0, none⟩ = some (.int .i64 a) ∧ W.cell? ⟨w.heap.size, 1, none⟩ = some (.int .i64 b)) (first | exact kp _ _ | go_keep)
          (first
          | (go_at_call 23; refine (floor_c _ _ _ (by omega) (by omega) (by omega) (by omega)).mono ?_; rintro e w' ⟨rfl, rfl⟩)
          | (go_at_call 24; refine (ceil_c _ _ _ (by omega) (by omega) (by omega) (by omega)).mono ?_; rintro e w' ⟨rfl, rfl⟩))
        go_wp2_with fail
        exact bodyPost_ret (v := .tuple #[.agg #[.int .i64 (a * x / 1000000), .int .i64 (upD (b * y) 1000000)], .int .i64 0]) (by simp [results, Tryd.results9, go_sem, qhB4]) rfl
          ⟨by rw [HV.out, HLH.out.1, HLH.out.2], gb_drew (gb_setCell (gb_setCell hG3 (.inr (by simp <;> omega)) _) (.inr (by simp <;> omega)) _)⟩
      · have hne3 : (spanErr e f (-1000) 1000 != 0) = true := by simp [c3]
        have HV := Lib.hid (stdV_err HE.out c3)
        clear c1 c2 c3
        go_wp2_with fail
        exact bodyPost_ret (v := .tuple #[.agg #[.int .i64 0, .int .i64 0], .int .i64 (spanErr e f (-1000) 1000)]) (by simp [results, Tryd.results9, go_sem, qhB4]) rfl
          ⟨by rw [HV.out], gb_setCell (gb_setCell hG3 (.inr (by simp <;> omega)) _) (.inr (by simp <;> omega)) _⟩
    · have hne2 : (spanErr c d 0 200 != 0) = true := by simp [c2]
      have HV := Lib.hid (stdV_err (show stdErr a b c d e f = spanErr c d 0 200 by rw [stdErr, if_pos c1, if_neg c2]) c2)
      clear c1 c2
      go_wp2_with fail
      exact bodyPost_ret (v := .tuple #[.agg #[.int .i64 0, .int .i64 0], .int .i64 (spanErr c d 0 200)]) (by simp [results, Tryd.results9, go_sem, qhB4]) rfl
        ⟨by rw [HV.out], gb_setCell (gb_setCell hG2 (.inr (by simp <;> omega)) _) (.inr (by simp <;> omega)) _⟩
  · have hne : (spanErr a b 0 1000000000 != 0) = true := by simp [c1]
    have HV := Lib.hid (stdV_err (c := c) (d := d) (e := e) (f := f) (show stdErr a b c d e f = spanErr a b 0 1000000000 by rw [stdErr, if_neg c1]) c1)
    clear c1
    go_wp2_with fail
    exact bodyPost_ret (v := .tuple #[.agg #[.int .i64 0, .int .i64 0], .int .i64 (spanErr a b 0 1000000000)]) (by simp [results, Tryd.results9, go_sem, qhB4]) rfl
      ⟨by rw [HV.out], gb_setCell (gb_setCell hG1 (.inr (by simp <;> omega)) _) (.inr (by simp <;> omega)) _⟩
end Go.Proofs.YtcndphefomigeaaDoor
/- the reference of fuel: standard litres. -/
namespace Go.Proofs.YtcndphefomigeaaDoor
open Go.RowKit

end Go.Proofs.YtcndphefomigeaaDoor
