/- The statement FuelHeats: the walk. -/
import Derived.Test.YtfifldbinnkdmaaWake
import Derived.Test.YtfifldbinnkdmaaKit5
import Derived.Test.YtfifldbinnkdmaaOpen2
import Derived.Deep.RegionHeld3
import Derived.Deep.QuietTactic
import Derived.BigQuiet
set_option linter.unusedVariables false
set_option linter.unusedSimpArgs false
set_option linter.unnecessarySimpa false
namespace Go.Proofs.Ytfifldbinnkdmaa
open Go.RowKit Go.Shelf
set_option maxRecDepth 100000
attribute [local go_sem] run_store_func

theorem lastsV_form (s : Sp) (b : List Bn) (c : List Sp) : ∃ x y e, lastsV s b c = .tuple #[.agg #[.int .i64 x, .int .i64 y], .int .i64 e] := by
  by_cases h : lastsE s b c = 0
  · exact ⟨_, _, _, by rw [lastsV, if_pos h, Sp.v]⟩
  · exact ⟨_, _, _, lastsV_err rfl h⟩
theorem gbp1 {a b c : World} {s : Nat} {o : Obj} (h : (a.alloc o).grownBy c (some s)) (_ : b = b) : a.grownBy c (some s) := gb_trans (gb_alloc (gb_refl _ _) o) h

set_option maxHeartbeats 16000000 in
theorem heats_walk (vb vc vn : Value) (s : Sp) (b : List Bn) (c : List Sp) (zs : List Int) (w : World) (hb : Bns 0 w.heap.size w vb b) (hcap : CapOk vb) (hc : Sps 0 w.heap.size w vc c) (hz : Ints 0 w.heap.size w vn zs) :
    Calls Try.prog 10 #[s.v, vb, vc, vn] w (Ret (.bool true) w) := by
  obtain ⟨a1, k1, e1⟩ := hb.any
  obtain ⟨a2, k2, e2⟩ := hc.any
  have hm1 := hb.len
  have hm2 := hc.len
  unfold maxLen at hm1 hm2
  have HD := Lib.hid (And.intro hb (And.intro hcap (And.intro hc hz)))
  clear hb hcap hc hz
  subst e1 e2
  simp only [Sp.v]
  obtain ⟨W0, hW0⟩ : ∃ W0, (w.alloc (.cells #[.int .i64 s.lo, .int .i64 s.hi] 40)) = W0 := ⟨_, rfl⟩
  have hB1 : Bk W0 w.heap.size 40 #[.int .i64 s.lo, .int .i64 s.hi] := by rw [← hW0]; exact (Bk.new w 40 #[.int .i64 s.lo, .int .i64 s.hi])
  have hgW0 : w.grownBy W0 none := hW0 ▸ gb_alloc (gb_refl _ _) _
  have HW0 := Lib.hid hW0
  clear hW0
  have hs0 : W0.heap.size = w.heap.size + 1 := by rw [← HW0.out]; simp
  by_cases big : 20 < b.length ∨ 450 < c.length
  · have hbig : (20 < b.length) ∨ ((¬ 20 < b.length) ∧ 450 < c.length) := by omega
    rcases hbig with g1 | ⟨g1, g2⟩
    all_goals
      go_enter Try.func10, Try.ntmps10
      go_wp2_with (refine wpList_skip ?_ ?_; rfl)
      rw [HW0.out]
      refine (awake_c _).mono ?_
      rintro e w1 ⟨rfl, hg⟩
      go_wp2_with fail
      go_ret
      exact ⟨rfl, gb_trans hgW0 hg⟩
  have g1 : ¬ 20 < b.length := by omega
  have g2 : ¬ 450 < c.length := by omega
  clear big
  go_enter Try.func10, Try.ntmps10
  go_wp2_with (refine wpList_skip ?_ ?_; rfl)
  rw [HW0.out]
  refine (newSeed_c 0 w.heap.size _ _ _ (HD.out.2.2.2.gb hgW0 (fun _ e => by cases e))).mono ?_
  rintro e w1 ⟨sb, rfl, hsb, hsd, hg1⟩
  have hsb' : w.heap.size ≤ sb := Nat.le_trans hgW0.size hsb
  have hG := gb_trans hgW0 hg1
  replace hB1 := hB1.gb hg1 (by simp)
  have hsl := hsd.lt
  have hlb : w.heap.size < sb := by omega
  have q1 := hB1.c2
  have hlw := hB1.lt
  have hw1s := hG.size
  clear HW0 hgW0 hg1
  go_wp2_with fail
  refine wp_cutK 92 (fun t wr => ∃ (gs gb_ gc : Nat) (d : Sp) (v7 v12 v14 : Value) (b7 : List Bn) (c12 c14 : List Sp), t 10 = .slice (some ⟨gs, 0, none⟩) 3 3 ∧ t 11 = .slice (some ⟨gb_, 0, none⟩) 3 3 ∧ t 12 = .slice (some ⟨gc, 0, none⟩) 3 3 ∧ (0 ≤ d.lo ∧ d.lo ≤ d.hi) ∧ Bk wr gs 40 #[.int .i64 s.lo, .int .i64 s.hi, .int .i64 d.lo, .int .i64 d.hi, .int .i64 s.lo, .int .i64 s.hi] ∧ Bk wr gb_ 85 #[.slice a1 b.length k1, v7, .slice a1 b.length k1] ∧ Bk wr gc 38 #[.slice a2 c.length k2, v12, v14] ∧ Bns w1.heap.size wr.heap.size wr v7 b7 ∧ CapOk v7 ∧ Sps w1.heap.size wr.heap.size wr v12 c12 ∧ Sps w1.heap.size wr.heap.size wr v14 c14 ∧ w1.grownBy wr (some sb)) ?first6 ?rest6
  case rest6 =>
    rintro t wr ⟨gs, gb_, gc, d, v7, v12, v14, b7, c12, c14, e10, e11, e12, hrel⟩
    have e : ((List.range 92).map t).toArray = #[t 0, t 1, t 2, t 3, t 4, t 5, t 6, t 7, t 8, t 9, t 10, t 11, t 12, t 13, t 14, t 15, t 16, t 17, t 18, t 19, t 20, t 21, t 22, t 23, t 24, t 25, t 26, t 27, t 28, t 29, t 30, t 31, t 32, t 33, t 34, t 35, t 36, t 37, t 38, t 39, t 40, t 41, t 42, t 43, t 44, t 45, t 46, t 47, t 48, t 49, t 50, t 51, t 52, t 53, t 54, t 55, t 56, t 57, t 58, t 59, t 60, t 61, t 62, t 63, t 64, t 65, t 66, t 67, t 68, t 69, t 70, t 71, t 72, t 73, t 74, t 75, t 76, t 77, t 78, t 79, t 80, t 81, t 82, t 83, t 84, t 85, t 86, t 87, t 88, t 89, t 90, t 91] := rfl
    (try dsimp only at e)
    rw [e10, e11, e12] at e
    rw [e]
    clear e e10 e11 e12
    obtain ⟨hd, hS, hBb, hCc, h7, cap7, h12, h14, hgr⟩ := hrel
    have hgw : w.grownBy wr none := gb_trans' hG hgr (fun g e => by cases e; exact .inr hsb')
    have z1 := hgr.size
    obtain ⟨LS, VB, VC, LB, LC, hcell⟩ : ∃ (LS : Nat → Sp) (VB VC : Nat → Value) (LB : Nat → List Bn) (LC : Nat → List Sp), ∀ i, i < 3 → ((wr.cell? ⟨gs, i * 2, none⟩ = some (.int .i64 (LS i).lo) ∧ wr.cell? ⟨gs, i * 2 + 1, none⟩ = some (.int .i64 (LS i).hi)) ∧ wr.cell? ⟨gb_, i, none⟩ = some (VB i) ∧ wr.cell? ⟨gc, i, none⟩ = some (VC i)) ∧
        Bns 0 wr.heap.size wr (VB i) (LB i) ∧ Sps 0 wr.heap.size wr (VC i) (LC i) ∧ CapOk (VB i) :=
      ⟨fun i => if i = 1 then d else s, fun i => if i = 1 then v7 else .slice a1 b.length k1, fun i => if i = 0 then .slice a2 c.length k2 else if i = 1 then v12 else v14,
        fun i => if i = 1 then b7 else b, fun i => if i = 0 then c else if i = 1 then c12 else c14, fun i hi => by
          have hi3 : i = 0 ∨ i = 1 ∨ i = 2 := by omega
          have wb := (HD.out.1.gb hgw (fun _ e => by cases e)).wide (Nat.le_refl _) hgw.size
          have wc := (HD.out.2.2.1.gb hgw (fun _ e => by cases e)).wide (Nat.le_refl _) hgw.size
          have w7' := h7.wide (Nat.zero_le _) (Nat.le_refl _)
          have w12' := h12.wide (Nat.zero_le _) (Nat.le_refl _)
          have w14' := h14.wide (Nat.zero_le _) (Nat.le_refl _)
          rcases hi3 with rfl | rfl | rfl
          · exact ⟨⟨⟨hS.cell 0, hS.cell 1⟩, hBb.cell 0, hCc.cell 0⟩, wb, wc, HD.out.2.1⟩
          · exact ⟨⟨⟨hS.cell 2, hS.cell 3⟩, hBb.cell 1, hCc.cell 1⟩, w7', w12', cap7⟩
          · exact ⟨⟨⟨hS.cell 4, hS.cell 5⟩, hBb.cell 2, hCc.cell 2⟩, wb, w14', HD.out.2.1⟩⟩
    have HC := Lib.hid hcell
    have HGW := Lib.hid hgw
    have l1 := hS.lt
    have l2 := hBb.lt
    have l3 := hCc.lt
    clear hS hBb hCc h7 cap7 h12 h14 hgr hgw hcell q1 hB1
    obtain ⟨w4, rfl⟩ : ∃ w4 : World, w4 = wr := ⟨_, rfl⟩
    go_wp2_with fail
    refine wp_loopS 92 rfl (fun t ds wr => ∃ (i : Nat), t 10 = .slice (some ⟨gs, 0, none⟩) 3 3 ∧ t 11 = .slice (some ⟨gb_, 0, none⟩) 3 3 ∧ t 12 = .slice (some ⟨gc, 0, none⟩) 3 3 ∧ t 13 = .int .i64 i ∧ i ≤ 3 ∧ ds = [] ∧ w4.grownBy wr none) (fun t wr => 3 - (intOf (t 13)).toNat) ?atStart ?round
    case round =>
      rintro t ds wr ⟨i, e10, e11, e12, e13, hrel⟩
      have e : ((List.range 92).map t).toArray = #[t 0, t 1, t 2, t 3, t 4, t 5, t 6, t 7, t 8, t 9, t 10, t 11, t 12, t 13, t 14, t 15, t 16, t 17, t 18, t 19, t 20, t 21, t 22, t 23, t 24, t 25, t 26, t 27, t 28, t 29, t 30, t 31, t 32, t 33, t 34, t 35, t 36, t 37, t 38, t 39, t 40, t 41, t 42, t 43, t 44, t 45, t 46, t 47, t 48, t 49, t 50, t 51, t 52, t 53, t 54, t 55, t 56, t 57, t 58, t 59, t 60, t 61, t 62, t 63, t 64, t 65, t 66, t 67, t 68, t 69, t 70, t 71, t 72, t 73, t 74, t 75, t 76, t 77, t 78, t 79, t 80, t 81, t 82, t 83, t 84, t 85, t 86, t 87, t 88, t 89, t 90, t 91] := rfl
      (try dsimp only at e)
      rw [e10, e11, e12, e13] at e
      rw [e]
      simp only [e13]
      clear e e10 e11 e12 e13
      obtain ⟨hi, rfl, hgr⟩ := hrel
      have hzr := hgr.size
      by_cases hlt : i < 3
      · have c1' := gbc hgr (by simp) (HC.out i hlt).1.1.1
        have c2' := gbc hgr (by simp) (HC.out i hlt).1.1.2
        have c3' := gbc hgr (by simp) (HC.out i hlt).1.2.1
        have c4' := gbc hgr (by simp) (HC.out i hlt).1.2.2
        obtain ⟨xv, yv, ev, hv⟩ := lastsV_form (LS i) (LB i) (LC i)
        have HV := Lib.hid hv
        have HI := Lib.hid (And.intro ((HC.out i hlt).2.1.gb hgr (fun _ e => by cases e)) (And.intro ((HC.out i hlt).2.2.1.gb hgr (fun _ e => by cases e)) (HC.out i hlt).2.2.2))
        have HG := Lib.hid hgr
        clear hv hgr
        go_wp2_with fail
        obtain ⟨wT, rfl⟩ : ∃ wT : World, wT = wr := ⟨_, rfl⟩
        refine wp_cutK 92 (fun t wr => ∃ (g10 : Nat), t 10 = .slice (some ⟨gs, 0, none⟩) 3 3 ∧ t 11 = .slice (some ⟨gb_, 0, none⟩) 3 3 ∧ t 12 = .slice (some ⟨gc, 0, none⟩) 3 3 ∧ t 13 = .int .i64 i ∧ t 14 = .pointer (some ⟨g10, 0, none⟩) ∧ t 15 = .int .i64 ev ∧ wT.grownBy wr none ∧ Bk wr g10 40 #[.int .i64 xv, .int .i64 yv]) ?first7 ?rest7
        case rest7 =>
          rintro t wr ⟨g10, e10, e11, e12, e13, e14, e15, hrel⟩
          have e : ((List.range 92).map t).toArray = #[t 0, t 1, t 2, t 3, t 4, t 5, t 6, t 7, t 8, t 9, t 10, t 11, t 12, t 13, t 14, t 15, t 16, t 17, t 18, t 19, t 20, t 21, t 22, t 23, t 24, t 25, t 26, t 27, t 28, t 29, t 30, t 31, t 32, t 33, t 34, t 35, t 36, t 37, t 38, t 39, t 40, t 41, t 42, t 43, t 44, t 45, t 46, t 47, t 48, t 49, t 50, t 51, t 52, t 53, t 54, t 55, t 56, t 57, t 58, t 59, t 60, t 61, t 62, t 63, t 64, t 65, t 66, t 67, t 68, t 69, t 70, t 71, t 72, t 73, t 74, t 75, t 76, t 77, t 78, t 79, t 80, t 81, t 82, t 83, t 84, t 85, t 86, t 87, t 88, t 89, t 90, t 91] := rfl
          (try dsimp only at e)
          rw [e10, e11, e12, e13, e14, e15] at e
          rw [e]
          clear e e10 e11 e12 e13 e14 e15
          obtain ⟨hg10, hb10⟩ := hrel
          obtain ⟨wV, rfl⟩ : ∃ wV : World, wV = wr := ⟨_, rfl⟩
          have hz10 := hg10.size
          replace c1' := gbc hg10 (by simp) c1'
          replace c2' := gbc hg10 (by simp) c2'
          replace c3' := gbc hg10 (by simp) c3'
          replace c4' := gbc hg10 (by simp) c4'
          have HI2 := Lib.hid (And.intro (HI.out.1.gb hg10 (fun _ e => by cases e)) (And.intro (HI.out.2.1.gb hg10 (fun _ e => by cases e)) HI.out.2.2))
          have HG2 := Lib.hid (And.intro (gb_trans HG.out hg10) hb10)
          have hl10 := hb10.lt
          clear hg10 hb10
          go_wp2_with fail
          refine wp_cutK 92 (fun t wr => ∃ (g11 : Nat), t 10 = .slice (some ⟨gs, 0, none⟩) 3 3 ∧ t 11 = .slice (some ⟨gb_, 0, none⟩) 3 3 ∧ t 12 = .slice (some ⟨gc, 0, none⟩) 3 3 ∧ t 13 = .int .i64 i ∧ t 14 = .pointer (some ⟨g10, 0, none⟩) ∧ t 15 = .int .i64 ev ∧ t 16 = .pointer (some ⟨g11, 0, none⟩) ∧ t 17 = .int .i64 ev ∧ wV.grownBy wr none ∧ Bk wr g11 40 #[.int .i64 xv, .int .i64 yv]) ?first8 ?rest8
          case rest8 =>
            rintro t wr ⟨g11, e10, e11, e12, e13, e14, e15, e16, e17, hrel⟩
            have e : ((List.range 92).map t).toArray = #[t 0, t 1, t 2, t 3, t 4, t 5, t 6, t 7, t 8, t 9, t 10, t 11, t 12, t 13, t 14, t 15, t 16, t 17, t 18, t 19, t 20, t 21, t 22, t 23, t 24, t 25, t 26, t 27, t 28, t 29, t 30, t 31, t 32, t 33, t 34, t 35, t 36, t 37, t 38, t 39, t 40, t 41, t 42, t 43, t 44, t 45, t 46, t 47, t 48, t 49, t 50, t 51, t 52, t 53, t 54, t 55, t 56, t 57, t 58, t 59, t 60, t 61, t 62, t 63, t 64, t 65, t 66, t 67, t 68, t 69, t 70, t 71, t 72, t 73, t 74, t 75, t 76, t 77, t 78, t 79, t 80, t 81, t 82, t 83, t 84, t 85, t 86, t 87, t 88, t 89, t 90, t 91] := rfl
            (try dsimp only at e)
            rw [e10, e11, e12, e13, e14, e15, e16, e17] at e
            rw [e]
            clear e e10 e11 e12 e13 e14 e15 e16 e17
            obtain ⟨hg11, hb11⟩ := hrel
            have qb := (HG2.out.2.gb hg11 (by simp)).c2
            have qc := hb11.c2
            have hgC := gb_trans HG2.out.1 hg11
            clear c1' c2' c3' c4' hb11 hg11
            go_wp2_with fail
            exact ⟨rfl, ⟨i + 1, rfl, rfl, rfl, by show Value.int .i64 ((i : Int) + 1) = _; simp, by omega, (by simp), hgC⟩, by simp [slot, intOf]; omega⟩
          case first8 =>
            go_region_held3 (fun W => W.cell? ⟨gs, i * 2, none⟩ = some (.int .i64 (LS i).lo) ∧ W.cell? ⟨gs, i * 2 + 1, none⟩ = some (.int .i64 (LS i).hi) ∧ W.cell? ⟨gb_, i, none⟩ = some (VB i) ∧ W.cell? ⟨gc, i, none⟩ = some (VC i)) (first | go_keep | exact ⟨far_cell (far_cell r0 (by simp <;> omega) _) (by simp <;> omega) _, far_cell (far_cell r1 (by simp <;> omega) _) (by simp <;> omega) _, far_cell (far_cell r2 (by simp <;> omega) _) (by simp <;> omega) _, far_cell (far_cell r3 (by simp <;> omega) _) (by simp <;> omega) _⟩)
              (first
              | (go_at_call 58; refine (rlasts_c 0 w4.heap.size 0 w4.heap.size (VB i) (VC i) (LS i) (LB i) (LC i) _ (by first | exact HI2.out.1.drew | exact HI2.out.1.drew.alloc _) (by first | exact HI2.out.2.1.drew | exact HI2.out.2.1.drew.alloc _) (by first | omega | (simp; omega)) (by first | omega | (simp; omega))).mono ?_; rintro e w7 ⟨rfl, hg7⟩; rw [HV.out]; have z7 := hg7.size; (try simp at z7); have r0 : w7.cell? ⟨gs, i * 2, none⟩ = some (.int .i64 (LS i).lo) := (by first | exact gbc hg7 (by simp) c1' | exact gbc hg7 (by simp) (alc _ c1')); have r1 : w7.cell? ⟨gs, i * 2 + 1, none⟩ = some (.int .i64 (LS i).hi) := (by first | exact gbc hg7 (by simp) c2' | exact gbc hg7 (by simp) (alc _ c2')); have r2 : w7.cell? ⟨gb_, i, none⟩ = some (VB i) := (by first | exact gbc hg7 (by simp) c3' | exact gbc hg7 (by simp) (alc _ c3')); have r3 : w7.cell? ⟨gc, i, none⟩ = some (VC i) := (by first | exact gbc hg7 (by simp) c4' | exact gbc hg7 (by simp) (alc _ c4')); (try (have hbx := (Bk.newAt wV.drew 40 #[.int .i64 0, .int .i64 0] (n := wV.heap.size) rfl).gb hg7 (by simp); have qx := hbx.c2))))
            · exact ⟨rfl, rfl, w7.heap.size, rfl, rfl, rfl, rfl, rfl, rfl, rfl, rfl, gb_alloc (gb_trans (gb_drew (gb_refl wV none)) hg7) _, Bk.new w7 _ _⟩
            · exact ⟨rfl, rfl, wV.heap.size, rfl, rfl, rfl, rfl, rfl, rfl, rfl, rfl, gb_setCell (gb_setCell (gb_trans (gb_alloc (gb_drew (gb_refl wV none)) _) hg7) (.inr (by simp <;> omega)) _) (.inr (by simp <;> omega)) _, (hbx.set 0 _).set 1 _⟩
        case first7 =>
          go_region_held3 (fun W => W.cell? ⟨gs, i * 2, none⟩ = some (.int .i64 (LS i).lo) ∧ W.cell? ⟨gs, i * 2 + 1, none⟩ = some (.int .i64 (LS i).hi) ∧ W.cell? ⟨gb_, i, none⟩ = some (VB i) ∧ W.cell? ⟨gc, i, none⟩ = some (VC i)) (first | go_keep | exact ⟨far_cell (far_cell r0 (by simp <;> omega) _) (by simp <;> omega) _, far_cell (far_cell r1 (by simp <;> omega) _) (by simp <;> omega) _, far_cell (far_cell r2 (by simp <;> omega) _) (by simp <;> omega) _, far_cell (far_cell r3 (by simp <;> omega) _) (by simp <;> omega) _⟩)
            (first
            | (go_at_call 57; refine (lasts_c 0 w4.heap.size 0 w4.heap.size (VB i) (VC i) (LS i) (LB i) (LC i) _ (by first | exact HI.out.1.drew | exact HI.out.1.drew.alloc _) (by first | exact HI.out.2.1.drew | exact HI.out.2.1.drew.alloc _) HI.out.2.2 (by first | omega | (simp; omega)) (by first | omega | (simp; omega))).mono ?_; rintro e w7 ⟨rfl, hg7⟩; rw [HV.out]; have z7 := hg7.size; (try simp at z7); have r0 : w7.cell? ⟨gs, i * 2, none⟩ = some (.int .i64 (LS i).lo) := (by first | exact gbc hg7 (by simp) c1' | exact gbc hg7 (by simp) (alc _ c1')); have r1 : w7.cell? ⟨gs, i * 2 + 1, none⟩ = some (.int .i64 (LS i).hi) := (by first | exact gbc hg7 (by simp) c2' | exact gbc hg7 (by simp) (alc _ c2')); have r2 : w7.cell? ⟨gb_, i, none⟩ = some (VB i) := (by first | exact gbc hg7 (by simp) c3' | exact gbc hg7 (by simp) (alc _ c3')); have r3 : w7.cell? ⟨gc, i, none⟩ = some (VC i) := (by first | exact gbc hg7 (by simp) c4' | exact gbc hg7 (by simp) (alc _ c4')); (try (have hbx := (Bk.newAt wT.drew 40 #[.int .i64 0, .int .i64 0] (n := wT.heap.size) rfl).gb hg7 (by simp); have qx := hbx.c2))))
          · exact ⟨rfl, rfl, w7.heap.size, rfl, rfl, rfl, rfl, rfl, rfl, gb_alloc (gb_trans (gb_drew (gb_refl wT none)) hg7) _, Bk.new w7 _ _⟩
          · exact ⟨rfl, rfl, wT.heap.size, rfl, rfl, rfl, rfl, rfl, rfl, gb_setCell (gb_setCell (gb_trans (gb_alloc (gb_drew (gb_refl wT none)) _) hg7) (.inr (by simp <;> omega)) _) (.inr (by simp <;> omega)) _, (hbx.set 0 _).set 1 _⟩
      · have Hg := Lib.hid (gb_trans HGW.out hgr)
        clear hgr
        go_wp2_with fail
        refine (awake_c _).mono ?_
        rintro e w7 ⟨rfl, hg7⟩
        go_wp2_with fail
        exact bodyPost_ret (v := .bool true) (by simp [results, Try.results10, go_sem]) rfl ⟨rfl, gb_trans Hg.out hg7⟩
    case atStart =>
      exact ⟨0, rfl, rfl, rfl, rfl, by omega, rfl, gb_refl _ _⟩
  case first6 =>
    have hS0 := hsd.drew
    have hG1 : w1.grownBy w1.drew (some sb) := gb_drew (gb_refl _ _)
    have tok1 : Hid (1 = 1) := Lib.hid rfl
    go_region_held3 (fun W => W.cell? ⟨w.heap.size, 0, none⟩ = some (.int .i64 s.lo) ∧ W.cell? ⟨w.heap.size, 1, none⟩ = some (.int .i64 s.hi)) (go_keep)
      (first
      | (go_at_call 28; refine (spanOf_c sb 0 500 _ hS0 (by omega) (by omega) (by omega)).mono ?_; rintro e w2 ⟨v2, rfl, ⟨d1, d2, rfl, hd1, hd2, hd3⟩, hs2, hg2⟩; have z2 := hg2.size; (try simp at z2); have r0 : w2.cell? ⟨w.heap.size, 0, none⟩ = some (.int .i64 s.lo) := gbc hg2 (by simp; omega) q1.1; have r1 : w2.cell? ⟨w.heap.size, 1, none⟩ = some (.int .i64 s.hi) := gbc hg2 (by simp; omega) q1.2.1; have G2 := gb_trans hG1 hg2)
      | (go_at_call 55; refine (burnOf_c sb false _ (by first | exact hs2 | exact hs2.alloc _ | exact (hs2.alloc _).alloc _)).mono ?_; rintro e w7 ⟨v7, rfl, ⟨b7, bc7, ho7, hi7, hn7, hn7'⟩, hs7, hg7⟩; have z7 := hg7.size; (try simp at z7); (first | have gp7 : w2.grownBy w7 (some sb) := hg7 | have gp7 : w2.grownBy w7 (some sb) := gb_trans (gb_alloc (gb_refl _ _) _) hg7 | have gp7 : w2.grownBy w7 (some sb) := gb_trans (gb_alloc (gb_alloc (gb_refl _ _) _) _) hg7); (try (first | have B4 : Bk w7 _ 40 #[.int .i64 s.lo, .int .i64 s.hi, .int .i64 d1, .int .i64 d2, .int .i64 s.lo, .int .i64 s.hi] := (Bk.new w2 _ _).gb hg7 (by first | (simp; omega) | simp) | have B4 : Bk w7 _ 40 #[.int .i64 s.lo, .int .i64 s.hi, .int .i64 d1, .int .i64 d2, .int .i64 s.lo, .int .i64 s.hi] := ((Bk.new w2 _ _).alloc _).gb hg7 (by first | (simp; omega) | simp) | have B4 : Bk w7 _ 40 #[.int .i64 s.lo, .int .i64 s.hi, .int .i64 d1, .int .i64 d2, .int .i64 s.lo, .int .i64 s.hi] := (Bk.newAt (w2.alloc _) _ _ (n := w2.heap.size + 1) (by simp)).gb hg7 (by first | (simp; omega) | simp))); have cap7 := cap_of_own ho7; have hv7 : Bns w1.heap.size w7.heap.size w7 v7 b7 := (ho7.sl (fun _ => rfl)).wide (by first | omega | (simp; omega) | simp) (Nat.le_refl _); obtain ⟨a7, k7, e7⟩ := hv7.any; subst e7; have G7 := gb_trans G2 gp7; have r0 : w7.cell? ⟨w.heap.size, 0, none⟩ = some (.int .i64 s.lo) := gbc gp7 (by simp; omega) r0; have r1 : w7.cell? ⟨w.heap.size, 1, none⟩ = some (.int .i64 s.hi) := gbc gp7 (by simp; omega) r1)
      | (go_at_call 56; have _t := tok1; refine (coldsOf_c sb 20 _ (by first | exact hs7 | exact hs7.alloc _ | exact (hs7.alloc _).alloc _) (by omega) (by omega)).mono ?_; rintro e w12 ⟨v12, rfl, ⟨c12, ho12, hi12, hn12⟩, hs12, hg12⟩; clear tok1 _t; have z12 := hg12.size; (try simp at z12); (first | have gp12 : w7.grownBy w12 (some sb) := hg12 | have gp12 : w7.grownBy w12 (some sb) := gb_trans (gb_alloc (gb_refl _ _) _) hg12 | have gp12 : w7.grownBy w12 (some sb) := gb_trans (gb_alloc (gb_alloc (gb_refl _ _) _) _) hg12); (try replace B4 := B4.gb gp12 (by first | (simp; omega) | simp)); (try replace B9 := B9.gb gp12 (by first | (simp; omega) | simp)); (try (first | have B4 : Bk w12 _ 40 #[.int .i64 s.lo, .int .i64 s.hi, .int .i64 d1, .int .i64 d2, .int .i64 s.lo, .int .i64 s.hi] := (Bk.new w7 _ _).gb hg12 (by first | (simp; omega) | simp) | have B4 : Bk w12 _ 40 #[.int .i64 s.lo, .int .i64 s.hi, .int .i64 d1, .int .i64 d2, .int .i64 s.lo, .int .i64 s.hi] := ((Bk.new w7 _ _).alloc _).gb hg12 (by first | (simp; omega) | simp) | have B4 : Bk w12 _ 40 #[.int .i64 s.lo, .int .i64 s.hi, .int .i64 d1, .int .i64 d2, .int .i64 s.lo, .int .i64 s.hi] := (Bk.newAt (w7.alloc _) _ _ (n := w7.heap.size + 1) (by simp)).gb hg12 (by first | (simp; omega) | simp))); (try (first | have B9 : Bk w12 _ 85 #[.slice a1 b.length k1, (.slice a7 b7.length k7), .slice a1 b.length k1] := (Bk.new w7 _ _).gb hg12 (by first | (simp; omega) | simp) | have B9 : Bk w12 _ 85 #[.slice a1 b.length k1, (.slice a7 b7.length k7), .slice a1 b.length k1] := ((Bk.new w7 _ _).alloc _).gb hg12 (by first | (simp; omega) | simp) | have B9 : Bk w12 _ 85 #[.slice a1 b.length k1, (.slice a7 b7.length k7), .slice a1 b.length k1] := (Bk.newAt (w7.alloc _) _ _ (n := w7.heap.size + 1) (by simp)).gb hg12 (by first | (simp; omega) | simp))); have hv12 : Sps w1.heap.size w12.heap.size w12 v12 c12 := (ho12.sl (fun _ => rfl)).wide (by first | omega | (simp; omega) | simp) (Nat.le_refl _); obtain ⟨a12, k12, e12⟩ := hv12.any; subst e12; have G12 := gb_trans G7 gp12; have r0 : w12.cell? ⟨w.heap.size, 0, none⟩ = some (.int .i64 s.lo) := gbc gp12 (by simp; omega) r0; have r1 : w12.cell? ⟨w.heap.size, 1, none⟩ = some (.int .i64 s.hi) := gbc gp12 (by simp; omega) r1)
      | (go_at_call 56; refine (coldsOf_c sb 20 _ (by first | exact hs12 | exact hs12.alloc _ | exact (hs12.alloc _).alloc _) (by omega) (by omega)).mono ?_; rintro e w14 ⟨v14, rfl, ⟨c14, ho14, hi14, hn14⟩, hs14, hg14⟩; have z14 := hg14.size; (try simp at z14); (first | have gp14 : w12.grownBy w14 (some sb) := hg14 | have gp14 : w12.grownBy w14 (some sb) := gb_trans (gb_alloc (gb_refl _ _) _) hg14 | have gp14 : w12.grownBy w14 (some sb) := gb_trans (gb_alloc (gb_alloc (gb_refl _ _) _) _) hg14); (try replace B4 := B4.gb gp14 (by first | (simp; omega) | simp)); (try replace B9 := B9.gb gp14 (by first | (simp; omega) | simp)); (try (first | have B4 : Bk w14 _ 40 #[.int .i64 s.lo, .int .i64 s.hi, .int .i64 d1, .int .i64 d2, .int .i64 s.lo, .int .i64 s.hi] := (Bk.new w12 _ _).gb hg14 (by first | (simp; omega) | simp) | have B4 : Bk w14 _ 40 #[.int .i64 s.lo, .int .i64 s.hi, .int .i64 d1, .int .i64 d2, .int .i64 s.lo, .int .i64 s.hi] := ((Bk.new w12 _ _).alloc _).gb hg14 (by first | (simp; omega) | simp) | have B4 : Bk w14 _ 40 #[.int .i64 s.lo, .int .i64 s.hi, .int .i64 d1, .int .i64 d2, .int .i64 s.lo, .int .i64 s.hi] := (Bk.newAt (w12.alloc _) _ _ (n := w12.heap.size + 1) (by simp)).gb hg14 (by first | (simp; omega) | simp))); (try (first | have B9 : Bk w14 _ 85 #[.slice a1 b.length k1, (.slice a7 b7.length k7), .slice a1 b.length k1] := (Bk.new w12 _ _).gb hg14 (by first | (simp; omega) | simp) | have B9 : Bk w14 _ 85 #[.slice a1 b.length k1, (.slice a7 b7.length k7), .slice a1 b.length k1] := ((Bk.new w12 _ _).alloc _).gb hg14 (by first | (simp; omega) | simp) | have B9 : Bk w14 _ 85 #[.slice a1 b.length k1, (.slice a7 b7.length k7), .slice a1 b.length k1] := (Bk.newAt (w12.alloc _) _ _ (n := w12.heap.size + 1) (by simp)).gb hg14 (by first | (simp; omega) | simp))); have hv14 : Sps w1.heap.size w14.heap.size w14 v14 c14 := (ho14.sl (fun _ => rfl)).wide (by first | omega | (simp; omega) | simp) (Nat.le_refl _); obtain ⟨a14, k14, e14⟩ := hv14.any; subst e14; have G14 := gb_trans G12 gp14; have r0 : w14.cell? ⟨w.heap.size, 0, none⟩ = some (.int .i64 s.lo) := gbc gp14 (by simp; omega) r0; have r1 : w14.cell? ⟨w.heap.size, 1, none⟩ = some (.int .i64 s.hi) := gbc gp14 (by simp; omega) r1))
    all_goals
      have nrs : ∀ g, some sb = some g → g < w1.heap.size ∨ w14.heap.size ≤ g := fun g e => by cases e; exact .inl hsl
      have K7 := (hv7.gb gp12 (fun g e => by cases e; exact .inl hsl)).gb gp14 (fun g e => by cases e; exact .inl hsl)
      have K12 := hv12.gb gp14 (fun g e => by cases e; exact .inl hsl)
      refine ⟨rfl, rfl, _, _, _, ⟨d1, d2⟩, .slice a7 b7.length k7, .slice a12 c12.length k12, .slice a14 c14.length k14, b7, c12, c14, rfl, rfl, rfl, ⟨hd1, hd2⟩, ?_, ?_, ?_, ?_, cap7, ?_, ?_, ?_⟩
      · (first | exact B4 | exact (B4.alloc _) | exact ((B4.alloc _).alloc _) | exact (((B4.alloc _).alloc _).alloc _) | exact (Bk.newAt _ _ _ (by simp)) | exact ((Bk.newAt _ _ _ (by simp)).alloc _) | exact (((Bk.newAt _ _ _ (by simp)).alloc _).alloc _))
      · (first | exact B9 | exact (B9.alloc _) | exact ((B9.alloc _).alloc _) | exact (((B9.alloc _).alloc _).alloc _) | exact (Bk.newAt _ _ _ (by simp)) | exact ((Bk.newAt _ _ _ (by simp)).alloc _) | exact (((Bk.newAt _ _ _ (by simp)).alloc _).alloc _))
      · (first | exact (Bk.newAt _ _ _ (by simp)) | exact ((Bk.newAt _ _ _ (by simp)).alloc _) | exact (((Bk.newAt _ _ _ (by simp)).alloc _).alloc _))
      · (first | exact (K7).wide (Nat.le_refl _) (by first | omega | (simp; omega) | simp) | exact ((K7.alloc _)).wide (Nat.le_refl _) (by first | omega | (simp; omega) | simp) | exact (((K7.alloc _).alloc _)).wide (Nat.le_refl _) (by first | omega | (simp; omega) | simp) | exact ((((K7.alloc _).alloc _).alloc _)).wide (Nat.le_refl _) (by first | omega | (simp; omega) | simp))
      · (first | exact (K12).wide (Nat.le_refl _) (by first | omega | (simp; omega) | simp) | exact ((K12.alloc _)).wide (Nat.le_refl _) (by first | omega | (simp; omega) | simp) | exact (((K12.alloc _).alloc _)).wide (Nat.le_refl _) (by first | omega | (simp; omega) | simp) | exact ((((K12.alloc _).alloc _).alloc _)).wide (Nat.le_refl _) (by first | omega | (simp; omega) | simp))
      · (first | exact (hv14).wide (Nat.le_refl _) (by first | omega | (simp; omega) | simp) | exact ((hv14.alloc _)).wide (Nat.le_refl _) (by first | omega | (simp; omega) | simp) | exact (((hv14.alloc _).alloc _)).wide (Nat.le_refl _) (by first | omega | (simp; omega) | simp) | exact ((((hv14.alloc _).alloc _).alloc _)).wide (Nat.le_refl _) (by first | omega | (simp; omega) | simp))
      · (first | exact G14 | exact gb_alloc G14 _ | exact gb_alloc (gb_alloc G14 _) _ | exact gb_alloc (gb_alloc (gb_alloc G14 _) _) _)
end Go.Proofs.Ytfifldbinnkdmaa
