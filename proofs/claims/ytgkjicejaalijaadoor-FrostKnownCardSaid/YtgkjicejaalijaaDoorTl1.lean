/- frost: FrostKnown walked. -/
import Derived.Test.YtgkjicejaalijaaDoorTo
import Derived.Test.YtgkjicejaalijaaDoorF26
import Derived.Test.YtgkjicejaalijaaDoorGraph
set_option linter.unusedVariables false
set_option linter.unusedSimpArgs false
set_option linter.unnecessarySimpa false
namespace Go.Proofs.YtgkjicejaalijaaDoor
open Go.RowKit Go.Shelf
set_option maxRecDepth 100000

theorem Bk.bx32 {A : World} {g : Nat} {t : TypeId} {a0 a1 a2 a3 a4 a5 a6 a7 a8 a9 a10 a11 a12 a13 a14 a15 a16 a17 a18 a19 a20 a21 a22 a23 a24 a25 a26 a27 a28 a29 a30 a31 : Value} (b : Bk A g t #[a0, a1, a2, a3, a4, a5, a6, a7, a8, a9, a10, a11, a12, a13, a14, a15, a16, a17, a18, a19, a20, a21, a22, a23, a24, a25, a26, a27, a28, a29, a30, a31]) : (A.cell? ⟨g, 0, none⟩ = some a0 ∧ A.cell? ⟨g, 1, none⟩ = some a1 ∧ A.cell? ⟨g, 2, none⟩ = some a2 ∧ A.cell? ⟨g, 3, none⟩ = some a3 ∧ A.cell? ⟨g, 4, none⟩ = some a4 ∧ A.cell? ⟨g, 5, none⟩ = some a5 ∧ A.cell? ⟨g, 6, none⟩ = some a6 ∧ A.cell? ⟨g, 7, none⟩ = some a7 ∧ A.cell? ⟨g, 8, none⟩ = some a8 ∧ A.cell? ⟨g, 9, none⟩ = some a9 ∧ A.cell? ⟨g, 10, none⟩ = some a10 ∧ A.cell? ⟨g, 11, none⟩ = some a11 ∧ A.cell? ⟨g, 12, none⟩ = some a12 ∧ A.cell? ⟨g, 13, none⟩ = some a13 ∧ A.cell? ⟨g, 14, none⟩ = some a14 ∧ A.cell? ⟨g, 15, none⟩ = some a15 ∧ A.cell? ⟨g, 16, none⟩ = some a16 ∧ A.cell? ⟨g, 17, none⟩ = some a17 ∧ A.cell? ⟨g, 18, none⟩ = some a18 ∧ A.cell? ⟨g, 19, none⟩ = some a19 ∧ A.cell? ⟨g, 20, none⟩ = some a20 ∧ A.cell? ⟨g, 21, none⟩ = some a21 ∧ A.cell? ⟨g, 22, none⟩ = some a22 ∧ A.cell? ⟨g, 23, none⟩ = some a23 ∧ A.cell? ⟨g, 24, none⟩ = some a24 ∧ A.cell? ⟨g, 25, none⟩ = some a25 ∧ A.cell? ⟨g, 26, none⟩ = some a26 ∧ A.cell? ⟨g, 27, none⟩ = some a27 ∧ A.cell? ⟨g, 28, none⟩ = some a28 ∧ A.cell? ⟨g, 29, none⟩ = some a29 ∧ A.cell? ⟨g, 30, none⟩ = some a30 ∧ A.cell? ⟨g, 31, none⟩ = some a31) ∧ (A.frozen? ⟨g, 0, none⟩ = false ∧ A.frozen? ⟨g, 1, none⟩ = false ∧ A.frozen? ⟨g, 2, none⟩ = false ∧ A.frozen? ⟨g, 3, none⟩ = false ∧ A.frozen? ⟨g, 4, none⟩ = false ∧ A.frozen? ⟨g, 5, none⟩ = false ∧ A.frozen? ⟨g, 6, none⟩ = false ∧ A.frozen? ⟨g, 7, none⟩ = false ∧ A.frozen? ⟨g, 8, none⟩ = false ∧ A.frozen? ⟨g, 9, none⟩ = false ∧ A.frozen? ⟨g, 10, none⟩ = false ∧ A.frozen? ⟨g, 11, none⟩ = false ∧ A.frozen? ⟨g, 12, none⟩ = false ∧ A.frozen? ⟨g, 13, none⟩ = false ∧ A.frozen? ⟨g, 14, none⟩ = false ∧ A.frozen? ⟨g, 15, none⟩ = false ∧ A.frozen? ⟨g, 16, none⟩ = false ∧ A.frozen? ⟨g, 17, none⟩ = false ∧ A.frozen? ⟨g, 18, none⟩ = false ∧ A.frozen? ⟨g, 19, none⟩ = false ∧ A.frozen? ⟨g, 20, none⟩ = false ∧ A.frozen? ⟨g, 21, none⟩ = false ∧ A.frozen? ⟨g, 22, none⟩ = false ∧ A.frozen? ⟨g, 23, none⟩ = false ∧ A.frozen? ⟨g, 24, none⟩ = false ∧ A.frozen? ⟨g, 25, none⟩ = false ∧ A.frozen? ⟨g, 26, none⟩ = false ∧ A.frozen? ⟨g, 27, none⟩ = false ∧ A.frozen? ⟨g, 28, none⟩ = false ∧ A.frozen? ⟨g, 29, none⟩ = false ∧ A.frozen? ⟨g, 30, none⟩ = false ∧ A.frozen? ⟨g, 31, none⟩ = false) ∧ g < A.heap.size := ⟨⟨b.cell 0, b.cell 1, b.cell 2, b.cell 3, b.cell 4, b.cell 5, b.cell 6, b.cell 7, b.cell 8, b.cell 9, b.cell 10, b.cell 11, b.cell 12, b.cell 13, b.cell 14, b.cell 15, b.cell 16, b.cell 17, b.cell 18, b.cell 19, b.cell 20, b.cell 21, b.cell 22, b.cell 23, b.cell 24, b.cell 25, b.cell 26, b.cell 27, b.cell 28, b.cell 29, b.cell 30, b.cell 31⟩, ⟨b.frozen 0, b.frozen 1, b.frozen 2, b.frozen 3, b.frozen 4, b.frozen 5, b.frozen 6, b.frozen 7, b.frozen 8, b.frozen 9, b.frozen 10, b.frozen 11, b.frozen 12, b.frozen 13, b.frozen 14, b.frozen 15, b.frozen 16, b.frozen 17, b.frozen 18, b.frozen 19, b.frozen 20, b.frozen 21, b.frozen 22, b.frozen 23, b.frozen 24, b.frozen 25, b.frozen 26, b.frozen 27, b.frozen 28, b.frozen 29, b.frozen 30, b.frozen 31⟩, b.lt⟩
theorem Bun.bx32 {w0 A : World} {L : List Res} (h : Bun w0 L A) (i : Nat) {g : Nat} {t : TypeId} {a0 a1 a2 a3 a4 a5 a6 a7 a8 a9 a10 a11 a12 a13 a14 a15 a16 a17 a18 a19 a20 a21 a22 a23 a24 a25 a26 a27 a28 a29 a30 a31 : Value} (hi : L[i]? = some (rbox g t #[a0, a1, a2, a3, a4, a5, a6, a7, a8, a9, a10, a11, a12, a13, a14, a15, a16, a17, a18, a19, a20, a21, a22, a23, a24, a25, a26, a27, a28, a29, a30, a31])) : (A.cell? ⟨g, 0, none⟩ = some a0 ∧ A.cell? ⟨g, 1, none⟩ = some a1 ∧ A.cell? ⟨g, 2, none⟩ = some a2 ∧ A.cell? ⟨g, 3, none⟩ = some a3 ∧ A.cell? ⟨g, 4, none⟩ = some a4 ∧ A.cell? ⟨g, 5, none⟩ = some a5 ∧ A.cell? ⟨g, 6, none⟩ = some a6 ∧ A.cell? ⟨g, 7, none⟩ = some a7 ∧ A.cell? ⟨g, 8, none⟩ = some a8 ∧ A.cell? ⟨g, 9, none⟩ = some a9 ∧ A.cell? ⟨g, 10, none⟩ = some a10 ∧ A.cell? ⟨g, 11, none⟩ = some a11 ∧ A.cell? ⟨g, 12, none⟩ = some a12 ∧ A.cell? ⟨g, 13, none⟩ = some a13 ∧ A.cell? ⟨g, 14, none⟩ = some a14 ∧ A.cell? ⟨g, 15, none⟩ = some a15 ∧ A.cell? ⟨g, 16, none⟩ = some a16 ∧ A.cell? ⟨g, 17, none⟩ = some a17 ∧ A.cell? ⟨g, 18, none⟩ = some a18 ∧ A.cell? ⟨g, 19, none⟩ = some a19 ∧ A.cell? ⟨g, 20, none⟩ = some a20 ∧ A.cell? ⟨g, 21, none⟩ = some a21 ∧ A.cell? ⟨g, 22, none⟩ = some a22 ∧ A.cell? ⟨g, 23, none⟩ = some a23 ∧ A.cell? ⟨g, 24, none⟩ = some a24 ∧ A.cell? ⟨g, 25, none⟩ = some a25 ∧ A.cell? ⟨g, 26, none⟩ = some a26 ∧ A.cell? ⟨g, 27, none⟩ = some a27 ∧ A.cell? ⟨g, 28, none⟩ = some a28 ∧ A.cell? ⟨g, 29, none⟩ = some a29 ∧ A.cell? ⟨g, 30, none⟩ = some a30 ∧ A.cell? ⟨g, 31, none⟩ = some a31) ∧ (A.frozen? ⟨g, 0, none⟩ = false ∧ A.frozen? ⟨g, 1, none⟩ = false ∧ A.frozen? ⟨g, 2, none⟩ = false ∧ A.frozen? ⟨g, 3, none⟩ = false ∧ A.frozen? ⟨g, 4, none⟩ = false ∧ A.frozen? ⟨g, 5, none⟩ = false ∧ A.frozen? ⟨g, 6, none⟩ = false ∧ A.frozen? ⟨g, 7, none⟩ = false ∧ A.frozen? ⟨g, 8, none⟩ = false ∧ A.frozen? ⟨g, 9, none⟩ = false ∧ A.frozen? ⟨g, 10, none⟩ = false ∧ A.frozen? ⟨g, 11, none⟩ = false ∧ A.frozen? ⟨g, 12, none⟩ = false ∧ A.frozen? ⟨g, 13, none⟩ = false ∧ A.frozen? ⟨g, 14, none⟩ = false ∧ A.frozen? ⟨g, 15, none⟩ = false ∧ A.frozen? ⟨g, 16, none⟩ = false ∧ A.frozen? ⟨g, 17, none⟩ = false ∧ A.frozen? ⟨g, 18, none⟩ = false ∧ A.frozen? ⟨g, 19, none⟩ = false ∧ A.frozen? ⟨g, 20, none⟩ = false ∧ A.frozen? ⟨g, 21, none⟩ = false ∧ A.frozen? ⟨g, 22, none⟩ = false ∧ A.frozen? ⟨g, 23, none⟩ = false ∧ A.frozen? ⟨g, 24, none⟩ = false ∧ A.frozen? ⟨g, 25, none⟩ = false ∧ A.frozen? ⟨g, 26, none⟩ = false ∧ A.frozen? ⟨g, 27, none⟩ = false ∧ A.frozen? ⟨g, 28, none⟩ = false ∧ A.frozen? ⟨g, 29, none⟩ = false ∧ A.frozen? ⟨g, 30, none⟩ = false ∧ A.frozen? ⟨g, 31, none⟩ = false) ∧ g < A.heap.size := Bk.bx32 (h.at i hi)
namespace L
section
variable {P : Program} {ops : Array Oper} {Q : Exit → Act → World → Prop} {md : Region.Mode} {S : World → Prop} {d : Nat}
theorem ru_p (i : Nat) {oi : Oper} {v : Value} {fuel : Nat} {listed : Array Bool} {a : Act} {w : World}
    (h : wpAnyU P md ops Q S d fuel (listed.setIfInBounds i true) (a.put oi.dst v) w) (hi : ops[i]? = some oi := by rfl)
    (hc : (Region.noSelect ops && Region.free md ops listed i && (Region.ready md ops listed).contains i && decide (i ≠ d) && closedB md ops listed) = true := by kernel_rfl)
    (hQ : ∀ c a w, Q (.panic c) (a.put oi.dst v) w → Q (.panic c) a w := by exact fun _ _ _ h => h) (hS : listed.getD d true = false → S w := by exact fun hd_ => by first | exact absurd hd_ (by decide) | assumption)
    (hw : Region.wanted oi (yielded ops a.tmps) = true := by first | kernel_rfl | rfl) (hy : ∀ w, (fun _ => True) w → (execOp a.eval oi).run P w = .ok (.value v) w := by (intro wS hwS; clear hwS; go_simp; (try with_reducible rfl))) : wpAnyU P md ops Q S d (fuel + 1) listed a w :=
  ru_pure i hi hc hQ hS (.inl ⟨hw, hy⟩) h
end
set_option maxHeartbeats 4000000 in
theorem law_b  (w : World)  :
    Calls Tryd.prog 6 #[] w (fun e w' => ∃ a, e = .returned (.agg #[.int .i64 100, .int .i64 10, .slice (some ⟨a, 0, none⟩) 2 2, .int .i64 100000, .int .i64 200000, .int .i64 300000, .int .i64 500000, .int .i64 600000]) ∧ w.heap.size ≤ a ∧ Bk w' a 31 #[.int .i64 0, .int .i64 1000000, .int .i64 1000000, .int .i64 100, .int .i64 400000, .int .i64 500000] ∧ w.grownBy w' none) := by
  have F1 : Bun w [] w := Bun.nil _
  go_enter Tryd.func6, Tryd.ntmps6
  go_wp2_with fail
  have F2 := F1.new 26 #[.int .i64 0, .int .i64 0, .slice none 0 0, .int .i64 0, .int .i64 0, .int .i64 0, .int .i64 0, .int .i64 0] (n := w.heap.size) (by simp)
  clear F1
  refine (one_c 1000000 _).mono ?_
  rintro e w5 ⟨rfl, hg3⟩
  have hg3s := hg3.size
  (try simp at hg3s)
  have F6 := F2.gn hg3
  clear F2
  clear hg3
  go_wp2_with fail
  refine (span_c 400000 500000 _).mono ?_
  rintro e w9 ⟨rfl, hg7⟩
  have hg7s := hg7.size
  (try simp at hg7s)
  have F10 := F6.gn hg7
  clear F6
  clear hg7
  go_wp2_with fail
  have F11 := F10.new 31 #[.int .i64 0, .int .i64 1000000, .int .i64 1000000, .int .i64 100, .int .i64 400000, .int .i64 500000] (n := w9.heap.size) (by simp)
  clear F10
  refine (span_c 100000 200000 _).mono ?_
  rintro e w14 ⟨rfl, hg12⟩
  have hg12s := hg12.size
  (try simp at hg12s)
  have F15 := F11.gn hg12
  clear F11
  clear hg12
  go_wp2_with fail
  refine (span_c 500000 600000 _).mono ?_
  rintro e w18 ⟨rfl, hg16⟩
  have hg16s := hg16.size
  (try simp at hg16s)
  have F19 := F15.gn hg16
  clear F15
  clear hg16
  have b20 := F19.bx8 1 rfl
  go_wp2_with fail
  clear b20
  have F21 := (F19.front 1 rfl rfl).pt8 (.int .i64 100) (.int .i64 10) (.slice (some ⟨w9.heap.size, 0, none⟩) 2 2) (.int .i64 100000) (.int .i64 200000) (.int .i64 300000) (.int .i64 500000) (.int .i64 600000)
  clear F19
  have kb22 := F21.bx8 0 rfl
  go_wp2_with fail
  exact bodyPost_ret (v := .agg #[.int .i64 100, .int .i64 10, .slice (some ⟨w9.heap.size, 0, none⟩) 2 2, .int .i64 100000, .int .i64 200000, .int .i64 300000, .int .i64 500000, .int .i64 600000]) (by simp [results, Tryd.results6, go_sem, kb22]) rfl (⟨w9.heap.size, rfl, by first | omega | (simp; omega), (F21.at 1 rfl : Bk _ w9.heap.size 31 #[.int .i64 0, .int .i64 1000000, .int .i64 1000000, .int .i64 100, .int .i64 400000, .int .i64 500000]), F21.gb⟩)

theorem getD_at {α : Type} {l : List α} {i : Nat} {d : α} (h : i < l.length) : l[i]? = some (l.getD i d) := by simp [h]
theorem root_n (n r : Int) (w : World) (h : n ≤ 9223372036854775807) (hr : root n = r) : Calls Tryd.prog 10 #[.int .i64 n] w (fun e w' => e = .returned (.int .i64 r) ∧ w = w') := by
  subst hr
  exact root_c n w h
theorem law_g (w : World) : Calls Tryd.prog 6 #[] w (fun e w' => ∃ a lo hi, e = .returned (.agg #[.int .i64 100, .int .i64 10, .slice (some ⟨a, 0, none⟩) 2 2, .int .i64 100000, .int .i64 200000, .int .i64 300000, .int .i64 500000, .int .i64 600000]) ∧ w.heap.size ≤ lo ∧ hi ≤ w'.heap.size ∧ Sl covEnc 3 lo hi w' (.slice (some ⟨a, 0, none⟩) 2 2) lawF.cov ∧ w.grownBy w' none) := law_c w
theorem step_w {i : Nat} {x y : Ice} {d : Wea} (hx : iceL[i]? = some x) (hd : dayL[i]? = some d) (hy : wantL[i]? = some y) (lo hi : Nat) (v : Value) (w : World) (hl : Sl covEnc 3 lo hi w v lawF.cov) (h2 : hi ≤ w.heap.size) :
    Calls Tryd.prog 14 #[.agg (froC lawF v), .agg (iceC x), .agg (weaC d d.clear)] w (Ret (.tuple #[.agg (iceC y), .int .i64 0]) w) := by
  have h := step_c lo hi v lawF x d w hl h2
  have hi' : i < 5 := (List.getElem?_eq_some_iff.1 hx).1
  obtain ⟨e1, e2⟩ := wantL_is i hi'
  rw [List.getD_eq_getElem?_getD, hx, List.getD_eq_getElem?_getD, hd, List.getD_eq_getElem?_getD, hy] at e1
  rw [List.getD_eq_getElem?_getD, hx, List.getD_eq_getElem?_getD, hd] at e2
  simp only [Option.getD_some] at e1 e2
  rw [e1, e2] at h
  exact h
theorem rng_known_walk (t : Nat → Value) : ((List.range 133).map t).toArray = List.toArray [t 0, t 1, t 2, t 3, t 4, t 5, t 6, t 7, t 8, t 9, t 10, t 11, t 12, t 13, t 14, t 15, t 16, t 17, t 18, t 19, t 20, t 21, t 22, t 23, t 24, t 25, t 26, t 27, t 28, t 29, t 30, t 31, t 32, t 33, t 34, t 35, t 36, t 37, t 38, t 39, t 40, t 41, t 42, t 43, t 44, t 45, t 46, t 47, t 48, t 49, t 50, t 51, t 52, t 53, t 54, t 55, t 56, t 57, t 58, t 59, t 60, t 61, t 62, t 63, t 64, t 65, t 66, t 67, t 68, t 69, t 70, t 71, t 72, t 73, t 74, t 75, t 76, t 77, t 78, t 79, t 80, t 81, t 82, t 83, t 84, t 85, t 86, t 87, t 88, t 89, t 90, t 91, t 92, t 93, t 94, t 95, t 96, t 97, t 98, t 99, t 100, t 101, t 102, t 103, t 104, t 105, t 106, t 107, t 108, t 109, t 110, t 111, t 112, t 113, t 114, t 115, t 116, t 117, t 118, t 119, t 120, t 121, t 122, t 123, t 124, t 125, t 126, t 127, t 128, t 129, t 130, t 131, t 132] := rfl
set_option maxHeartbeats 32000000 in
theorem known_walk  (w : World) (ht : Lib.TabIs Tryd.prog w powName .u64 Lib.pow10Tab) (hg : ∀ g, Tryd.prog.globalNamed powName = some g → g < w.heap.size) :
    Calls Tryd.prog 3 #[] w (Ret (.bool true) w) := by
  have F1 : Bun w [] w := Bun.nil _
  have HTB := Lib.hid ht
  clear ht
  have F2 := Bun.tab0 F1 HTB.out hg
  clear F1
  go_enter Tryd.func3, Tryd.ntmps3
  go_wp2_with fail
  have F3 := F2.new 27 #[.int .i64 0, .int .i64 0, .slice none 0 0, .int .i64 0, .int .i64 0, .int .i64 0, .int .i64 0, .int .i64 0, .int .i64 0, .int .i64 0, .slice none 0 0, .int .i64 0, .int .i64 0, .int .i64 0, .int .i64 0, .int .i64 0, .int .i64 0, .int .i64 0, .slice none 0 0, .int .i64 0, .int .i64 0, .int .i64 0, .int .i64 0, .int .i64 0, .int .i64 0, .int .i64 0, .slice none 0 0, .int .i64 0, .int .i64 0, .int .i64 0, .int .i64 0, .int .i64 0] (n := w.heap.size) (by simp)
  clear F2
  refine wp_loop_rounds 5 ?_
  rw [rounds_succ]
  go_wp2_with fail
  refine (law_b _).mono ?_
  rintro e w7 ⟨acb4, rfl, hxcb4, hbcb4, hg5⟩
  have hg5s := hg5.size
  (try simp at hg5s)
  have F8 := F3.add (rbox acb4 31 #[.int .i64 0, .int .i64 1000000, .int .i64 1000000, .int .i64 100, .int .i64 400000, .int .i64 500000]) hg5 (hbcb4) (fun g e => by obtain rfl : g = acb4 := e; exact ⟨hxcb4, hbcb4.lt⟩)
  clear F3
  clear hg5
  have b9 := F8.bx32 1 rfl
  go_wp2_with fail
  clear b9
  have F10 := ((F8.front 1 rfl rfl).set 0 (.int .i64 100)).nf #[.int .i64 100, .int .i64 0, .slice none 0 0, .int .i64 0, .int .i64 0, .int .i64 0, .int .i64 0, .int .i64 0, .int .i64 0, .int .i64 0, .slice none 0 0, .int .i64 0, .int .i64 0, .int .i64 0, .int .i64 0, .int .i64 0, .int .i64 0, .int .i64 0, .slice none 0 0, .int .i64 0, .int .i64 0, .int .i64 0, .int .i64 0, .int .i64 0, .int .i64 0, .int .i64 0, .slice none 0 0, .int .i64 0, .int .i64 0, .int .i64 0, .int .i64 0, .int .i64 0] rfl
  clear F8
  have F11 := (F10.set 1 (.int .i64 10)).nf #[.int .i64 100, .int .i64 10, .slice none 0 0, .int .i64 0, .int .i64 0, .int .i64 0, .int .i64 0, .int .i64 0, .int .i64 0, .int .i64 0, .slice none 0 0, .int .i64 0, .int .i64 0, .int .i64 0, .int .i64 0, .int .i64 0, .int .i64 0, .int .i64 0, .slice none 0 0, .int .i64 0, .int .i64 0, .int .i64 0, .int .i64 0, .int .i64 0, .int .i64 0, .int .i64 0, .slice none 0 0, .int .i64 0, .int .i64 0, .int .i64 0, .int .i64 0, .int .i64 0] rfl
  clear F10
  have F12 := (F11.set 2 (.slice (some ⟨acb4, 0, none⟩) 2 2)).nf #[.int .i64 100, .int .i64 10, .slice (some ⟨acb4, 0, none⟩) 2 2, .int .i64 0, .int .i64 0, .int .i64 0, .int .i64 0, .int .i64 0, .int .i64 0, .int .i64 0, .slice none 0 0, .int .i64 0, .int .i64 0, .int .i64 0, .int .i64 0, .int .i64 0, .int .i64 0, .int .i64 0, .slice none 0 0, .int .i64 0, .int .i64 0, .int .i64 0, .int .i64 0, .int .i64 0, .int .i64 0, .int .i64 0, .slice none 0 0, .int .i64 0, .int .i64 0, .int .i64 0, .int .i64 0, .int .i64 0] rfl
  clear F11
  have F13 := (F12.set 3 (.int .i64 100000)).nf #[.int .i64 100, .int .i64 10, .slice (some ⟨acb4, 0, none⟩) 2 2, .int .i64 100000, .int .i64 0, .int .i64 0, .int .i64 0, .int .i64 0, .int .i64 0, .int .i64 0, .slice none 0 0, .int .i64 0, .int .i64 0, .int .i64 0, .int .i64 0, .int .i64 0, .int .i64 0, .int .i64 0, .slice none 0 0, .int .i64 0, .int .i64 0, .int .i64 0, .int .i64 0, .int .i64 0, .int .i64 0, .int .i64 0, .slice none 0 0, .int .i64 0, .int .i64 0, .int .i64 0, .int .i64 0, .int .i64 0] rfl
  clear F12
  have F14 := (F13.set 4 (.int .i64 200000)).nf #[.int .i64 100, .int .i64 10, .slice (some ⟨acb4, 0, none⟩) 2 2, .int .i64 100000, .int .i64 200000, .int .i64 0, .int .i64 0, .int .i64 0, .int .i64 0, .int .i64 0, .slice none 0 0, .int .i64 0, .int .i64 0, .int .i64 0, .int .i64 0, .int .i64 0, .int .i64 0, .int .i64 0, .slice none 0 0, .int .i64 0, .int .i64 0, .int .i64 0, .int .i64 0, .int .i64 0, .int .i64 0, .int .i64 0, .slice none 0 0, .int .i64 0, .int .i64 0, .int .i64 0, .int .i64 0, .int .i64 0] rfl
  clear F13
  have F15 := (F14.set 5 (.int .i64 300000)).nf #[.int .i64 100, .int .i64 10, .slice (some ⟨acb4, 0, none⟩) 2 2, .int .i64 100000, .int .i64 200000, .int .i64 300000, .int .i64 0, .int .i64 0, .int .i64 0, .int .i64 0, .slice none 0 0, .int .i64 0, .int .i64 0, .int .i64 0, .int .i64 0, .int .i64 0, .int .i64 0, .int .i64 0, .slice none 0 0, .int .i64 0, .int .i64 0, .int .i64 0, .int .i64 0, .int .i64 0, .int .i64 0, .int .i64 0, .slice none 0 0, .int .i64 0, .int .i64 0, .int .i64 0, .int .i64 0, .int .i64 0] rfl
  clear F14
  have F16 := (F15.set 6 (.int .i64 500000)).nf #[.int .i64 100, .int .i64 10, .slice (some ⟨acb4, 0, none⟩) 2 2, .int .i64 100000, .int .i64 200000, .int .i64 300000, .int .i64 500000, .int .i64 0, .int .i64 0, .int .i64 0, .slice none 0 0, .int .i64 0, .int .i64 0, .int .i64 0, .int .i64 0, .int .i64 0, .int .i64 0, .int .i64 0, .slice none 0 0, .int .i64 0, .int .i64 0, .int .i64 0, .int .i64 0, .int .i64 0, .int .i64 0, .int .i64 0, .slice none 0 0, .int .i64 0, .int .i64 0, .int .i64 0, .int .i64 0, .int .i64 0] rfl
  clear F15
  have F17 := (F16.set 7 (.int .i64 600000)).nf #[.int .i64 100, .int .i64 10, .slice (some ⟨acb4, 0, none⟩) 2 2, .int .i64 100000, .int .i64 200000, .int .i64 300000, .int .i64 500000, .int .i64 600000, .int .i64 0, .int .i64 0, .slice none 0 0, .int .i64 0, .int .i64 0, .int .i64 0, .int .i64 0, .int .i64 0, .int .i64 0, .int .i64 0, .slice none 0 0, .int .i64 0, .int .i64 0, .int .i64 0, .int .i64 0, .int .i64 0, .int .i64 0, .int .i64 0, .slice none 0 0, .int .i64 0, .int .i64 0, .int .i64 0, .int .i64 0, .int .i64 0] rfl
  clear F16
  have Fn_ := F17
  (try dsimp only [List.eraseIdx_cons_succ, List.eraseIdx_cons_zero] at Fn_)
  obtain ⟨w18, hx19, F21, hxs20⟩ := Fn_.name
  (try simp at hxs20)
  rw [hx19]
  clear hx19 F17 Fn_
  rw [rounds_succ]
  go_wp2_with fail
  refine (law_b _).mono ?_
  rintro e w25 ⟨acb22, rfl, hxcb22, hbcb22, hg23⟩
  have hg23s := hg23.size
  (try simp at hg23s)
  have F26 := F21.add (rbox acb22 31 #[.int .i64 0, .int .i64 1000000, .int .i64 1000000, .int .i64 100, .int .i64 400000, .int .i64 500000]) hg23 (hbcb22) (fun g e => by obtain rfl : g = acb22 := e; exact ⟨hxcb22, hbcb22.lt⟩)
  clear F21
  clear hg23
  have b27 := F26.bx32 1 rfl
  go_wp2_with fail
  clear b27
  have F28 := ((F26.front 1 rfl rfl).set 8 (.int .i64 100)).nf #[.int .i64 100, .int .i64 10, .slice (some ⟨acb4, 0, none⟩) 2 2, .int .i64 100000, .int .i64 200000, .int .i64 300000, .int .i64 500000, .int .i64 600000, .int .i64 100, .int .i64 0, .slice none 0 0, .int .i64 0, .int .i64 0, .int .i64 0, .int .i64 0, .int .i64 0, .int .i64 0, .int .i64 0, .slice none 0 0, .int .i64 0, .int .i64 0, .int .i64 0, .int .i64 0, .int .i64 0, .int .i64 0, .int .i64 0, .slice none 0 0, .int .i64 0, .int .i64 0, .int .i64 0, .int .i64 0, .int .i64 0] rfl
  clear F26
  have F29 := (F28.set 9 (.int .i64 10)).nf #[.int .i64 100, .int .i64 10, .slice (some ⟨acb4, 0, none⟩) 2 2, .int .i64 100000, .int .i64 200000, .int .i64 300000, .int .i64 500000, .int .i64 600000, .int .i64 100, .int .i64 10, .slice none 0 0, .int .i64 0, .int .i64 0, .int .i64 0, .int .i64 0, .int .i64 0, .int .i64 0, .int .i64 0, .slice none 0 0, .int .i64 0, .int .i64 0, .int .i64 0, .int .i64 0, .int .i64 0, .int .i64 0, .int .i64 0, .slice none 0 0, .int .i64 0, .int .i64 0, .int .i64 0, .int .i64 0, .int .i64 0] rfl
  clear F28
  have F30 := (F29.set 10 (.slice (some ⟨acb22, 0, none⟩) 2 2)).nf #[.int .i64 100, .int .i64 10, .slice (some ⟨acb4, 0, none⟩) 2 2, .int .i64 100000, .int .i64 200000, .int .i64 300000, .int .i64 500000, .int .i64 600000, .int .i64 100, .int .i64 10, .slice (some ⟨acb22, 0, none⟩) 2 2, .int .i64 0, .int .i64 0, .int .i64 0, .int .i64 0, .int .i64 0, .int .i64 0, .int .i64 0, .slice none 0 0, .int .i64 0, .int .i64 0, .int .i64 0, .int .i64 0, .int .i64 0, .int .i64 0, .int .i64 0, .slice none 0 0, .int .i64 0, .int .i64 0, .int .i64 0, .int .i64 0, .int .i64 0] rfl
  clear F29
  have F31 := (F30.set 11 (.int .i64 100000)).nf #[.int .i64 100, .int .i64 10, .slice (some ⟨acb4, 0, none⟩) 2 2, .int .i64 100000, .int .i64 200000, .int .i64 300000, .int .i64 500000, .int .i64 600000, .int .i64 100, .int .i64 10, .slice (some ⟨acb22, 0, none⟩) 2 2, .int .i64 100000, .int .i64 0, .int .i64 0, .int .i64 0, .int .i64 0, .int .i64 0, .int .i64 0, .slice none 0 0, .int .i64 0, .int .i64 0, .int .i64 0, .int .i64 0, .int .i64 0, .int .i64 0, .int .i64 0, .slice none 0 0, .int .i64 0, .int .i64 0, .int .i64 0, .int .i64 0, .int .i64 0] rfl
  clear F30
  have F32 := (F31.set 12 (.int .i64 200000)).nf #[.int .i64 100, .int .i64 10, .slice (some ⟨acb4, 0, none⟩) 2 2, .int .i64 100000, .int .i64 200000, .int .i64 300000, .int .i64 500000, .int .i64 600000, .int .i64 100, .int .i64 10, .slice (some ⟨acb22, 0, none⟩) 2 2, .int .i64 100000, .int .i64 200000, .int .i64 0, .int .i64 0, .int .i64 0, .int .i64 0, .int .i64 0, .slice none 0 0, .int .i64 0, .int .i64 0, .int .i64 0, .int .i64 0, .int .i64 0, .int .i64 0, .int .i64 0, .slice none 0 0, .int .i64 0, .int .i64 0, .int .i64 0, .int .i64 0, .int .i64 0] rfl
  clear F31
  have F33 := (F32.set 13 (.int .i64 300000)).nf #[.int .i64 100, .int .i64 10, .slice (some ⟨acb4, 0, none⟩) 2 2, .int .i64 100000, .int .i64 200000, .int .i64 300000, .int .i64 500000, .int .i64 600000, .int .i64 100, .int .i64 10, .slice (some ⟨acb22, 0, none⟩) 2 2, .int .i64 100000, .int .i64 200000, .int .i64 300000, .int .i64 0, .int .i64 0, .int .i64 0, .int .i64 0, .slice none 0 0, .int .i64 0, .int .i64 0, .int .i64 0, .int .i64 0, .int .i64 0, .int .i64 0, .int .i64 0, .slice none 0 0, .int .i64 0, .int .i64 0, .int .i64 0, .int .i64 0, .int .i64 0] rfl
  clear F32
  have F34 := (F33.set 14 (.int .i64 500000)).nf #[.int .i64 100, .int .i64 10, .slice (some ⟨acb4, 0, none⟩) 2 2, .int .i64 100000, .int .i64 200000, .int .i64 300000, .int .i64 500000, .int .i64 600000, .int .i64 100, .int .i64 10, .slice (some ⟨acb22, 0, none⟩) 2 2, .int .i64 100000, .int .i64 200000, .int .i64 300000, .int .i64 500000, .int .i64 0, .int .i64 0, .int .i64 0, .slice none 0 0, .int .i64 0, .int .i64 0, .int .i64 0, .int .i64 0, .int .i64 0, .int .i64 0, .int .i64 0, .slice none 0 0, .int .i64 0, .int .i64 0, .int .i64 0, .int .i64 0, .int .i64 0] rfl
  clear F33
  have F35 := (F34.set 15 (.int .i64 600000)).nf #[.int .i64 100, .int .i64 10, .slice (some ⟨acb4, 0, none⟩) 2 2, .int .i64 100000, .int .i64 200000, .int .i64 300000, .int .i64 500000, .int .i64 600000, .int .i64 100, .int .i64 10, .slice (some ⟨acb22, 0, none⟩) 2 2, .int .i64 100000, .int .i64 200000, .int .i64 300000, .int .i64 500000, .int .i64 600000, .int .i64 0, .int .i64 0, .slice none 0 0, .int .i64 0, .int .i64 0, .int .i64 0, .int .i64 0, .int .i64 0, .int .i64 0, .int .i64 0, .slice none 0 0, .int .i64 0, .int .i64 0, .int .i64 0, .int .i64 0, .int .i64 0] rfl
  clear F34
  have Fn_ := F35
  (try dsimp only [List.eraseIdx_cons_succ, List.eraseIdx_cons_zero] at Fn_)
  obtain ⟨w36, hx37, F39, hxs38⟩ := Fn_.name
  (try simp at hxs38)
  rw [hx37]
  clear hx37 F35 Fn_
  rw [rounds_succ]
  go_wp2_with fail
  refine (law_b _).mono ?_
  rintro e w43 ⟨acb40, rfl, hxcb40, hbcb40, hg41⟩
  have hg41s := hg41.size
  (try simp at hg41s)
  have F44 := F39.add (rbox acb40 31 #[.int .i64 0, .int .i64 1000000, .int .i64 1000000, .int .i64 100, .int .i64 400000, .int .i64 500000]) hg41 (hbcb40) (fun g e => by obtain rfl : g = acb40 := e; exact ⟨hxcb40, hbcb40.lt⟩)
  clear F39
  clear hg41
  have b45 := F44.bx32 1 rfl
  go_wp2_with fail
  clear b45
  have F46 := ((F44.front 1 rfl rfl).set 16 (.int .i64 100)).nf #[.int .i64 100, .int .i64 10, .slice (some ⟨acb4, 0, none⟩) 2 2, .int .i64 100000, .int .i64 200000, .int .i64 300000, .int .i64 500000, .int .i64 600000, .int .i64 100, .int .i64 10, .slice (some ⟨acb22, 0, none⟩) 2 2, .int .i64 100000, .int .i64 200000, .int .i64 300000, .int .i64 500000, .int .i64 600000, .int .i64 100, .int .i64 0, .slice none 0 0, .int .i64 0, .int .i64 0, .int .i64 0, .int .i64 0, .int .i64 0, .int .i64 0, .int .i64 0, .slice none 0 0, .int .i64 0, .int .i64 0, .int .i64 0, .int .i64 0, .int .i64 0] rfl
  clear F44
  have F47 := (F46.set 17 (.int .i64 10)).nf #[.int .i64 100, .int .i64 10, .slice (some ⟨acb4, 0, none⟩) 2 2, .int .i64 100000, .int .i64 200000, .int .i64 300000, .int .i64 500000, .int .i64 600000, .int .i64 100, .int .i64 10, .slice (some ⟨acb22, 0, none⟩) 2 2, .int .i64 100000, .int .i64 200000, .int .i64 300000, .int .i64 500000, .int .i64 600000, .int .i64 100, .int .i64 10, .slice none 0 0, .int .i64 0, .int .i64 0, .int .i64 0, .int .i64 0, .int .i64 0, .int .i64 0, .int .i64 0, .slice none 0 0, .int .i64 0, .int .i64 0, .int .i64 0, .int .i64 0, .int .i64 0] rfl
  clear F46
  have F48 := (F47.set 18 (.slice (some ⟨acb40, 0, none⟩) 2 2)).nf #[.int .i64 100, .int .i64 10, .slice (some ⟨acb4, 0, none⟩) 2 2, .int .i64 100000, .int .i64 200000, .int .i64 300000, .int .i64 500000, .int .i64 600000, .int .i64 100, .int .i64 10, .slice (some ⟨acb22, 0, none⟩) 2 2, .int .i64 100000, .int .i64 200000, .int .i64 300000, .int .i64 500000, .int .i64 600000, .int .i64 100, .int .i64 10, .slice (some ⟨acb40, 0, none⟩) 2 2, .int .i64 0, .int .i64 0, .int .i64 0, .int .i64 0, .int .i64 0, .int .i64 0, .int .i64 0, .slice none 0 0, .int .i64 0, .int .i64 0, .int .i64 0, .int .i64 0, .int .i64 0] rfl
  clear F47
  have F49 := (F48.set 19 (.int .i64 100000)).nf #[.int .i64 100, .int .i64 10, .slice (some ⟨acb4, 0, none⟩) 2 2, .int .i64 100000, .int .i64 200000, .int .i64 300000, .int .i64 500000, .int .i64 600000, .int .i64 100, .int .i64 10, .slice (some ⟨acb22, 0, none⟩) 2 2, .int .i64 100000, .int .i64 200000, .int .i64 300000, .int .i64 500000, .int .i64 600000, .int .i64 100, .int .i64 10, .slice (some ⟨acb40, 0, none⟩) 2 2, .int .i64 100000, .int .i64 0, .int .i64 0, .int .i64 0, .int .i64 0, .int .i64 0, .int .i64 0, .slice none 0 0, .int .i64 0, .int .i64 0, .int .i64 0, .int .i64 0, .int .i64 0] rfl
  clear F48
  have F50 := (F49.set 20 (.int .i64 200000)).nf #[.int .i64 100, .int .i64 10, .slice (some ⟨acb4, 0, none⟩) 2 2, .int .i64 100000, .int .i64 200000, .int .i64 300000, .int .i64 500000, .int .i64 600000, .int .i64 100, .int .i64 10, .slice (some ⟨acb22, 0, none⟩) 2 2, .int .i64 100000, .int .i64 200000, .int .i64 300000, .int .i64 500000, .int .i64 600000, .int .i64 100, .int .i64 10, .slice (some ⟨acb40, 0, none⟩) 2 2, .int .i64 100000, .int .i64 200000, .int .i64 0, .int .i64 0, .int .i64 0, .int .i64 0, .int .i64 0, .slice none 0 0, .int .i64 0, .int .i64 0, .int .i64 0, .int .i64 0, .int .i64 0] rfl
  clear F49
  have F51 := (F50.set 21 (.int .i64 300000)).nf #[.int .i64 100, .int .i64 10, .slice (some ⟨acb4, 0, none⟩) 2 2, .int .i64 100000, .int .i64 200000, .int .i64 300000, .int .i64 500000, .int .i64 600000, .int .i64 100, .int .i64 10, .slice (some ⟨acb22, 0, none⟩) 2 2, .int .i64 100000, .int .i64 200000, .int .i64 300000, .int .i64 500000, .int .i64 600000, .int .i64 100, .int .i64 10, .slice (some ⟨acb40, 0, none⟩) 2 2, .int .i64 100000, .int .i64 200000, .int .i64 300000, .int .i64 0, .int .i64 0, .int .i64 0, .int .i64 0, .slice none 0 0, .int .i64 0, .int .i64 0, .int .i64 0, .int .i64 0, .int .i64 0] rfl
  clear F50
  have F52 := (F51.set 22 (.int .i64 500000)).nf #[.int .i64 100, .int .i64 10, .slice (some ⟨acb4, 0, none⟩) 2 2, .int .i64 100000, .int .i64 200000, .int .i64 300000, .int .i64 500000, .int .i64 600000, .int .i64 100, .int .i64 10, .slice (some ⟨acb22, 0, none⟩) 2 2, .int .i64 100000, .int .i64 200000, .int .i64 300000, .int .i64 500000, .int .i64 600000, .int .i64 100, .int .i64 10, .slice (some ⟨acb40, 0, none⟩) 2 2, .int .i64 100000, .int .i64 200000, .int .i64 300000, .int .i64 500000, .int .i64 0, .int .i64 0, .int .i64 0, .slice none 0 0, .int .i64 0, .int .i64 0, .int .i64 0, .int .i64 0, .int .i64 0] rfl
  clear F51
  have F53 := (F52.set 23 (.int .i64 600000)).nf #[.int .i64 100, .int .i64 10, .slice (some ⟨acb4, 0, none⟩) 2 2, .int .i64 100000, .int .i64 200000, .int .i64 300000, .int .i64 500000, .int .i64 600000, .int .i64 100, .int .i64 10, .slice (some ⟨acb22, 0, none⟩) 2 2, .int .i64 100000, .int .i64 200000, .int .i64 300000, .int .i64 500000, .int .i64 600000, .int .i64 100, .int .i64 10, .slice (some ⟨acb40, 0, none⟩) 2 2, .int .i64 100000, .int .i64 200000, .int .i64 300000, .int .i64 500000, .int .i64 600000, .int .i64 0, .int .i64 0, .slice none 0 0, .int .i64 0, .int .i64 0, .int .i64 0, .int .i64 0, .int .i64 0] rfl
  clear F52
  have Fn_ := F53
  (try dsimp only [List.eraseIdx_cons_succ, List.eraseIdx_cons_zero] at Fn_)
  obtain ⟨w54, hx55, F57, hxs56⟩ := Fn_.name
  (try simp at hxs56)
  rw [hx55]
  clear hx55 F53 Fn_
  rw [rounds_succ]
  go_wp2_with fail
  refine (law_b _).mono ?_
  rintro e w61 ⟨acb58, rfl, hxcb58, hbcb58, hg59⟩
  have hg59s := hg59.size
  (try simp at hg59s)
  have F62 := F57.add (rbox acb58 31 #[.int .i64 0, .int .i64 1000000, .int .i64 1000000, .int .i64 100, .int .i64 400000, .int .i64 500000]) hg59 (hbcb58) (fun g e => by obtain rfl : g = acb58 := e; exact ⟨hxcb58, hbcb58.lt⟩)
  clear F57
  clear hg59
  have b63 := F62.bx32 1 rfl
  go_wp2_with fail
  clear b63
  have F64 := ((F62.front 1 rfl rfl).set 24 (.int .i64 100)).nf #[.int .i64 100, .int .i64 10, .slice (some ⟨acb4, 0, none⟩) 2 2, .int .i64 100000, .int .i64 200000, .int .i64 300000, .int .i64 500000, .int .i64 600000, .int .i64 100, .int .i64 10, .slice (some ⟨acb22, 0, none⟩) 2 2, .int .i64 100000, .int .i64 200000, .int .i64 300000, .int .i64 500000, .int .i64 600000, .int .i64 100, .int .i64 10, .slice (some ⟨acb40, 0, none⟩) 2 2, .int .i64 100000, .int .i64 200000, .int .i64 300000, .int .i64 500000, .int .i64 600000, .int .i64 100, .int .i64 0, .slice none 0 0, .int .i64 0, .int .i64 0, .int .i64 0, .int .i64 0, .int .i64 0] rfl
  clear F62
  have F65 := (F64.set 25 (.int .i64 10)).nf #[.int .i64 100, .int .i64 10, .slice (some ⟨acb4, 0, none⟩) 2 2, .int .i64 100000, .int .i64 200000, .int .i64 300000, .int .i64 500000, .int .i64 600000, .int .i64 100, .int .i64 10, .slice (some ⟨acb22, 0, none⟩) 2 2, .int .i64 100000, .int .i64 200000, .int .i64 300000, .int .i64 500000, .int .i64 600000, .int .i64 100, .int .i64 10, .slice (some ⟨acb40, 0, none⟩) 2 2, .int .i64 100000, .int .i64 200000, .int .i64 300000, .int .i64 500000, .int .i64 600000, .int .i64 100, .int .i64 10, .slice none 0 0, .int .i64 0, .int .i64 0, .int .i64 0, .int .i64 0, .int .i64 0] rfl
  clear F64
  have F66 := (F65.set 26 (.slice (some ⟨acb58, 0, none⟩) 2 2)).nf #[.int .i64 100, .int .i64 10, .slice (some ⟨acb4, 0, none⟩) 2 2, .int .i64 100000, .int .i64 200000, .int .i64 300000, .int .i64 500000, .int .i64 600000, .int .i64 100, .int .i64 10, .slice (some ⟨acb22, 0, none⟩) 2 2, .int .i64 100000, .int .i64 200000, .int .i64 300000, .int .i64 500000, .int .i64 600000, .int .i64 100, .int .i64 10, .slice (some ⟨acb40, 0, none⟩) 2 2, .int .i64 100000, .int .i64 200000, .int .i64 300000, .int .i64 500000, .int .i64 600000, .int .i64 100, .int .i64 10, .slice (some ⟨acb58, 0, none⟩) 2 2, .int .i64 0, .int .i64 0, .int .i64 0, .int .i64 0, .int .i64 0] rfl
  clear F65
  have F67 := (F66.set 27 (.int .i64 100000)).nf #[.int .i64 100, .int .i64 10, .slice (some ⟨acb4, 0, none⟩) 2 2, .int .i64 100000, .int .i64 200000, .int .i64 300000, .int .i64 500000, .int .i64 600000, .int .i64 100, .int .i64 10, .slice (some ⟨acb22, 0, none⟩) 2 2, .int .i64 100000, .int .i64 200000, .int .i64 300000, .int .i64 500000, .int .i64 600000, .int .i64 100, .int .i64 10, .slice (some ⟨acb40, 0, none⟩) 2 2, .int .i64 100000, .int .i64 200000, .int .i64 300000, .int .i64 500000, .int .i64 600000, .int .i64 100, .int .i64 10, .slice (some ⟨acb58, 0, none⟩) 2 2, .int .i64 100000, .int .i64 0, .int .i64 0, .int .i64 0, .int .i64 0] rfl
  clear F66
  have F68 := (F67.set 28 (.int .i64 200000)).nf #[.int .i64 100, .int .i64 10, .slice (some ⟨acb4, 0, none⟩) 2 2, .int .i64 100000, .int .i64 200000, .int .i64 300000, .int .i64 500000, .int .i64 600000, .int .i64 100, .int .i64 10, .slice (some ⟨acb22, 0, none⟩) 2 2, .int .i64 100000, .int .i64 200000, .int .i64 300000, .int .i64 500000, .int .i64 600000, .int .i64 100, .int .i64 10, .slice (some ⟨acb40, 0, none⟩) 2 2, .int .i64 100000, .int .i64 200000, .int .i64 300000, .int .i64 500000, .int .i64 600000, .int .i64 100, .int .i64 10, .slice (some ⟨acb58, 0, none⟩) 2 2, .int .i64 100000, .int .i64 200000, .int .i64 0, .int .i64 0, .int .i64 0] rfl
  clear F67
  have F69 := (F68.set 29 (.int .i64 300000)).nf #[.int .i64 100, .int .i64 10, .slice (some ⟨acb4, 0, none⟩) 2 2, .int .i64 100000, .int .i64 200000, .int .i64 300000, .int .i64 500000, .int .i64 600000, .int .i64 100, .int .i64 10, .slice (some ⟨acb22, 0, none⟩) 2 2, .int .i64 100000, .int .i64 200000, .int .i64 300000, .int .i64 500000, .int .i64 600000, .int .i64 100, .int .i64 10, .slice (some ⟨acb40, 0, none⟩) 2 2, .int .i64 100000, .int .i64 200000, .int .i64 300000, .int .i64 500000, .int .i64 600000, .int .i64 100, .int .i64 10, .slice (some ⟨acb58, 0, none⟩) 2 2, .int .i64 100000, .int .i64 200000, .int .i64 300000, .int .i64 0, .int .i64 0] rfl
  clear F68
  have F70 := (F69.set 30 (.int .i64 500000)).nf #[.int .i64 100, .int .i64 10, .slice (some ⟨acb4, 0, none⟩) 2 2, .int .i64 100000, .int .i64 200000, .int .i64 300000, .int .i64 500000, .int .i64 600000, .int .i64 100, .int .i64 10, .slice (some ⟨acb22, 0, none⟩) 2 2, .int .i64 100000, .int .i64 200000, .int .i64 300000, .int .i64 500000, .int .i64 600000, .int .i64 100, .int .i64 10, .slice (some ⟨acb40, 0, none⟩) 2 2, .int .i64 100000, .int .i64 200000, .int .i64 300000, .int .i64 500000, .int .i64 600000, .int .i64 100, .int .i64 10, .slice (some ⟨acb58, 0, none⟩) 2 2, .int .i64 100000, .int .i64 200000, .int .i64 300000, .int .i64 500000, .int .i64 0] rfl
  clear F69
  have F71 := (F70.set 31 (.int .i64 600000)).nf #[.int .i64 100, .int .i64 10, .slice (some ⟨acb4, 0, none⟩) 2 2, .int .i64 100000, .int .i64 200000, .int .i64 300000, .int .i64 500000, .int .i64 600000, .int .i64 100, .int .i64 10, .slice (some ⟨acb22, 0, none⟩) 2 2, .int .i64 100000, .int .i64 200000, .int .i64 300000, .int .i64 500000, .int .i64 600000, .int .i64 100, .int .i64 10, .slice (some ⟨acb40, 0, none⟩) 2 2, .int .i64 100000, .int .i64 200000, .int .i64 300000, .int .i64 500000, .int .i64 600000, .int .i64 100, .int .i64 10, .slice (some ⟨acb58, 0, none⟩) 2 2, .int .i64 100000, .int .i64 200000, .int .i64 300000, .int .i64 500000, .int .i64 600000] rfl
  clear F70
  have Fn_ := F71
  (try dsimp only [List.eraseIdx_cons_succ, List.eraseIdx_cons_zero] at Fn_)
  obtain ⟨w72, hx73, F75, hxs74⟩ := Fn_.name
  (try simp at hxs74)
  rw [hx73]
  clear hx73 F71 Fn_
  rw [rounds_succ]
  go_wp2_with fail
  have F76 := F75.drew
  clear F75
  refine ru_begin (fun W => W.cell? ⟨w.heap.size, 10, none⟩ = some (.slice (some ⟨acb22, 0, none⟩) 2 2) ∧ W.cell? ⟨w.heap.size, 26, none⟩ = some (.slice (some ⟨acb58, 0, none⟩) 2 2)) 18 (by kernel_rfl) ?_ ?_
  · exact ⟨F76.cl 0 10 rfl rfl, F76.cl 0 26 rfl rfl⟩
  obtain ⟨wd78, hwd_⟩ : ∃ x : World, w72.drew = x := ⟨_, rfl⟩
  rw [hwd_] at F76 ⊢
  have wd78s : w72.heap.size ≤ wd78.heap.size := by rw [← hwd_]; exact Nat.le_refl _
  clear hwd_
  have hS77 := (And.intro (F76.cl 0 10 rfl rfl) (F76.cl 0 26 rfl rfl))
  refine ru_t 0 [] ?_
  refine ru_t 1 [] ?_
  refine ru_t 2 [] ?_
  refine ru_t 3 [] ?_
  refine ru_t 4 [] ?_
  refine ru_t 5 [] ?_
  (try simp only [Act.put, List.setIfInBounds_toArray, List.set_cons_zero, List.set_cons_succ])
  clear hS77
  refine ru_state 133 (fun t w_ => t 1 = .pointer (some ⟨w.heap.size, 0, none⟩) ∧ w72.heap.size ≤ w_.heap.size ∧ Bun w [rbox acb58 31 #[.int .i64 0, .int .i64 1000000, .int .i64 1000000, .int .i64 100, .int .i64 400000, .int .i64 1000001], rbox w.heap.size 27 #[.int .i64 100, .int .i64 10, .slice none 0 0, .int .i64 100000, .int .i64 200000, .int .i64 300000, .int .i64 500000, .int .i64 600000, .int .i64 100, .int .i64 10, .slice (some ⟨acb22, 0, none⟩) 2 2, .int .i64 100000, .int .i64 200000, .int .i64 300000, .int .i64 500000, .int .i64 600000, .int .i64 100, .int .i64 0, .slice (some ⟨acb40, 0, none⟩) 2 2, .int .i64 100000, .int .i64 200000, .int .i64 300000, .int .i64 500000, .int .i64 600000, .int .i64 100, .int .i64 10, .slice (some ⟨acb58, 0, none⟩) 2 2, .int .i64 100000, .int .i64 200000, .int .i64 300000, .int .i64 500000, .int .i64 600000], rbox acb22 31 #[.int .i64 1, .int .i64 1000000, .int .i64 1000000, .int .i64 100, .int .i64 400000, .int .i64 500000], rbox acb40 31 #[.int .i64 0, .int .i64 1000000, .int .i64 1000000, .int .i64 100, .int .i64 400000, .int .i64 500000], rbox acb4 31 #[.int .i64 0, .int .i64 1000000, .int .i64 1000000, .int .i64 100, .int .i64 400000, .int .i64 500000], rtab Tryd.prog w.heap.size powName .u64 Lib.pow10Tab] w_) #[true, true, true, true, true, true, true, true, true, true, true, true, true, true, true, true, true, true, true] 0 ?st79 ?nx79
  case st79 =>
    rintro t w80 ⟨e1, hsz79, F81⟩
    clear F76
    rw [rng_known_walk t, e1]
    clear e1
    have hws79 := F81.gb.size
    refine ru_done (by kernel_rfl) ?_
    have Fn_ := (F81.drop 4 rfl)
    (try dsimp only [List.eraseIdx_cons_succ, List.eraseIdx_cons_zero] at Fn_)
    obtain ⟨w82, hx83, F85, hxs84⟩ := Fn_.name
    (try simp at hxs84)
    rw [hx83]
    clear hx83 F81 Fn_
    go_wp2_with fail
    refine (awake_c _).mono ?_
    rintro e w88 ⟨rfl, hg86⟩
    have hg86s := hg86.size
    (try simp at hg86s)
    have F89 := F85.gn hg86
    clear F85
    clear hg86
    go_wp2_with fail
    refine (law_c _).mono ?_
    rintro e w93 ⟨acs90, lcs90, hcs90, rfl, hxcs90, hycs90, hl90, hg91⟩
    have hg91s := hg91.size
    (try simp at hg91s)
    have F94 := F89.add (rsl covEnc 3 lcs90 hcs90 (.slice (some ⟨acs90, 0, none⟩) 2 2) lawF.cov) hg91 (hl90) (fun g e => ⟨Nat.le_trans hxcs90 e.1, Nat.lt_of_lt_of_le e.2 hycs90⟩)
    clear F89
    clear hg91
    go_wp2_with fail
    refine (check_is (⟨100, 10, lawF.cov, ⟨100000, 200000⟩, 300000, ⟨500000, 600000⟩⟩ : Fro) 0 _ _ _ _ (F94.at 0 rfl : Sl covEnc 3 lcs90 hcs90 _ (.slice (some ⟨acs90, 0, none⟩) 2 2) lawF.cov) (by first | omega | (simp; omega)) (by kernel_rfl)).mono ?_
    rintro e w97 ⟨rfl, hg95⟩
    have hg95s := hg95.size
    (try simp at hg95s)
    have F98 := F94.gn hg95
    clear F94
    clear hg95
    have b99 := F98.bx32 2 rfl
    go_wp2_with fail
    clear b99
    refine (check_is (⟨100, 10, [], ⟨100000, 200000⟩, 300000, ⟨500000, 600000⟩⟩ : Fro) 6 _ _ _ _ (Sl.of_nil (lo := 0) (hi := 0) _ _) (Nat.zero_le _) (by kernel_rfl)).mono ?_
    rintro e w102 ⟨rfl, hg100⟩
    have hg100s := hg100.size
    (try simp at hg100s)
    have F103 := F98.gn hg100
    clear F98
    clear hg100
    have b104 := F103.bx32 2 rfl
    go_wp2_with fail
    clear b104
    refine (check_is (⟨100, 10, [⟨1, ⟨1000000, 1000000⟩⟩, ⟨100, ⟨400000, 500000⟩⟩], ⟨100000, 200000⟩, 300000, ⟨500000, 600000⟩⟩ : Fro) 11 _ _ _ _ (Sl.of_bk (enc := covEnc) (sz := 3) (l := [⟨1, ⟨1000000, 1000000⟩⟩, ⟨100, ⟨400000, 500000⟩⟩]) (F103.at 3 rfl : Bk _ acb22 31 #[.int .i64 1, .int .i64 1000000, .int .i64 1000000, .int .i64 100, .int .i64 400000, .int .i64 500000]) (fun _ => rfl) rfl (by show (2 : Nat) ≤ maxLen; unfold maxLen; omega) 2) ((F103.at 3 rfl : Bk _ acb22 31 #[.int .i64 1, .int .i64 1000000, .int .i64 1000000, .int .i64 100, .int .i64 400000, .int .i64 500000])).lt (by kernel_rfl)).mono ?_
    rintro e w107 ⟨rfl, hg105⟩
    have hg105s := hg105.size
    (try simp at hg105s)
    have F108 := F103.gn hg105
    clear F103
    clear hg105
    have b109 := F108.bx32 2 rfl
    go_wp2_with fail
    clear b109
    refine (check_is (⟨100, 0, [⟨0, ⟨1000000, 1000000⟩⟩, ⟨100, ⟨400000, 500000⟩⟩], ⟨100000, 200000⟩, 300000, ⟨500000, 600000⟩⟩ : Fro) 2 _ _ _ _ (Sl.of_bk (enc := covEnc) (sz := 3) (l := [⟨0, ⟨1000000, 1000000⟩⟩, ⟨100, ⟨400000, 500000⟩⟩]) (F108.at 4 rfl : Bk _ acb40 31 #[.int .i64 0, .int .i64 1000000, .int .i64 1000000, .int .i64 100, .int .i64 400000, .int .i64 500000]) (fun _ => rfl) rfl (by show (2 : Nat) ≤ maxLen; unfold maxLen; omega) 2) ((F108.at 4 rfl : Bk _ acb40 31 #[.int .i64 0, .int .i64 1000000, .int .i64 1000000, .int .i64 100, .int .i64 400000, .int .i64 500000])).lt (by kernel_rfl)).mono ?_
    rintro e w112 ⟨rfl, hg110⟩
    have hg110s := hg110.size
    (try simp at hg110s)
    have F113 := F108.gn hg110
    clear F108
    clear hg110
    have b114 := F113.bx32 2 rfl
    go_wp2_with fail
    clear b114
    refine (check_is (⟨100, 10, [⟨0, ⟨1000000, 1000000⟩⟩, ⟨100, ⟨400000, 1000001⟩⟩], ⟨100000, 200000⟩, 300000, ⟨500000, 600000⟩⟩ : Fro) 2 _ _ _ _ (Sl.of_bk (enc := covEnc) (sz := 3) (l := [⟨0, ⟨1000000, 1000000⟩⟩, ⟨100, ⟨400000, 1000001⟩⟩]) (F113.at 1 rfl : Bk _ acb58 31 #[.int .i64 0, .int .i64 1000000, .int .i64 1000000, .int .i64 100, .int .i64 400000, .int .i64 1000001]) (fun _ => rfl) rfl (by show (2 : Nat) ≤ maxLen; unfold maxLen; omega) 2) ((F113.at 1 rfl : Bk _ acb58 31 #[.int .i64 0, .int .i64 1000000, .int .i64 1000000, .int .i64 100, .int .i64 400000, .int .i64 1000001])).lt (by kernel_rfl)).mono ?_
    rintro e w117 ⟨rfl, hg115⟩
    have hg115s := hg115.size
    (try simp at hg115s)
    have F118 := F113.gn hg115
    clear F113
    clear hg115
    go_wp2_with fail
    refine (root_n (100) 10 _ (by omega) (by rw [root_fun]; kernel_rfl)).mono ?_
    rintro e _ ⟨rfl, rfl⟩
    go_wp2_with fail
    refine (root_n (-1) 0 _ (by omega) (by rw [root_fun]; kernel_rfl)).mono ?_
    rintro e _ ⟨rfl, rfl⟩
    go_wp2_with fail
    refine (black_c _).mono ?_
    rintro e w121 ⟨rfl, hg119⟩
    have hg119s := hg119.size
    (try simp at hg119s)
    have F122 := F118.gn hg119
    clear F118
    clear hg119
    go_wp2_with fail
    have F123 := F122.new 37 #[.int .i64 300, .int .i64 300, .int .i64 0, .int .i64 0, .int .i64 0, .int .i64 0, .int .i64 0, .int .i64 0] (n := w121.heap.size) (by simp)
    clear F122
    refine (one_c 20 _).mono ?_
    rintro e w126 ⟨rfl, hg124⟩
    have hg124s := hg124.size
    (try simp at hg124s)
    have F127 := F123.gn hg124
    clear F123
    clear hg124
    have b128 := F127.bx8 0 rfl
    go_wp2_with fail
    clear b128
    have F129 := (F127.set 6 (.int .i64 20)).nf #[.int .i64 300, .int .i64 300, .int .i64 0, .int .i64 0, .int .i64 0, .int .i64 0, .int .i64 20, .int .i64 0] rfl
    clear F127
    have F130 := (F129.set 7 (.int .i64 20)).nf #[.int .i64 300, .int .i64 300, .int .i64 0, .int .i64 0, .int .i64 0, .int .i64 0, .int .i64 20, .int .i64 20] rfl
    clear F129
    have Fn_ := ((((F130.drop 2 rfl).drop 2 rfl).drop 2 rfl).drop 2 rfl)
    (try dsimp only [List.eraseIdx_cons_succ, List.eraseIdx_cons_zero] at Fn_)
    obtain ⟨w131, hx132, F134, hxs133⟩ := Fn_.name
    (try simp at hxs133)
    rw [hx132]
    clear hx132 F130 Fn_
    have F135 := F134.drew
    clear F134
    refine ru_begin (fun W => W.cell? ⟨w121.heap.size, 0, none⟩ = some (.int .i64 300) ∧ W.cell? ⟨w121.heap.size, 1, none⟩ = some (.int .i64 300) ∧ W.cell? ⟨w121.heap.size, 2, none⟩ = some (.int .i64 0) ∧ W.cell? ⟨w121.heap.size, 3, none⟩ = some (.int .i64 0) ∧ W.cell? ⟨w121.heap.size, 4, none⟩ = some (.int .i64 0) ∧ W.cell? ⟨w121.heap.size, 5, none⟩ = some (.int .i64 0) ∧ W.cell? ⟨w121.heap.size, 6, none⟩ = some (.int .i64 20) ∧ W.cell? ⟨w121.heap.size, 7, none⟩ = some (.int .i64 20)) 6 (by kernel_rfl) ?_ ?_
    · exact ⟨F135.cl 0 0 rfl rfl, F135.cl 0 1 rfl rfl, F135.cl 0 2 rfl rfl, F135.cl 0 3 rfl rfl, F135.cl 0 4 rfl rfl, F135.cl 0 5 rfl rfl, F135.cl 0 6 rfl rfl, F135.cl 0 7 rfl rfl⟩
    obtain ⟨wd137, hwd_⟩ : ∃ x : World, w131.drew = x := ⟨_, rfl⟩
    rw [hwd_] at F135 ⊢
    have wd137s : w131.heap.size ≤ wd137.heap.size := by rw [← hwd_]; exact Nat.le_refl _
    clear hwd_
    have hS136 := (And.intro (F135.cl 0 0 rfl rfl) (And.intro (F135.cl 0 1 rfl rfl) (And.intro (F135.cl 0 2 rfl rfl) (And.intro (F135.cl 0 3 rfl rfl) (And.intro (F135.cl 0 4 rfl rfl) (And.intro (F135.cl 0 5 rfl rfl) (And.intro (F135.cl 0 6 rfl rfl) (F135.cl 0 7 rfl rfl))))))))
    refine ru_t 4 [] ?_
    (try simp only [Act.put, List.setIfInBounds_toArray, List.set_cons_zero, List.set_cons_succ])
    clear hS136
    refine ru_one 0 rfl (by kernel_rfl) (fun K hK => ?_)
    go_simp
    refine (black_c _).mono ?_
    rintro e w140 ⟨rfl, hg138⟩
    have hg138s := hg138.size
    (try simp at hg138s)
    have F141 := F135.gn hg138
    clear F135
    refine ru_back hK (by exact ⟨F141.cl 0 0 rfl rfl, F141.cl 0 1 rfl rfl, F141.cl 0 2 rfl rfl, F141.cl 0 3 rfl rfl, F141.cl 0 4 rfl rfl, F141.cl 0 5 rfl rfl, F141.cl 0 6 rfl rfl, F141.cl 0 7 rfl rfl⟩) (fun hHeld => ?_)
    clear hK K
    (try simp only [Act.put, List.setIfInBounds_toArray, List.set_cons_zero, List.set_cons_succ])
    refine ru_one 1 rfl (by kernel_rfl) (fun K hK => ?_)
    go_simp
    refine (black_c _).mono ?_
    rintro e w144 ⟨rfl, hg142⟩
    have hg142s := hg142.size
    (try simp at hg142s)
    have F145 := F141.gn hg142
    clear F141
    refine ru_back hK (by exact ⟨F145.cl 0 0 rfl rfl, F145.cl 0 1 rfl rfl, F145.cl 0 2 rfl rfl, F145.cl 0 3 rfl rfl, F145.cl 0 4 rfl rfl, F145.cl 0 5 rfl rfl, F145.cl 0 6 rfl rfl, F145.cl 0 7 rfl rfl⟩) (fun hHeld => ?_)
    clear hK K
    (try simp only [Act.put, List.setIfInBounds_toArray, List.set_cons_zero, List.set_cons_succ])
    refine ru_one 2 rfl (by kernel_rfl) (fun K hK => ?_)
    go_simp
    refine (black_c _).mono ?_
    rintro e w148 ⟨rfl, hg146⟩
    have hg146s := hg146.size
    (try simp at hg146s)
    have F149 := F145.gn hg146
    clear F145
    refine ru_back hK (by exact ⟨F149.cl 0 0 rfl rfl, F149.cl 0 1 rfl rfl, F149.cl 0 2 rfl rfl, F149.cl 0 3 rfl rfl, F149.cl 0 4 rfl rfl, F149.cl 0 5 rfl rfl, F149.cl 0 6 rfl rfl, F149.cl 0 7 rfl rfl⟩) (fun hHeld => ?_)
    clear hK K
    (try simp only [Act.put, List.setIfInBounds_toArray, List.set_cons_zero, List.set_cons_succ])
    refine ru_one 3 rfl (by kernel_rfl) (fun K hK => ?_)
    go_simp
    refine (black_c _).mono ?_
    rintro e w152 ⟨rfl, hg150⟩
    have hg150s := hg150.size
    (try simp at hg150s)
    have F153 := F149.gn hg150
    clear F149
    refine ru_back hK (by exact ⟨F153.cl 0 0 rfl rfl, F153.cl 0 1 rfl rfl, F153.cl 0 2 rfl rfl, F153.cl 0 3 rfl rfl, F153.cl 0 4 rfl rfl, F153.cl 0 5 rfl rfl, F153.cl 0 6 rfl rfl, F153.cl 0 7 rfl rfl⟩) (fun hHeld => ?_)
    clear hK K
    (try simp only [Act.put, List.setIfInBounds_toArray, List.set_cons_zero, List.set_cons_succ])
    refine ru_one 5 rfl (by kernel_rfl) (fun K hK => ?_)
    go_simp
    have F154 := F153.new 37 #[.int .i64 300, .int .i64 300, .int .i64 0, .int .i64 0, .int .i64 0, .int .i64 0, .int .i64 0, .int .i64 0, .int .i64 300, .int .i64 300, .int .i64 0, .int .i64 0, .int .i64 0, .int .i64 0, .int .i64 0, .int .i64 0, .int .i64 300, .int .i64 300, .int .i64 0, .int .i64 0, .int .i64 0, .int .i64 0, .int .i64 0, .int .i64 0, .int .i64 300, .int .i64 300, .int .i64 0, .int .i64 0, .int .i64 0, .int .i64 0, .int .i64 0, .int .i64 0, .int .i64 300, .int .i64 300, .int .i64 0, .int .i64 0, .int .i64 0, .int .i64 0, .int .i64 20, .int .i64 20] (n := w152.heap.size) (by simp)
    clear F153
    refine ru_back hK (by exact ⟨F154.cl 1 0 rfl rfl, F154.cl 1 1 rfl rfl, F154.cl 1 2 rfl rfl, F154.cl 1 3 rfl rfl, F154.cl 1 4 rfl rfl, F154.cl 1 5 rfl rfl, F154.cl 1 6 rfl rfl, F154.cl 1 7 rfl rfl⟩) (fun hHeld => ?_)
    clear hK K
    (try simp only [Act.put, List.setIfInBounds_toArray, List.set_cons_zero, List.set_cons_succ])
    refine ru_one 6 rfl (by kernel_rfl) (fun K hK => ?_)
    go_simp
    refine ru_back_late hK (by kernel_rfl) ?_
    clear hK K
    (try simp only [Act.put, List.setIfInBounds_toArray, List.set_cons_zero, List.set_cons_succ])
    refine ru_done (by kernel_rfl) ?_
    have Fn_ := (F154.drop 1 rfl)
    (try dsimp only [List.eraseIdx_cons_succ, List.eraseIdx_cons_zero] at Fn_)
    obtain ⟨w155, hx156, F158, hxs157⟩ := Fn_.name
    (try simp at hxs157)
    rw [hx156]
    clear hx156 F154 Fn_
    go_wp2_with fail
    refine (day_c 100 150 0 _).mono ?_
    rintro e w161 ⟨rfl, hg159⟩
    have hg159s := hg159.size
    (try simp at hg159s)
    have F162 := F158.gn hg159
    clear F158
    clear hg159
    go_wp2_with fail
    refine (day_c 100 0 20 _).mono ?_
    rintro e w165 ⟨rfl, hg163⟩
    have hg163s := hg163.size
    (try simp at hg163s)
    have F166 := F162.gn hg163
    clear F162
    clear hg163
    go_wp2_with fail
    refine (day_c 200 100 10 _).mono ?_
    rintro e w169 ⟨rfl, hg167⟩
    have hg167s := hg167.size
    (try simp at hg167s)
    have F170 := F166.gn hg167
    clear F166
    clear hg167
    go_wp2_with fail
    refine (day_c (-150) 0 0 _).mono ?_
    rintro e w173 ⟨rfl, hg171⟩
    have hg171s := hg171.size
    (try simp at hg171s)
    have F174 := F170.gn hg171
    clear F170
    clear hg171
    go_wp2_with fail
    refine (day_c (-150) 0 0 _).mono ?_
    rintro e w177 ⟨rfl, hg175⟩
    have hg175s := hg175.size
    (try simp at hg175s)
    have F178 := F174.gn hg175
    clear F174
    clear hg175
    go_wp2_with fail
    have F179 := F178.new 42 #[.int .i64 100, .int .i64 100, .int .i64 150, .int .i64 150, .int .i64 0, .bool false, .int .i64 100, .int .i64 100, .int .i64 0, .int .i64 0, .int .i64 20, .bool false, .int .i64 200, .int .i64 200, .int .i64 100, .int .i64 100, .int .i64 10, .bool false, .int .i64 (-150), .int .i64 (-150), .int .i64 0, .int .i64 0, .int .i64 0, .bool false, .int .i64 (-150), .int .i64 (-150), .int .i64 0, .int .i64 0, .int .i64 0, .bool false] (n := w177.heap.size) (by simp)
    clear F178
    refine (span_c 306 309 _).mono ?_
    rintro e w182 ⟨rfl, hg180⟩
    have hg180s := hg180.size
    (try simp at hg180s)
    have F183 := F179.gn hg180
    clear F179
    clear hg180
    go_wp2_with fail
    refine (one_c 150 _).mono ?_
    rintro e w186 ⟨rfl, hg184⟩
    have hg184s := hg184.size
    (try simp at hg184s)
    have F187 := F183.gn hg184
    clear F183
    clear hg184
    go_wp2_with fail
    refine (one_c 300 _).mono ?_
    rintro e w190 ⟨rfl, hg188⟩
    have hg188s := hg188.size
    (try simp at hg188s)
    have F191 := F187.gn hg188
    clear F187
    clear hg188
    go_wp2_with fail
    refine (one_c 10 _).mono ?_
    rintro e w194 ⟨rfl, hg192⟩
    have hg192s := hg192.size
    (try simp at hg192s)
    have F195 := F191.gn hg192
    clear F191
    clear hg192
    go_wp2_with fail
    refine (one_c 10 _).mono ?_
    rintro e w198 ⟨rfl, hg196⟩
    have hg196s := hg196.size
    (try simp at hg196s)
    have F199 := F195.gn hg196
    clear F195
    clear hg196
    go_wp2_with fail
    refine (one_c 300 _).mono ?_
    rintro e w202 ⟨rfl, hg200⟩
    have hg200s := hg200.size
    (try simp at hg200s)
    have F203 := F199.gn hg200
    clear F199
    clear hg200
    go_wp2_with fail
    refine (one_c 20 _).mono ?_
    rintro e w206 ⟨rfl, hg204⟩
    have hg204s := hg204.size
    (try simp at hg204s)
    have F207 := F203.gn hg204
    clear F203
    clear hg204
    go_wp2_with fail
    refine (one_c 20 _).mono ?_
    rintro e w210 ⟨rfl, hg208⟩
    have hg208s := hg208.size
    (try simp at hg208s)
    have F211 := F207.gn hg208
    clear F207
    clear hg208
    go_wp2_with fail
    refine (span_c 270 285 _).mono ?_
    rintro e w214 ⟨rfl, hg212⟩
    have hg212s := hg212.size
    (try simp at hg212s)
    have F215 := F211.gn hg212
    clear F211
    clear hg212
    go_wp2_with fail
    refine (span_c 290 300 _).mono ?_
    rintro e w218 ⟨rfl, hg216⟩
    have hg216s := hg216.size
    (try simp at hg216s)
    have F219 := F215.gn hg216
    clear F215
    clear hg216
    go_wp2_with fail
    refine (span_c 0 5 _).mono ?_
    rintro e w222 ⟨rfl, hg220⟩
    have hg220s := hg220.size
    (try simp at hg220s)
    have F223 := F219.gn hg220
    clear F219
    clear hg220
    go_wp2_with fail
    have F224 := F223.new 37 #[.int .i64 306, .int .i64 309, .int .i64 0, .int .i64 0, .int .i64 0, .int .i64 0, .int .i64 150, .int .i64 150, .int .i64 300, .int .i64 300, .int .i64 10, .int .i64 10, .int .i64 10, .int .i64 10, .int .i64 0, .int .i64 0, .int .i64 300, .int .i64 300, .int .i64 20, .int .i64 20, .int .i64 20, .int .i64 20, .int .i64 0, .int .i64 0, .int .i64 270, .int .i64 285, .int .i64 0, .int .i64 0, .int .i64 0, .int .i64 0, .int .i64 0, .int .i64 0, .int .i64 290, .int .i64 300, .int .i64 0, .int .i64 0, .int .i64 0, .int .i64 0, .int .i64 0, .int .i64 5] (n := w222.heap.size) (by simp)
    clear F223
    have F225 := (F224.front 2 rfl rfl).lit iceEnc 8 iceL 5 (fun _ => rfl) rfl (by show (5 : Nat) ≤ 1000; omega)
    clear F224
    have F226 := (F225.front 2 rfl rfl).lit weaEnc 6 dayL 5 (fun _ => rfl) rfl (by show (5 : Nat) ≤ 1000; omega)
    clear F225
    have F227 := (F226.front 2 rfl rfl).lit iceEnc 8 wantL 5 (fun _ => rfl) rfl (by show (5 : Nat) ≤ 1000; omega)
    clear F226
    (skip)
    obtain ⟨HI228_, HI2280⟩ : ∃ I : (Nat → Value) → List Deferred → World → Prop, I = (fun t ds wr => ∃ (k : Nat), t 4 = .slice (some ⟨w152.heap.size, 0, none⟩) 5 5 ∧ t 5 = .slice (some ⟨w177.heap.size, 0, none⟩) 5 5 ∧ t 6 = .slice (some ⟨w222.heap.size, 0, none⟩) 5 5 ∧ t 7 = .int .i64 (k : Int) ∧ k ≤ 5 ∧ ds = [] ∧ w222.heap.size ≤ wr.heap.size ∧ Bun w [rsl iceEnc 8 w222.heap.size (w222.heap.size + 1) (.slice (some ⟨w222.heap.size, 0, none⟩) 5 5) wantL, rsl weaEnc 6 w177.heap.size (w177.heap.size + 1) (.slice (some ⟨w177.heap.size, 0, none⟩) 5 5) dayL, rsl iceEnc 8 w152.heap.size (w152.heap.size + 1) (.slice (some ⟨w152.heap.size, 0, none⟩) 5 5) iceL, rsl covEnc 3 lcs90 hcs90 (.slice (some ⟨acs90, 0, none⟩) 2 2) lawF.cov, rtab Tryd.prog w.heap.size powName .u64 Lib.pow10Tab] wr) := ⟨_, rfl⟩
    have HI228 := Lib.hid HI2280
    clear HI2280
    refine wp_loopS 133 rfl HI228_ (fun t wr => 5 - (intOf (t 7)).toNat) ?atStart1 ?round1
    case round1 =>
      intro t ds wr hHid
      rw [HI228.out] at hHid
      obtain ⟨k, e4, e5, e6, e7, hrel⟩ := hHid
      have e : ((List.range 133).map t).toArray = #[t 0, t 1, t 2, t 3, t 4, t 5, t 6, t 7, t 8, t 9, t 10, t 11, t 12, t 13, t 14, t 15, t 16, t 17, t 18, t 19, t 20, t 21, t 22, t 23, t 24, t 25, t 26, t 27, t 28, t 29, t 30, t 31, t 32, t 33, t 34, t 35, t 36, t 37, t 38, t 39, t 40, t 41, t 42, t 43, t 44, t 45, t 46, t 47, t 48, t 49, t 50, t 51, t 52, t 53, t 54, t 55, t 56, t 57, t 58, t 59, t 60, t 61, t 62, t 63, t 64, t 65, t 66, t 67, t 68, t 69, t 70, t 71, t 72, t 73, t 74, t 75, t 76, t 77, t 78, t 79, t 80, t 81, t 82, t 83, t 84, t 85, t 86, t 87, t 88, t 89, t 90, t 91, t 92, t 93, t 94, t 95, t 96, t 97, t 98, t 99, t 100, t 101, t 102, t 103, t 104, t 105, t 106, t 107, t 108, t 109, t 110, t 111, t 112, t 113, t 114, t 115, t 116, t 117, t 118, t 119, t 120, t 121, t 122, t 123, t 124, t 125, t 126, t 127, t 128, t 129, t 130, t 131, t 132] := rfl
      (try dsimp only at e)
      rw [e4, e5, e6, e7] at e
      rw [e]
      simp only [e7]
      clear e e4 e5 e6 e7
      obtain ⟨hk, rfl, hs230, hF229⟩ := hrel
      clear F227
      obtain ⟨w231, rfl⟩ : ∃ x_ : World, x_ = wr := ⟨_, rfl⟩
      by_cases c232 : (k : Int) < 5
      · skip
        have c232H := Lib.hid c232
        obtain ⟨xi, hgxi⟩ : ∃ x_, iceL[k]? = some x_ := ⟨_, getD_at (d := ice0) (by show k < 5; omega)⟩
        have hz233 : Hid (iceL[k]? = some xi) := Lib.hid (hgxi)
        obtain ⟨xd, hgxd⟩ : ∃ x_, dayL[k]? = some x_ := ⟨_, getD_at (d := d160) (by show k < 5; omega)⟩
        have hz234 : Hid (dayL[k]? = some xd) := Lib.hid (hgxd)
        obtain ⟨xw, hgxw⟩ : ∃ x_, wantL[k]? = some x_ := ⟨_, getD_at (d := ice0) (by show k < 5; omega)⟩
        have hz235 : Hid (wantL[k]? = some xw) := Lib.hid (hgxw)
        go_wp2_with fail
        have F236 := hF229.drew
        clear hF229
        refine ru_begin (fun W => W.cell? ⟨w152.heap.size, k * 8, none⟩ = some (.int .i64 xi.bl.lo) ∧ W.cell? ⟨w152.heap.size, k * 8 + 1, none⟩ = some (.int .i64 xi.bl.hi) ∧ W.cell? ⟨w152.heap.size, k * 8 + 2, none⟩ = some (.int .i64 xi.wh.lo) ∧ W.cell? ⟨w152.heap.size, k * 8 + 3, none⟩ = some (.int .i64 xi.wh.hi) ∧ W.cell? ⟨w152.heap.size, k * 8 + 4, none⟩ = some (.int .i64 xi.we.lo) ∧ W.cell? ⟨w152.heap.size, k * 8 + 5, none⟩ = some (.int .i64 xi.we.hi) ∧ W.cell? ⟨w152.heap.size, k * 8 + 6, none⟩ = some (.int .i64 xi.sn.lo) ∧ W.cell? ⟨w152.heap.size, k * 8 + 7, none⟩ = some (.int .i64 xi.sn.hi) ∧ W.cell? ⟨w177.heap.size, k * 6, none⟩ = some (.int .i64 xd.cold.lo) ∧ W.cell? ⟨w177.heap.size, k * 6 + 1, none⟩ = some (.int .i64 xd.cold.hi) ∧ W.cell? ⟨w177.heap.size, k * 6 + 2, none⟩ = some (.int .i64 xd.fall.lo) ∧ W.cell? ⟨w177.heap.size, k * 6 + 3, none⟩ = some (.int .i64 xd.fall.hi) ∧ W.cell? ⟨w177.heap.size, k * 6 + 4, none⟩ = some (.int .i64 xd.water) ∧ W.cell? ⟨w177.heap.size, k * 6 + 5, none⟩ = some (.bool xd.clear)) 14 (by kernel_rfl) ?_ ?_
        · exact ⟨(((F236.at 2 rfl : Sl iceEnc 8 w152.heap.size (w152.heap.size + 1) _ (.slice (some ⟨w152.heap.size, 0, none⟩) 5 5) iceL)).cells0 hz233.out 0 _ rfl), (((F236.at 2 rfl : Sl iceEnc 8 w152.heap.size (w152.heap.size + 1) _ (.slice (some ⟨w152.heap.size, 0, none⟩) 5 5) iceL)).cells0 hz233.out 1 _ rfl), (((F236.at 2 rfl : Sl iceEnc 8 w152.heap.size (w152.heap.size + 1) _ (.slice (some ⟨w152.heap.size, 0, none⟩) 5 5) iceL)).cells0 hz233.out 2 _ rfl), (((F236.at 2 rfl : Sl iceEnc 8 w152.heap.size (w152.heap.size + 1) _ (.slice (some ⟨w152.heap.size, 0, none⟩) 5 5) iceL)).cells0 hz233.out 3 _ rfl), (((F236.at 2 rfl : Sl iceEnc 8 w152.heap.size (w152.heap.size + 1) _ (.slice (some ⟨w152.heap.size, 0, none⟩) 5 5) iceL)).cells0 hz233.out 4 _ rfl), (((F236.at 2 rfl : Sl iceEnc 8 w152.heap.size (w152.heap.size + 1) _ (.slice (some ⟨w152.heap.size, 0, none⟩) 5 5) iceL)).cells0 hz233.out 5 _ rfl), (((F236.at 2 rfl : Sl iceEnc 8 w152.heap.size (w152.heap.size + 1) _ (.slice (some ⟨w152.heap.size, 0, none⟩) 5 5) iceL)).cells0 hz233.out 6 _ rfl), (((F236.at 2 rfl : Sl iceEnc 8 w152.heap.size (w152.heap.size + 1) _ (.slice (some ⟨w152.heap.size, 0, none⟩) 5 5) iceL)).cells0 hz233.out 7 _ rfl), (((F236.at 1 rfl : Sl weaEnc 6 w177.heap.size (w177.heap.size + 1) _ (.slice (some ⟨w177.heap.size, 0, none⟩) 5 5) dayL)).cells0 hz234.out 0 _ rfl), (((F236.at 1 rfl : Sl weaEnc 6 w177.heap.size (w177.heap.size + 1) _ (.slice (some ⟨w177.heap.size, 0, none⟩) 5 5) dayL)).cells0 hz234.out 1 _ rfl), (((F236.at 1 rfl : Sl weaEnc 6 w177.heap.size (w177.heap.size + 1) _ (.slice (some ⟨w177.heap.size, 0, none⟩) 5 5) dayL)).cells0 hz234.out 2 _ rfl), (((F236.at 1 rfl : Sl weaEnc 6 w177.heap.size (w177.heap.size + 1) _ (.slice (some ⟨w177.heap.size, 0, none⟩) 5 5) dayL)).cells0 hz234.out 3 _ rfl), (((F236.at 1 rfl : Sl weaEnc 6 w177.heap.size (w177.heap.size + 1) _ (.slice (some ⟨w177.heap.size, 0, none⟩) 5 5) dayL)).cells0 hz234.out 4 _ rfl), (((F236.at 1 rfl : Sl weaEnc 6 w177.heap.size (w177.heap.size + 1) _ (.slice (some ⟨w177.heap.size, 0, none⟩) 5 5) dayL)).cells0 hz234.out 5 _ rfl)⟩
        obtain ⟨wd238, hwd_⟩ : ∃ x : World, w231.drew = x := ⟨_, rfl⟩
        rw [hwd_] at F236 ⊢
        have wd238s : w231.heap.size ≤ wd238.heap.size := by rw [← hwd_]; exact Nat.le_refl _
        clear hwd_
        have hS237 := (And.intro ((((F236.at 2 rfl : Sl iceEnc 8 w152.heap.size (w152.heap.size + 1) _ (.slice (some ⟨w152.heap.size, 0, none⟩) 5 5) iceL)).cells0 hz233.out 0 _ rfl)) (And.intro ((((F236.at 2 rfl : Sl iceEnc 8 w152.heap.size (w152.heap.size + 1) _ (.slice (some ⟨w152.heap.size, 0, none⟩) 5 5) iceL)).cells0 hz233.out 1 _ rfl)) (And.intro ((((F236.at 2 rfl : Sl iceEnc 8 w152.heap.size (w152.heap.size + 1) _ (.slice (some ⟨w152.heap.size, 0, none⟩) 5 5) iceL)).cells0 hz233.out 2 _ rfl)) (And.intro ((((F236.at 2 rfl : Sl iceEnc 8 w152.heap.size (w152.heap.size + 1) _ (.slice (some ⟨w152.heap.size, 0, none⟩) 5 5) iceL)).cells0 hz233.out 3 _ rfl)) (And.intro ((((F236.at 2 rfl : Sl iceEnc 8 w152.heap.size (w152.heap.size + 1) _ (.slice (some ⟨w152.heap.size, 0, none⟩) 5 5) iceL)).cells0 hz233.out 4 _ rfl)) (And.intro ((((F236.at 2 rfl : Sl iceEnc 8 w152.heap.size (w152.heap.size + 1) _ (.slice (some ⟨w152.heap.size, 0, none⟩) 5 5) iceL)).cells0 hz233.out 5 _ rfl)) (And.intro ((((F236.at 2 rfl : Sl iceEnc 8 w152.heap.size (w152.heap.size + 1) _ (.slice (some ⟨w152.heap.size, 0, none⟩) 5 5) iceL)).cells0 hz233.out 6 _ rfl)) (And.intro ((((F236.at 2 rfl : Sl iceEnc 8 w152.heap.size (w152.heap.size + 1) _ (.slice (some ⟨w152.heap.size, 0, none⟩) 5 5) iceL)).cells0 hz233.out 7 _ rfl)) (And.intro ((((F236.at 1 rfl : Sl weaEnc 6 w177.heap.size (w177.heap.size + 1) _ (.slice (some ⟨w177.heap.size, 0, none⟩) 5 5) dayL)).cells0 hz234.out 0 _ rfl)) (And.intro ((((F236.at 1 rfl : Sl weaEnc 6 w177.heap.size (w177.heap.size + 1) _ (.slice (some ⟨w177.heap.size, 0, none⟩) 5 5) dayL)).cells0 hz234.out 1 _ rfl)) (And.intro ((((F236.at 1 rfl : Sl weaEnc 6 w177.heap.size (w177.heap.size + 1) _ (.slice (some ⟨w177.heap.size, 0, none⟩) 5 5) dayL)).cells0 hz234.out 2 _ rfl)) (And.intro ((((F236.at 1 rfl : Sl weaEnc 6 w177.heap.size (w177.heap.size + 1) _ (.slice (some ⟨w177.heap.size, 0, none⟩) 5 5) dayL)).cells0 hz234.out 3 _ rfl)) (And.intro ((((F236.at 1 rfl : Sl weaEnc 6 w177.heap.size (w177.heap.size + 1) _ (.slice (some ⟨w177.heap.size, 0, none⟩) 5 5) dayL)).cells0 hz234.out 4 _ rfl)) ((((F236.at 1 rfl : Sl weaEnc 6 w177.heap.size (w177.heap.size + 1) _ (.slice (some ⟨w177.heap.size, 0, none⟩) 5 5) dayL)).cells0 hz234.out 5 _ rfl)))))))))))))))
        refine ru_t 1 [] ?_
        refine ru_t 2 [] ?_
        refine ru_t 3 [] ?_
        refine ru_t 4 [] ?_
        refine ru_t 5 [] ?_
        refine ru_t 6 [] ?_
        refine ru_t 7 [] ?_
        refine ru_t 8 [] ?_
        (try simp only [Act.put, List.setIfInBounds_toArray, List.set_cons_zero, List.set_cons_succ])
        clear hS237
        refine ru_state 133 (fun t w_ => ∃ (acs110 : Nat) (lcs110 : Nat) (hcs110 : Nat) (yg13 : Nat), (hcs110 ≤ w_.heap.size) ∧ t 4 = .slice (some ⟨w152.heap.size, 0, none⟩) 5 5 ∧ t 5 = .slice (some ⟨w177.heap.size, 0, none⟩) 5 5 ∧ t 6 = .slice (some ⟨w222.heap.size, 0, none⟩) 5 5 ∧ t 7 = .int .i64 (k : Int) ∧ t 8 = .pointer (some ⟨yg13, 0, none⟩) ∧ t 9 = .int .i64 0 ∧ w231.heap.size ≤ w_.heap.size ∧ Bun w [rbox yg13 37 (iceC xw), rsl covEnc 3 lcs110 hcs110 (.slice (some ⟨acs110, 0, none⟩) 2 2) lawF.cov, rsl iceEnc 8 w222.heap.size (w222.heap.size + 1) (.slice (some ⟨w222.heap.size, 0, none⟩) 5 5) wantL, rsl weaEnc 6 w177.heap.size (w177.heap.size + 1) (.slice (some ⟨w177.heap.size, 0, none⟩) 5 5) dayL, rsl iceEnc 8 w152.heap.size (w152.heap.size + 1) (.slice (some ⟨w152.heap.size, 0, none⟩) 5 5) iceL, rsl covEnc 3 lcs90 hcs90 (.slice (some ⟨acs90, 0, none⟩) 2 2) lawF.cov, rtab Tryd.prog w.heap.size powName .u64 Lib.pow10Tab] w_) #[true, true, true, true, true, true, true, true, true, true, true, true, true, true, true, true] 0 ?st239 ?nx239
        case st239 =>
          rintro t w240 ⟨acs110, lcs110, hcs110, yg13, hycs110, e4, e5, e6, e7, e8, e9, hsz239, F241⟩
          clear F236
          rw [rng_known_walk t, e4, e5, e6, e7, e8, e9]
          clear e4 e5 e6 e7 e8 e9
          have hws239 := F241.gb.size
          have yg13l := F241.ltAt 0 rfl yg13 rfl
          have yg13b := yg13l.2 rfl
          refine ru_done (by kernel_rfl) ?_
          obtain ⟨w242, hx243, F245, hxs244⟩ := F241.name
          (try simp at hxs244)
          rw [hx243]
          clear hx243 F241
          go_wp2_with fail
          have b246 := F245.bx8 0 rfl
          have ge247 : World.cell? _ ⟨w222.heap.size, k * 8, none⟩ = some (.int .i64 xw.bl.lo) := (((F245.at 2 rfl : Sl iceEnc 8 w222.heap.size (w222.heap.size + 1) _ (.slice (some ⟨w222.heap.size, 0, none⟩) 5 5) wantL)).cells0 hz235.out 0 _ rfl)
          have ge248 : World.cell? _ ⟨w222.heap.size, k * 8 + 1, none⟩ = some (.int .i64 xw.bl.hi) := (((F245.at 2 rfl : Sl iceEnc 8 w222.heap.size (w222.heap.size + 1) _ (.slice (some ⟨w222.heap.size, 0, none⟩) 5 5) wantL)).cells0 hz235.out 1 _ rfl)
          have ge249 : World.cell? _ ⟨w222.heap.size, k * 8 + 2, none⟩ = some (.int .i64 xw.wh.lo) := (((F245.at 2 rfl : Sl iceEnc 8 w222.heap.size (w222.heap.size + 1) _ (.slice (some ⟨w222.heap.size, 0, none⟩) 5 5) wantL)).cells0 hz235.out 2 _ rfl)
          have ge250 : World.cell? _ ⟨w222.heap.size, k * 8 + 3, none⟩ = some (.int .i64 xw.wh.hi) := (((F245.at 2 rfl : Sl iceEnc 8 w222.heap.size (w222.heap.size + 1) _ (.slice (some ⟨w222.heap.size, 0, none⟩) 5 5) wantL)).cells0 hz235.out 3 _ rfl)
          have ge251 : World.cell? _ ⟨w222.heap.size, k * 8 + 4, none⟩ = some (.int .i64 xw.we.lo) := (((F245.at 2 rfl : Sl iceEnc 8 w222.heap.size (w222.heap.size + 1) _ (.slice (some ⟨w222.heap.size, 0, none⟩) 5 5) wantL)).cells0 hz235.out 4 _ rfl)
          have ge252 : World.cell? _ ⟨w222.heap.size, k * 8 + 5, none⟩ = some (.int .i64 xw.we.hi) := (((F245.at 2 rfl : Sl iceEnc 8 w222.heap.size (w222.heap.size + 1) _ (.slice (some ⟨w222.heap.size, 0, none⟩) 5 5) wantL)).cells0 hz235.out 5 _ rfl)
          have ge253 : World.cell? _ ⟨w222.heap.size, k * 8 + 6, none⟩ = some (.int .i64 xw.sn.lo) := (((F245.at 2 rfl : Sl iceEnc 8 w222.heap.size (w222.heap.size + 1) _ (.slice (some ⟨w222.heap.size, 0, none⟩) 5 5) wantL)).cells0 hz235.out 6 _ rfl)
          have ge254 : World.cell? _ ⟨w222.heap.size, k * 8 + 7, none⟩ = some (.int .i64 xw.sn.hi) := (((F245.at 2 rfl : Sl iceEnc 8 w222.heap.size (w222.heap.size + 1) _ (.slice (some ⟨w222.heap.size, 0, none⟩) 5 5) wantL)).cells0 hz235.out 7 _ rfl)
          go_quiet (fail)
          clear b246 ge247 ge248 ge249 ge250 ge251 ge252 ge253 ge254
          have F255 := F245.drewN nq
          clear F245
          have Fn_ := (F255.drop 0 rfl)
          (try dsimp only [List.eraseIdx_cons_succ, List.eraseIdx_cons_zero] at Fn_)
          obtain ⟨w256, hx257, F259, hxs258⟩ := Fn_.name
          (try simp at hxs258)
          rw [hx257]
          clear hx257 F255 Fn_
          go_wp2_with fail
          have F260 : Bun w [rsl iceEnc 8 w222.heap.size (w222.heap.size + 1) (.slice (some ⟨w222.heap.size, 0, none⟩) 5 5) wantL, rsl weaEnc 6 w177.heap.size (w177.heap.size + 1) (.slice (some ⟨w177.heap.size, 0, none⟩) 5 5) dayL, rsl iceEnc 8 w152.heap.size (w152.heap.size + 1) (.slice (some ⟨w152.heap.size, 0, none⟩) 5 5) iceL, rsl covEnc 3 lcs90 hcs90 (.slice (some ⟨acs90, 0, none⟩) 2 2) lawF.cov, rtab Tryd.prog w.heap.size powName .u64 Lib.pow10Tab] _ := F259.pick [1, 2, 3, 4, 5] (by decide) rfl
          clear F259
          (first | refine ⟨by kernel_rfl, ?_, ?_⟩ | refine ⟨rfl, ?_, ?_⟩ | refine ⟨?_, ?_⟩)
          · rw [HI228.out]; exact ⟨k + 1, (by first | kernel_rfl | rfl), (by first | kernel_rfl | rfl), (by first | kernel_rfl | rfl), (by show Value.int .i64 ((k : Int) + 1) = _; simp), by omega, (by first | rfl | simp), (by first | omega | (simp; done) | (simp; omega)), F260⟩
          · simp [slot, intOf]; omega
        intro hZ239
        refine ru_state 133 (fun t w_ => ∃ (acs110 : Nat) (lcs110 : Nat) (hcs110 : Nat) (yg13 : Nat), (hcs110 ≤ w_.heap.size) ∧ t 4 = .slice (some ⟨w152.heap.size, 0, none⟩) 5 5 ∧ t 5 = .slice (some ⟨w177.heap.size, 0, none⟩) 5 5 ∧ t 6 = .slice (some ⟨w222.heap.size, 0, none⟩) 5 5 ∧ t 7 = .int .i64 (k : Int) ∧ t 8 = .pointer (some ⟨yg13, 0, none⟩) ∧ t 120 = .agg (iceC xw) ∧ t 121 = .int .i64 0 ∧ w231.heap.size ≤ w_.heap.size ∧ Bun w [rbox yg13 37 (z8), rsl covEnc 3 lcs110 hcs110 (.slice (some ⟨acs110, 0, none⟩) 2 2) lawF.cov, rsl iceEnc 8 w222.heap.size (w222.heap.size + 1) (.slice (some ⟨w222.heap.size, 0, none⟩) 5 5) wantL, rsl weaEnc 6 w177.heap.size (w177.heap.size + 1) (.slice (some ⟨w177.heap.size, 0, none⟩) 5 5) dayL, rsl iceEnc 8 w152.heap.size (w152.heap.size + 1) (.slice (some ⟨w152.heap.size, 0, none⟩) 5 5) iceL, rsl covEnc 3 lcs90 hcs90 (.slice (some ⟨acs90, 0, none⟩) 2 2) lawF.cov, rtab Tryd.prog w.heap.size powName .u64 Lib.pow10Tab] w_) #[true, true, true, true, true, true, true, true, true, true, true, true, true, true, false, false] 2 ?st261 ?nx261
        case st261 =>
          rintro t w262 ⟨acs110, lcs110, hcs110, yg13, hycs110, e4, e5, e6, e7, e8, e120, e121, hsz261, F263⟩
          clear F236
          rw [rng_known_walk t, e4, e5, e6, e7, e8, e120, e121]
          clear e4 e5 e6 e7 e8 e120 e121
          have hws261 := F263.gb.size
          have yg13l := F263.ltAt 0 rfl yg13 rfl
          have yg13b := yg13l.2 rfl
          refine ru_one 14 rfl (by kernel_rfl) (fun K hK => ?_)
          have kb_ := F263.bx8 0 rfl
          go_simp
          clear kb_
          have F264 := F263.pt8 (.int .i64 xw.bl.lo) (.int .i64 xw.bl.hi) (.int .i64 xw.wh.lo) (.int .i64 xw.wh.hi) (.int .i64 xw.we.lo) (.int .i64 xw.we.hi) (.int .i64 xw.sn.lo) (.int .i64 xw.sn.hi)
          clear F263
          refine ru_back_late hK (by kernel_rfl) ?_
          clear hK K
          (try simp only [Act.put, List.setIfInBounds_toArray, List.set_cons_zero, List.set_cons_succ])
          refine ru_p 15 ?_
          (try simp only [Act.put, List.setIfInBounds_toArray, List.set_cons_zero, List.set_cons_succ])
          exact hZ239.out _ _ _ (by kernel_rfl) (by kernel_rfl) rfl ⟨acs110, lcs110, hcs110, yg13, (by first | omega | (simp; omega)), (by kernel_rfl), (by kernel_rfl), (by kernel_rfl), (by kernel_rfl), (by kernel_rfl), (by kernel_rfl), (by first | omega | (simp; done) | (simp; omega)), F264⟩
        intro hZ261
        refine ru_state 133 (fun t w_ => ∃ (acs110 : Nat) (lcs110 : Nat) (hcs110 : Nat), (hcs110 ≤ w_.heap.size) ∧ t 4 = .slice (some ⟨w152.heap.size, 0, none⟩) 5 5 ∧ t 5 = .slice (some ⟨w177.heap.size, 0, none⟩) 5 5 ∧ t 6 = .slice (some ⟨w222.heap.size, 0, none⟩) 5 5 ∧ t 7 = .int .i64 (k : Int) ∧ t 120 = .agg (iceC xw) ∧ t 121 = .int .i64 0 ∧ w231.heap.size ≤ w_.heap.size ∧ Bun w [rsl covEnc 3 lcs110 hcs110 (.slice (some ⟨acs110, 0, none⟩) 2 2) lawF.cov, rsl iceEnc 8 w222.heap.size (w222.heap.size + 1) (.slice (some ⟨w222.heap.size, 0, none⟩) 5 5) wantL, rsl weaEnc 6 w177.heap.size (w177.heap.size + 1) (.slice (some ⟨w177.heap.size, 0, none⟩) 5 5) dayL, rsl iceEnc 8 w152.heap.size (w152.heap.size + 1) (.slice (some ⟨w152.heap.size, 0, none⟩) 5 5) iceL, rsl covEnc 3 lcs90 hcs90 (.slice (some ⟨acs90, 0, none⟩) 2 2) lawF.cov, rtab Tryd.prog w.heap.size powName .u64 Lib.pow10Tab] w_) #[true, true, true, true, true, true, true, true, true, true, true, true, true, false, false, false] 3 ?st265 ?nx265
        case st265 =>
          rintro t w266 ⟨acs110, lcs110, hcs110, hycs110, e4, e5, e6, e7, e120, e121, hsz265, F267⟩
          clear F236
          rw [rng_known_walk t, e4, e5, e6, e7, e120, e121]
          clear e4 e5 e6 e7 e120 e121
          have hws265 := F267.gb.size
          refine ru_one 13 rfl (by kernel_rfl) (fun K hK => ?_)
          go_simp
          have F268 := F267.new 37 (z8) (n := w266.heap.size) (by simp)
          clear F267
          refine ru_back hK (by exact ⟨(((F268.at 4 rfl : Sl iceEnc 8 w152.heap.size (w152.heap.size + 1) _ (.slice (some ⟨w152.heap.size, 0, none⟩) 5 5) iceL)).cells0 hz233.out 0 _ rfl), (((F268.at 4 rfl : Sl iceEnc 8 w152.heap.size (w152.heap.size + 1) _ (.slice (some ⟨w152.heap.size, 0, none⟩) 5 5) iceL)).cells0 hz233.out 1 _ rfl), (((F268.at 4 rfl : Sl iceEnc 8 w152.heap.size (w152.heap.size + 1) _ (.slice (some ⟨w152.heap.size, 0, none⟩) 5 5) iceL)).cells0 hz233.out 2 _ rfl), (((F268.at 4 rfl : Sl iceEnc 8 w152.heap.size (w152.heap.size + 1) _ (.slice (some ⟨w152.heap.size, 0, none⟩) 5 5) iceL)).cells0 hz233.out 3 _ rfl), (((F268.at 4 rfl : Sl iceEnc 8 w152.heap.size (w152.heap.size + 1) _ (.slice (some ⟨w152.heap.size, 0, none⟩) 5 5) iceL)).cells0 hz233.out 4 _ rfl), (((F268.at 4 rfl : Sl iceEnc 8 w152.heap.size (w152.heap.size + 1) _ (.slice (some ⟨w152.heap.size, 0, none⟩) 5 5) iceL)).cells0 hz233.out 5 _ rfl), (((F268.at 4 rfl : Sl iceEnc 8 w152.heap.size (w152.heap.size + 1) _ (.slice (some ⟨w152.heap.size, 0, none⟩) 5 5) iceL)).cells0 hz233.out 6 _ rfl), (((F268.at 4 rfl : Sl iceEnc 8 w152.heap.size (w152.heap.size + 1) _ (.slice (some ⟨w152.heap.size, 0, none⟩) 5 5) iceL)).cells0 hz233.out 7 _ rfl), (((F268.at 3 rfl : Sl weaEnc 6 w177.heap.size (w177.heap.size + 1) _ (.slice (some ⟨w177.heap.size, 0, none⟩) 5 5) dayL)).cells0 hz234.out 0 _ rfl), (((F268.at 3 rfl : Sl weaEnc 6 w177.heap.size (w177.heap.size + 1) _ (.slice (some ⟨w177.heap.size, 0, none⟩) 5 5) dayL)).cells0 hz234.out 1 _ rfl), (((F268.at 3 rfl : Sl weaEnc 6 w177.heap.size (w177.heap.size + 1) _ (.slice (some ⟨w177.heap.size, 0, none⟩) 5 5) dayL)).cells0 hz234.out 2 _ rfl), (((F268.at 3 rfl : Sl weaEnc 6 w177.heap.size (w177.heap.size + 1) _ (.slice (some ⟨w177.heap.size, 0, none⟩) 5 5) dayL)).cells0 hz234.out 3 _ rfl), (((F268.at 3 rfl : Sl weaEnc 6 w177.heap.size (w177.heap.size + 1) _ (.slice (some ⟨w177.heap.size, 0, none⟩) 5 5) dayL)).cells0 hz234.out 4 _ rfl), (((F268.at 3 rfl : Sl weaEnc 6 w177.heap.size (w177.heap.size + 1) _ (.slice (some ⟨w177.heap.size, 0, none⟩) 5 5) dayL)).cells0 hz234.out 5 _ rfl)⟩) (fun _ => ?_)
          exact hZ261.out _ _ _ (by kernel_rfl) (by kernel_rfl) rfl ⟨acs110, lcs110, hcs110, w266.heap.size, (by first | omega | (simp; omega)), (by kernel_rfl), (by kernel_rfl), (by kernel_rfl), (by kernel_rfl), (by kernel_rfl), (by kernel_rfl), (by kernel_rfl), (by first | omega | (simp; done) | (simp; omega)), F268⟩
        intro hZ265
        refine ru_state 133 (fun t w_ => ∃ (acs110 : Nat) (lcs110 : Nat) (hcs110 : Nat) (yg13 : Nat), (hcs110 ≤ w_.heap.size) ∧ t 4 = .slice (some ⟨w152.heap.size, 0, none⟩) 5 5 ∧ t 5 = .slice (some ⟨w177.heap.size, 0, none⟩) 5 5 ∧ t 6 = .slice (some ⟨w222.heap.size, 0, none⟩) 5 5 ∧ t 7 = .int .i64 (k : Int) ∧ t 8 = .pointer (some ⟨yg13, 0, none⟩) ∧ t 110 = .agg #[.int .i64 100, .int .i64 10, .slice (some ⟨acs110, 0, none⟩) 2 2, .int .i64 100000, .int .i64 200000, .int .i64 300000, .int .i64 500000, .int .i64 600000] ∧ t 114 = .agg (iceC xi) ∧ t 118 = .agg (weaC xd xd.clear) ∧ w231.heap.size ≤ w_.heap.size ∧ Bun w [rbox yg13 37 (z8), rsl covEnc 3 lcs110 hcs110 (.slice (some ⟨acs110, 0, none⟩) 2 2) lawF.cov, rsl iceEnc 8 w222.heap.size (w222.heap.size + 1) (.slice (some ⟨w222.heap.size, 0, none⟩) 5 5) wantL, rsl weaEnc 6 w177.heap.size (w177.heap.size + 1) (.slice (some ⟨w177.heap.size, 0, none⟩) 5 5) dayL, rsl iceEnc 8 w152.heap.size (w152.heap.size + 1) (.slice (some ⟨w152.heap.size, 0, none⟩) 5 5) iceL, rsl covEnc 3 lcs90 hcs90 (.slice (some ⟨acs90, 0, none⟩) 2 2) lawF.cov, rtab Tryd.prog w.heap.size powName .u64 Lib.pow10Tab] w_) #[true, true, true, true, true, true, true, true, true, false, false, false, false, true, false, false] 6 ?st269 ?nx269
        case st269 =>
          rintro t w270 ⟨acs110, lcs110, hcs110, yg13, hycs110, e4, e5, e6, e7, e8, e110, e114, e118, hsz269, F271⟩
          clear F236
          rw [rng_known_walk t, e4, e5, e6, e7, e8, e110, e114, e118]
          clear e4 e5 e6 e7 e8 e110 e114 e118
          have hws269 := F271.gb.size
          have yg13l := F271.ltAt 0 rfl yg13 rfl
          have yg13b := yg13l.2 rfl
          refine ru_one 9 rfl (by kernel_rfl) (fun K hK => ?_)
          go_simp
          refine (step_w hgxi hgxd hgxw _ _ _ _ (F271.at 1 rfl : Sl covEnc 3 lcs110 hcs110 _ (.slice (some ⟨acs110, 0, none⟩) 2 2) lawF.cov) (by first | omega | (simp; omega))).mono ?_
          rintro e w274 ⟨rfl, hg272⟩
          have hg272s := hg272.size
          (try simp at hg272s)
          have F275 := F271.gn hg272
          clear F271
          refine ru_back hK (by exact ⟨(((F275.at 4 rfl : Sl iceEnc 8 w152.heap.size (w152.heap.size + 1) _ (.slice (some ⟨w152.heap.size, 0, none⟩) 5 5) iceL)).cells0 hz233.out 0 _ rfl), (((F275.at 4 rfl : Sl iceEnc 8 w152.heap.size (w152.heap.size + 1) _ (.slice (some ⟨w152.heap.size, 0, none⟩) 5 5) iceL)).cells0 hz233.out 1 _ rfl), (((F275.at 4 rfl : Sl iceEnc 8 w152.heap.size (w152.heap.size + 1) _ (.slice (some ⟨w152.heap.size, 0, none⟩) 5 5) iceL)).cells0 hz233.out 2 _ rfl), (((F275.at 4 rfl : Sl iceEnc 8 w152.heap.size (w152.heap.size + 1) _ (.slice (some ⟨w152.heap.size, 0, none⟩) 5 5) iceL)).cells0 hz233.out 3 _ rfl), (((F275.at 4 rfl : Sl iceEnc 8 w152.heap.size (w152.heap.size + 1) _ (.slice (some ⟨w152.heap.size, 0, none⟩) 5 5) iceL)).cells0 hz233.out 4 _ rfl), (((F275.at 4 rfl : Sl iceEnc 8 w152.heap.size (w152.heap.size + 1) _ (.slice (some ⟨w152.heap.size, 0, none⟩) 5 5) iceL)).cells0 hz233.out 5 _ rfl), (((F275.at 4 rfl : Sl iceEnc 8 w152.heap.size (w152.heap.size + 1) _ (.slice (some ⟨w152.heap.size, 0, none⟩) 5 5) iceL)).cells0 hz233.out 6 _ rfl), (((F275.at 4 rfl : Sl iceEnc 8 w152.heap.size (w152.heap.size + 1) _ (.slice (some ⟨w152.heap.size, 0, none⟩) 5 5) iceL)).cells0 hz233.out 7 _ rfl), (((F275.at 3 rfl : Sl weaEnc 6 w177.heap.size (w177.heap.size + 1) _ (.slice (some ⟨w177.heap.size, 0, none⟩) 5 5) dayL)).cells0 hz234.out 0 _ rfl), (((F275.at 3 rfl : Sl weaEnc 6 w177.heap.size (w177.heap.size + 1) _ (.slice (some ⟨w177.heap.size, 0, none⟩) 5 5) dayL)).cells0 hz234.out 1 _ rfl), (((F275.at 3 rfl : Sl weaEnc 6 w177.heap.size (w177.heap.size + 1) _ (.slice (some ⟨w177.heap.size, 0, none⟩) 5 5) dayL)).cells0 hz234.out 2 _ rfl), (((F275.at 3 rfl : Sl weaEnc 6 w177.heap.size (w177.heap.size + 1) _ (.slice (some ⟨w177.heap.size, 0, none⟩) 5 5) dayL)).cells0 hz234.out 3 _ rfl), (((F275.at 3 rfl : Sl weaEnc 6 w177.heap.size (w177.heap.size + 1) _ (.slice (some ⟨w177.heap.size, 0, none⟩) 5 5) dayL)).cells0 hz234.out 4 _ rfl), (((F275.at 3 rfl : Sl weaEnc 6 w177.heap.size (w177.heap.size + 1) _ (.slice (some ⟨w177.heap.size, 0, none⟩) 5 5) dayL)).cells0 hz234.out 5 _ rfl)⟩) (fun hHeld => ?_)
          clear hK K
          (try simp only [Act.put, List.setIfInBounds_toArray, List.set_cons_zero, List.set_cons_succ])
          refine ru_p 10 ?_
          (try simp only [Act.put, List.setIfInBounds_toArray, List.set_cons_zero, List.set_cons_succ])
          refine ru_p 11 ?_
          (try simp only [Act.put, List.setIfInBounds_toArray, List.set_cons_zero, List.set_cons_succ])
          refine ru_p 12 ?_
          (try simp only [Act.put, List.setIfInBounds_toArray, List.set_cons_zero, List.set_cons_succ])
          exact hZ261.out _ _ _ (by kernel_rfl) (by kernel_rfl) rfl ⟨acs110, lcs110, hcs110, yg13, (by first | omega | (simp; omega)), (by kernel_rfl), (by kernel_rfl), (by kernel_rfl), (by kernel_rfl), (by kernel_rfl), (by kernel_rfl), (by kernel_rfl), (by first | omega | (simp; done) | (simp; omega)), F275⟩
        intro hZ269
        refine ru_state 133 (fun t w_ => ∃ (acs110 : Nat) (lcs110 : Nat) (hcs110 : Nat), (hcs110 ≤ w_.heap.size) ∧ t 4 = .slice (some ⟨w152.heap.size, 0, none⟩) 5 5 ∧ t 5 = .slice (some ⟨w177.heap.size, 0, none⟩) 5 5 ∧ t 6 = .slice (some ⟨w222.heap.size, 0, none⟩) 5 5 ∧ t 7 = .int .i64 (k : Int) ∧ t 110 = .agg #[.int .i64 100, .int .i64 10, .slice (some ⟨acs110, 0, none⟩) 2 2, .int .i64 100000, .int .i64 200000, .int .i64 300000, .int .i64 500000, .int .i64 600000] ∧ t 114 = .agg (iceC xi) ∧ t 118 = .agg (weaC xd xd.clear) ∧ w231.heap.size ≤ w_.heap.size ∧ Bun w [rsl covEnc 3 lcs110 hcs110 (.slice (some ⟨acs110, 0, none⟩) 2 2) lawF.cov, rsl iceEnc 8 w222.heap.size (w222.heap.size + 1) (.slice (some ⟨w222.heap.size, 0, none⟩) 5 5) wantL, rsl weaEnc 6 w177.heap.size (w177.heap.size + 1) (.slice (some ⟨w177.heap.size, 0, none⟩) 5 5) dayL, rsl iceEnc 8 w152.heap.size (w152.heap.size + 1) (.slice (some ⟨w152.heap.size, 0, none⟩) 5 5) iceL, rsl covEnc 3 lcs90 hcs90 (.slice (some ⟨acs90, 0, none⟩) 2 2) lawF.cov, rtab Tryd.prog w.heap.size powName .u64 Lib.pow10Tab] w_) #[true, true, true, true, true, true, true, true, true, false, false, false, false, false, false, false] 7 ?st276 ?nx276
        case st276 =>
          rintro t w277 ⟨acs110, lcs110, hcs110, hycs110, e4, e5, e6, e7, e110, e114, e118, hsz276, F278⟩
          clear F236
          rw [rng_known_walk t, e4, e5, e6, e7, e110, e114, e118]
          clear e4 e5 e6 e7 e110 e114 e118
          have hws276 := F278.gb.size
          refine ru_two 9 13 rfl rfl (by kernel_rfl) ?_ ?_
          · intro K hK
            go_simp
            refine (step_w hgxi hgxd hgxw _ _ _ _ (F278.at 0 rfl : Sl covEnc 3 lcs110 hcs110 _ (.slice (some ⟨acs110, 0, none⟩) 2 2) lawF.cov) (by first | omega | (simp; omega))).mono ?_
            rintro e w281 ⟨rfl, hg279⟩
            have hg279s := hg279.size
            (try simp at hg279s)
            have F282 := F278.gn hg279
            clear F278
            refine ru_back hK (by exact ⟨(((F282.at 3 rfl : Sl iceEnc 8 w152.heap.size (w152.heap.size + 1) _ (.slice (some ⟨w152.heap.size, 0, none⟩) 5 5) iceL)).cells0 hz233.out 0 _ rfl), (((F282.at 3 rfl : Sl iceEnc 8 w152.heap.size (w152.heap.size + 1) _ (.slice (some ⟨w152.heap.size, 0, none⟩) 5 5) iceL)).cells0 hz233.out 1 _ rfl), (((F282.at 3 rfl : Sl iceEnc 8 w152.heap.size (w152.heap.size + 1) _ (.slice (some ⟨w152.heap.size, 0, none⟩) 5 5) iceL)).cells0 hz233.out 2 _ rfl), (((F282.at 3 rfl : Sl iceEnc 8 w152.heap.size (w152.heap.size + 1) _ (.slice (some ⟨w152.heap.size, 0, none⟩) 5 5) iceL)).cells0 hz233.out 3 _ rfl), (((F282.at 3 rfl : Sl iceEnc 8 w152.heap.size (w152.heap.size + 1) _ (.slice (some ⟨w152.heap.size, 0, none⟩) 5 5) iceL)).cells0 hz233.out 4 _ rfl), (((F282.at 3 rfl : Sl iceEnc 8 w152.heap.size (w152.heap.size + 1) _ (.slice (some ⟨w152.heap.size, 0, none⟩) 5 5) iceL)).cells0 hz233.out 5 _ rfl), (((F282.at 3 rfl : Sl iceEnc 8 w152.heap.size (w152.heap.size + 1) _ (.slice (some ⟨w152.heap.size, 0, none⟩) 5 5) iceL)).cells0 hz233.out 6 _ rfl), (((F282.at 3 rfl : Sl iceEnc 8 w152.heap.size (w152.heap.size + 1) _ (.slice (some ⟨w152.heap.size, 0, none⟩) 5 5) iceL)).cells0 hz233.out 7 _ rfl), (((F282.at 2 rfl : Sl weaEnc 6 w177.heap.size (w177.heap.size + 1) _ (.slice (some ⟨w177.heap.size, 0, none⟩) 5 5) dayL)).cells0 hz234.out 0 _ rfl), (((F282.at 2 rfl : Sl weaEnc 6 w177.heap.size (w177.heap.size + 1) _ (.slice (some ⟨w177.heap.size, 0, none⟩) 5 5) dayL)).cells0 hz234.out 1 _ rfl), (((F282.at 2 rfl : Sl weaEnc 6 w177.heap.size (w177.heap.size + 1) _ (.slice (some ⟨w177.heap.size, 0, none⟩) 5 5) dayL)).cells0 hz234.out 2 _ rfl), (((F282.at 2 rfl : Sl weaEnc 6 w177.heap.size (w177.heap.size + 1) _ (.slice (some ⟨w177.heap.size, 0, none⟩) 5 5) dayL)).cells0 hz234.out 3 _ rfl), (((F282.at 2 rfl : Sl weaEnc 6 w177.heap.size (w177.heap.size + 1) _ (.slice (some ⟨w177.heap.size, 0, none⟩) 5 5) dayL)).cells0 hz234.out 4 _ rfl), (((F282.at 2 rfl : Sl weaEnc 6 w177.heap.size (w177.heap.size + 1) _ (.slice (some ⟨w177.heap.size, 0, none⟩) 5 5) dayL)).cells0 hz234.out 5 _ rfl)⟩) (fun hHeld => ?_)
            clear hK K
            (try simp only [Act.put, List.setIfInBounds_toArray, List.set_cons_zero, List.set_cons_succ])
            refine ru_p 10 ?_
            (try simp only [Act.put, List.setIfInBounds_toArray, List.set_cons_zero, List.set_cons_succ])
            refine ru_p 11 ?_
            (try simp only [Act.put, List.setIfInBounds_toArray, List.set_cons_zero, List.set_cons_succ])
            refine ru_p 12 ?_
            (try simp only [Act.put, List.setIfInBounds_toArray, List.set_cons_zero, List.set_cons_succ])
            exact hZ265.out _ _ _ (by kernel_rfl) (by kernel_rfl) rfl ⟨acs110, lcs110, hcs110, (by first | omega | (simp; omega)), (by kernel_rfl), (by kernel_rfl), (by kernel_rfl), (by kernel_rfl), (by kernel_rfl), (by kernel_rfl), (by first | omega | (simp; done) | (simp; omega)), F282⟩
          · intro K hK
            go_simp
            have F283 := F278.new 37 (z8) (n := w277.heap.size) (by simp)
            clear F278
            refine ru_back hK (by exact ⟨(((F283.at 4 rfl : Sl iceEnc 8 w152.heap.size (w152.heap.size + 1) _ (.slice (some ⟨w152.heap.size, 0, none⟩) 5 5) iceL)).cells0 hz233.out 0 _ rfl), (((F283.at 4 rfl : Sl iceEnc 8 w152.heap.size (w152.heap.size + 1) _ (.slice (some ⟨w152.heap.size, 0, none⟩) 5 5) iceL)).cells0 hz233.out 1 _ rfl), (((F283.at 4 rfl : Sl iceEnc 8 w152.heap.size (w152.heap.size + 1) _ (.slice (some ⟨w152.heap.size, 0, none⟩) 5 5) iceL)).cells0 hz233.out 2 _ rfl), (((F283.at 4 rfl : Sl iceEnc 8 w152.heap.size (w152.heap.size + 1) _ (.slice (some ⟨w152.heap.size, 0, none⟩) 5 5) iceL)).cells0 hz233.out 3 _ rfl), (((F283.at 4 rfl : Sl iceEnc 8 w152.heap.size (w152.heap.size + 1) _ (.slice (some ⟨w152.heap.size, 0, none⟩) 5 5) iceL)).cells0 hz233.out 4 _ rfl), (((F283.at 4 rfl : Sl iceEnc 8 w152.heap.size (w152.heap.size + 1) _ (.slice (some ⟨w152.heap.size, 0, none⟩) 5 5) iceL)).cells0 hz233.out 5 _ rfl), (((F283.at 4 rfl : Sl iceEnc 8 w152.heap.size (w152.heap.size + 1) _ (.slice (some ⟨w152.heap.size, 0, none⟩) 5 5) iceL)).cells0 hz233.out 6 _ rfl), (((F283.at 4 rfl : Sl iceEnc 8 w152.heap.size (w152.heap.size + 1) _ (.slice (some ⟨w152.heap.size, 0, none⟩) 5 5) iceL)).cells0 hz233.out 7 _ rfl), (((F283.at 3 rfl : Sl weaEnc 6 w177.heap.size (w177.heap.size + 1) _ (.slice (some ⟨w177.heap.size, 0, none⟩) 5 5) dayL)).cells0 hz234.out 0 _ rfl), (((F283.at 3 rfl : Sl weaEnc 6 w177.heap.size (w177.heap.size + 1) _ (.slice (some ⟨w177.heap.size, 0, none⟩) 5 5) dayL)).cells0 hz234.out 1 _ rfl), (((F283.at 3 rfl : Sl weaEnc 6 w177.heap.size (w177.heap.size + 1) _ (.slice (some ⟨w177.heap.size, 0, none⟩) 5 5) dayL)).cells0 hz234.out 2 _ rfl), (((F283.at 3 rfl : Sl weaEnc 6 w177.heap.size (w177.heap.size + 1) _ (.slice (some ⟨w177.heap.size, 0, none⟩) 5 5) dayL)).cells0 hz234.out 3 _ rfl), (((F283.at 3 rfl : Sl weaEnc 6 w177.heap.size (w177.heap.size + 1) _ (.slice (some ⟨w177.heap.size, 0, none⟩) 5 5) dayL)).cells0 hz234.out 4 _ rfl), (((F283.at 3 rfl : Sl weaEnc 6 w177.heap.size (w177.heap.size + 1) _ (.slice (some ⟨w177.heap.size, 0, none⟩) 5 5) dayL)).cells0 hz234.out 5 _ rfl)⟩) (fun _ => ?_)
            exact hZ269.out _ _ _ (by kernel_rfl) (by kernel_rfl) rfl ⟨acs110, lcs110, hcs110, w277.heap.size, (by first | omega | (simp; omega)), (by kernel_rfl), (by kernel_rfl), (by kernel_rfl), (by kernel_rfl), (by kernel_rfl), (by kernel_rfl), (by kernel_rfl), (by kernel_rfl), (by first | omega | (simp; done) | (simp; omega)), F283⟩
        intro hZ276
        refine ru_state 133 (fun t w_ => ∃ (yg13 : Nat), t 4 = .slice (some ⟨w152.heap.size, 0, none⟩) 5 5 ∧ t 5 = .slice (some ⟨w177.heap.size, 0, none⟩) 5 5 ∧ t 6 = .slice (some ⟨w222.heap.size, 0, none⟩) 5 5 ∧ t 7 = .int .i64 (k : Int) ∧ t 8 = .pointer (some ⟨yg13, 0, none⟩) ∧ t 114 = .agg (iceC xi) ∧ t 118 = .agg (weaC xd xd.clear) ∧ w231.heap.size ≤ w_.heap.size ∧ Bun w [rbox yg13 37 (z8), rsl iceEnc 8 w222.heap.size (w222.heap.size + 1) (.slice (some ⟨w222.heap.size, 0, none⟩) 5 5) wantL, rsl weaEnc 6 w177.heap.size (w177.heap.size + 1) (.slice (some ⟨w177.heap.size, 0, none⟩) 5 5) dayL, rsl iceEnc 8 w152.heap.size (w152.heap.size + 1) (.slice (some ⟨w152.heap.size, 0, none⟩) 5 5) iceL, rsl covEnc 3 lcs90 hcs90 (.slice (some ⟨acs90, 0, none⟩) 2 2) lawF.cov, rtab Tryd.prog w.heap.size powName .u64 Lib.pow10Tab] w_) #[false, true, true, true, true, true, true, true, true, false, false, false, false, true, false, false] 7 ?st284 ?nx284
        case st284 =>
          rintro t w285 ⟨yg13, e4, e5, e6, e7, e8, e114, e118, hsz284, F286⟩
          clear F236
          rw [rng_known_walk t, e4, e5, e6, e7, e8, e114, e118]
          clear e4 e5 e6 e7 e8 e114 e118
          have hws284 := F286.gb.size
          have yg13l := F286.ltAt 0 rfl yg13 rfl
          have yg13b := yg13l.2 rfl
          refine ru_one 0 rfl (by kernel_rfl) (fun K hK => ?_)
          go_simp
          refine (law_g _).mono ?_
          rintro e w289 ⟨acs110, lcs110, hcs110, rfl, hxcs110, hycs110, hlcs110, hg287⟩
          have hg287s := hg287.size
          (try simp at hg287s)
          have F290 := F286.add (rsl covEnc 3 lcs110 hcs110 (.slice (some ⟨acs110, 0, none⟩) 2 2) lawF.cov) hg287 (hlcs110) (fun g e => ⟨Nat.le_trans hxcs110 e.1, Nat.lt_of_lt_of_le e.2 hycs110⟩)
          clear F286
          refine ru_back hK (by exact ⟨(((F290.at 4 rfl : Sl iceEnc 8 w152.heap.size (w152.heap.size + 1) _ (.slice (some ⟨w152.heap.size, 0, none⟩) 5 5) iceL)).cells0 hz233.out 0 _ rfl), (((F290.at 4 rfl : Sl iceEnc 8 w152.heap.size (w152.heap.size + 1) _ (.slice (some ⟨w152.heap.size, 0, none⟩) 5 5) iceL)).cells0 hz233.out 1 _ rfl), (((F290.at 4 rfl : Sl iceEnc 8 w152.heap.size (w152.heap.size + 1) _ (.slice (some ⟨w152.heap.size, 0, none⟩) 5 5) iceL)).cells0 hz233.out 2 _ rfl), (((F290.at 4 rfl : Sl iceEnc 8 w152.heap.size (w152.heap.size + 1) _ (.slice (some ⟨w152.heap.size, 0, none⟩) 5 5) iceL)).cells0 hz233.out 3 _ rfl), (((F290.at 4 rfl : Sl iceEnc 8 w152.heap.size (w152.heap.size + 1) _ (.slice (some ⟨w152.heap.size, 0, none⟩) 5 5) iceL)).cells0 hz233.out 4 _ rfl), (((F290.at 4 rfl : Sl iceEnc 8 w152.heap.size (w152.heap.size + 1) _ (.slice (some ⟨w152.heap.size, 0, none⟩) 5 5) iceL)).cells0 hz233.out 5 _ rfl), (((F290.at 4 rfl : Sl iceEnc 8 w152.heap.size (w152.heap.size + 1) _ (.slice (some ⟨w152.heap.size, 0, none⟩) 5 5) iceL)).cells0 hz233.out 6 _ rfl), (((F290.at 4 rfl : Sl iceEnc 8 w152.heap.size (w152.heap.size + 1) _ (.slice (some ⟨w152.heap.size, 0, none⟩) 5 5) iceL)).cells0 hz233.out 7 _ rfl), (((F290.at 3 rfl : Sl weaEnc 6 w177.heap.size (w177.heap.size + 1) _ (.slice (some ⟨w177.heap.size, 0, none⟩) 5 5) dayL)).cells0 hz234.out 0 _ rfl), (((F290.at 3 rfl : Sl weaEnc 6 w177.heap.size (w177.heap.size + 1) _ (.slice (some ⟨w177.heap.size, 0, none⟩) 5 5) dayL)).cells0 hz234.out 1 _ rfl), (((F290.at 3 rfl : Sl weaEnc 6 w177.heap.size (w177.heap.size + 1) _ (.slice (some ⟨w177.heap.size, 0, none⟩) 5 5) dayL)).cells0 hz234.out 2 _ rfl), (((F290.at 3 rfl : Sl weaEnc 6 w177.heap.size (w177.heap.size + 1) _ (.slice (some ⟨w177.heap.size, 0, none⟩) 5 5) dayL)).cells0 hz234.out 3 _ rfl), (((F290.at 3 rfl : Sl weaEnc 6 w177.heap.size (w177.heap.size + 1) _ (.slice (some ⟨w177.heap.size, 0, none⟩) 5 5) dayL)).cells0 hz234.out 4 _ rfl), (((F290.at 3 rfl : Sl weaEnc 6 w177.heap.size (w177.heap.size + 1) _ (.slice (some ⟨w177.heap.size, 0, none⟩) 5 5) dayL)).cells0 hz234.out 5 _ rfl)⟩) (fun _ => ?_)
          exact hZ269.out _ _ _ (by kernel_rfl) (by kernel_rfl) rfl ⟨acs110, lcs110, hcs110, yg13, (by first | omega | (simp; omega)), (by kernel_rfl), (by kernel_rfl), (by kernel_rfl), (by kernel_rfl), (by kernel_rfl), (by kernel_rfl), (by kernel_rfl), (by kernel_rfl), (by first | omega | (simp; done) | (simp; omega)), (F290.pick [1, 0, 2, 3, 4, 5, 6] (by decide) rfl)⟩
        intro hZ284
        refine ru_two 0 13 rfl rfl (by kernel_rfl) ?_ ?_
        · intro K hK
          go_simp
          refine (law_g _).mono ?_
          rintro e w293 ⟨acs110, lcs110, hcs110, rfl, hxcs110, hycs110, hlcs110, hg291⟩
          have hg291s := hg291.size
          (try simp at hg291s)
          have F294 := F236.add (rsl covEnc 3 lcs110 hcs110 (.slice (some ⟨acs110, 0, none⟩) 2 2) lawF.cov) hg291 (hlcs110) (fun g e => ⟨Nat.le_trans hxcs110 e.1, Nat.lt_of_lt_of_le e.2 hycs110⟩)
          clear F236
          refine ru_back hK (by exact ⟨(((F294.at 3 rfl : Sl iceEnc 8 w152.heap.size (w152.heap.size + 1) _ (.slice (some ⟨w152.heap.size, 0, none⟩) 5 5) iceL)).cells0 hz233.out 0 _ rfl), (((F294.at 3 rfl : Sl iceEnc 8 w152.heap.size (w152.heap.size + 1) _ (.slice (some ⟨w152.heap.size, 0, none⟩) 5 5) iceL)).cells0 hz233.out 1 _ rfl), (((F294.at 3 rfl : Sl iceEnc 8 w152.heap.size (w152.heap.size + 1) _ (.slice (some ⟨w152.heap.size, 0, none⟩) 5 5) iceL)).cells0 hz233.out 2 _ rfl), (((F294.at 3 rfl : Sl iceEnc 8 w152.heap.size (w152.heap.size + 1) _ (.slice (some ⟨w152.heap.size, 0, none⟩) 5 5) iceL)).cells0 hz233.out 3 _ rfl), (((F294.at 3 rfl : Sl iceEnc 8 w152.heap.size (w152.heap.size + 1) _ (.slice (some ⟨w152.heap.size, 0, none⟩) 5 5) iceL)).cells0 hz233.out 4 _ rfl), (((F294.at 3 rfl : Sl iceEnc 8 w152.heap.size (w152.heap.size + 1) _ (.slice (some ⟨w152.heap.size, 0, none⟩) 5 5) iceL)).cells0 hz233.out 5 _ rfl), (((F294.at 3 rfl : Sl iceEnc 8 w152.heap.size (w152.heap.size + 1) _ (.slice (some ⟨w152.heap.size, 0, none⟩) 5 5) iceL)).cells0 hz233.out 6 _ rfl), (((F294.at 3 rfl : Sl iceEnc 8 w152.heap.size (w152.heap.size + 1) _ (.slice (some ⟨w152.heap.size, 0, none⟩) 5 5) iceL)).cells0 hz233.out 7 _ rfl), (((F294.at 2 rfl : Sl weaEnc 6 w177.heap.size (w177.heap.size + 1) _ (.slice (some ⟨w177.heap.size, 0, none⟩) 5 5) dayL)).cells0 hz234.out 0 _ rfl), (((F294.at 2 rfl : Sl weaEnc 6 w177.heap.size (w177.heap.size + 1) _ (.slice (some ⟨w177.heap.size, 0, none⟩) 5 5) dayL)).cells0 hz234.out 1 _ rfl), (((F294.at 2 rfl : Sl weaEnc 6 w177.heap.size (w177.heap.size + 1) _ (.slice (some ⟨w177.heap.size, 0, none⟩) 5 5) dayL)).cells0 hz234.out 2 _ rfl), (((F294.at 2 rfl : Sl weaEnc 6 w177.heap.size (w177.heap.size + 1) _ (.slice (some ⟨w177.heap.size, 0, none⟩) 5 5) dayL)).cells0 hz234.out 3 _ rfl), (((F294.at 2 rfl : Sl weaEnc 6 w177.heap.size (w177.heap.size + 1) _ (.slice (some ⟨w177.heap.size, 0, none⟩) 5 5) dayL)).cells0 hz234.out 4 _ rfl), (((F294.at 2 rfl : Sl weaEnc 6 w177.heap.size (w177.heap.size + 1) _ (.slice (some ⟨w177.heap.size, 0, none⟩) 5 5) dayL)).cells0 hz234.out 5 _ rfl)⟩) (fun _ => ?_)
          exact hZ276.out _ _ _ (by kernel_rfl) (by kernel_rfl) rfl ⟨acs110, lcs110, hcs110, (by first | omega | (simp; omega)), (by kernel_rfl), (by kernel_rfl), (by kernel_rfl), (by kernel_rfl), (by kernel_rfl), (by kernel_rfl), (by kernel_rfl), (by first | omega | (simp; done) | (simp; omega)), F294⟩
        · intro K hK
          go_simp
          have F295 := F236.new 37 (z8) (n := wd238.heap.size) (by simp)
          clear F236
          refine ru_back hK (by exact ⟨(((F295.at 3 rfl : Sl iceEnc 8 w152.heap.size (w152.heap.size + 1) _ (.slice (some ⟨w152.heap.size, 0, none⟩) 5 5) iceL)).cells0 hz233.out 0 _ rfl), (((F295.at 3 rfl : Sl iceEnc 8 w152.heap.size (w152.heap.size + 1) _ (.slice (some ⟨w152.heap.size, 0, none⟩) 5 5) iceL)).cells0 hz233.out 1 _ rfl), (((F295.at 3 rfl : Sl iceEnc 8 w152.heap.size (w152.heap.size + 1) _ (.slice (some ⟨w152.heap.size, 0, none⟩) 5 5) iceL)).cells0 hz233.out 2 _ rfl), (((F295.at 3 rfl : Sl iceEnc 8 w152.heap.size (w152.heap.size + 1) _ (.slice (some ⟨w152.heap.size, 0, none⟩) 5 5) iceL)).cells0 hz233.out 3 _ rfl), (((F295.at 3 rfl : Sl iceEnc 8 w152.heap.size (w152.heap.size + 1) _ (.slice (some ⟨w152.heap.size, 0, none⟩) 5 5) iceL)).cells0 hz233.out 4 _ rfl), (((F295.at 3 rfl : Sl iceEnc 8 w152.heap.size (w152.heap.size + 1) _ (.slice (some ⟨w152.heap.size, 0, none⟩) 5 5) iceL)).cells0 hz233.out 5 _ rfl), (((F295.at 3 rfl : Sl iceEnc 8 w152.heap.size (w152.heap.size + 1) _ (.slice (some ⟨w152.heap.size, 0, none⟩) 5 5) iceL)).cells0 hz233.out 6 _ rfl), (((F295.at 3 rfl : Sl iceEnc 8 w152.heap.size (w152.heap.size + 1) _ (.slice (some ⟨w152.heap.size, 0, none⟩) 5 5) iceL)).cells0 hz233.out 7 _ rfl), (((F295.at 2 rfl : Sl weaEnc 6 w177.heap.size (w177.heap.size + 1) _ (.slice (some ⟨w177.heap.size, 0, none⟩) 5 5) dayL)).cells0 hz234.out 0 _ rfl), (((F295.at 2 rfl : Sl weaEnc 6 w177.heap.size (w177.heap.size + 1) _ (.slice (some ⟨w177.heap.size, 0, none⟩) 5 5) dayL)).cells0 hz234.out 1 _ rfl), (((F295.at 2 rfl : Sl weaEnc 6 w177.heap.size (w177.heap.size + 1) _ (.slice (some ⟨w177.heap.size, 0, none⟩) 5 5) dayL)).cells0 hz234.out 2 _ rfl), (((F295.at 2 rfl : Sl weaEnc 6 w177.heap.size (w177.heap.size + 1) _ (.slice (some ⟨w177.heap.size, 0, none⟩) 5 5) dayL)).cells0 hz234.out 3 _ rfl), (((F295.at 2 rfl : Sl weaEnc 6 w177.heap.size (w177.heap.size + 1) _ (.slice (some ⟨w177.heap.size, 0, none⟩) 5 5) dayL)).cells0 hz234.out 4 _ rfl), (((F295.at 2 rfl : Sl weaEnc 6 w177.heap.size (w177.heap.size + 1) _ (.slice (some ⟨w177.heap.size, 0, none⟩) 5 5) dayL)).cells0 hz234.out 5 _ rfl)⟩) (fun _ => ?_)
          exact hZ284.out _ _ _ (by kernel_rfl) (by kernel_rfl) rfl ⟨wd238.heap.size, (by kernel_rfl), (by kernel_rfl), (by kernel_rfl), (by kernel_rfl), (by kernel_rfl), (by kernel_rfl), (by kernel_rfl), (by first | omega | (simp; done) | (simp; omega)), F295⟩
      · skip
        have c232H := Lib.hid c232
        have c232a : decide ((k : Int) < 5) = false := dec_f c232
        go_wp2_with fail
        refine (others_c _ (hF229.at 4 rfl : _ ∧ Lib.TabIs Tryd.prog _ powName .u64 Lib.pow10Tab).2 (fun g_ e_ => Nat.lt_of_lt_of_le (hg g_ e_) hF229.gb.size)).mono ?_
        rintro e w298 ⟨rfl, hg296⟩
        have hg296s := hg296.size
        (try simp at hg296s)
        have F299 := hF229.gn hg296
        clear hF229
        clear hg296
        go_wp2_with fail
        go_ret
        exact ⟨rfl, F299.gb⟩
    case atStart1 =>
      rw [HI228.out]
      exact ⟨0, (by first | kernel_rfl | rfl), (by first | kernel_rfl | rfl), (by first | kernel_rfl | rfl), rfl, Nat.zero_le _, rfl, (by first | exact Nat.le_refl _ | omega | (simp; done) | (simp; omega)), F227⟩
  intro hZ79
  refine ru_state 133 (fun t w_ => t 1 = .pointer (some ⟨w.heap.size, 0, none⟩) ∧ t 23 = .agg #[.int .i64 400000, .int .i64 1000001] ∧ t 31 = .pointer (some ⟨acb58, 4, none⟩) ∧ w72.heap.size ≤ w_.heap.size ∧ Bun w [rbox w.heap.size 27 #[.int .i64 100, .int .i64 10, .slice none 0 0, .int .i64 100000, .int .i64 200000, .int .i64 300000, .int .i64 500000, .int .i64 600000, .int .i64 100, .int .i64 10, .slice (some ⟨acb22, 0, none⟩) 2 2, .int .i64 100000, .int .i64 200000, .int .i64 300000, .int .i64 500000, .int .i64 600000, .int .i64 100, .int .i64 0, .slice (some ⟨acb40, 0, none⟩) 2 2, .int .i64 100000, .int .i64 200000, .int .i64 300000, .int .i64 500000, .int .i64 600000, .int .i64 100, .int .i64 10, .slice (some ⟨acb58, 0, none⟩) 2 2, .int .i64 100000, .int .i64 200000, .int .i64 300000, .int .i64 500000, .int .i64 600000], rbox acb22 31 #[.int .i64 1, .int .i64 1000000, .int .i64 1000000, .int .i64 100, .int .i64 400000, .int .i64 500000], rbox acb58 31 #[.int .i64 0, .int .i64 1000000, .int .i64 1000000, .int .i64 100, .int .i64 400000, .int .i64 500000], rbox acb40 31 #[.int .i64 0, .int .i64 1000000, .int .i64 1000000, .int .i64 100, .int .i64 400000, .int .i64 500000], rbox acb4 31 #[.int .i64 0, .int .i64 1000000, .int .i64 1000000, .int .i64 100, .int .i64 400000, .int .i64 500000], rtab Tryd.prog w.heap.size powName .u64 Lib.pow10Tab] w_) #[true, true, true, true, true, true, true, true, true, true, true, true, true, true, true, true, true, true, false] 1 ?st300 ?nx300
  case st300 =>
    rintro t w301 ⟨e1, e23, e31, hsz300, F302⟩
    clear F76
    rw [rng_known_walk t, e1, e23, e31]
    clear e1 e23 e31
    have hws300 := F302.gb.size
    refine ru_one 18 rfl (by kernel_rfl) (fun K hK => ?_)
    have kb_ := F302.bx6 2 rfl
    go_simp
    clear kb_
    have F303 := ((F302.front 2 rfl rfl).set 4 (.int .i64 400000)).nf #[.int .i64 0, .int .i64 1000000, .int .i64 1000000, .int .i64 100, .int .i64 400000, .int .i64 500000] rfl
    clear F302
    have F304 := (F303.set 5 (.int .i64 1000001)).nf #[.int .i64 0, .int .i64 1000000, .int .i64 1000000, .int .i64 100, .int .i64 400000, .int .i64 1000001] rfl
    clear F303
    refine ru_back_late hK (by kernel_rfl) ?_
    exact hZ79.out _ _ _ (by kernel_rfl) (by kernel_rfl) rfl ⟨(by kernel_rfl), (by first | omega | (simp; done) | (simp; omega)), F304⟩
  intro hZ300
  refine ru_state 133 (fun t w_ => t 1 = .pointer (some ⟨w.heap.size, 0, none⟩) ∧ t 22 = .slice (some ⟨acb58, 0, none⟩) 2 2 ∧ t 23 = .agg #[.int .i64 400000, .int .i64 1000001] ∧ t 29 = .pointer (some ⟨w.heap.size, 17, none⟩) ∧ w72.heap.size ≤ w_.heap.size ∧ Bun w [rbox acb22 31 #[.int .i64 1, .int .i64 1000000, .int .i64 1000000, .int .i64 100, .int .i64 400000, .int .i64 500000], rbox w.heap.size 27 #[.int .i64 100, .int .i64 10, .slice none 0 0, .int .i64 100000, .int .i64 200000, .int .i64 300000, .int .i64 500000, .int .i64 600000, .int .i64 100, .int .i64 10, .slice (some ⟨acb22, 0, none⟩) 2 2, .int .i64 100000, .int .i64 200000, .int .i64 300000, .int .i64 500000, .int .i64 600000, .int .i64 100, .int .i64 10, .slice (some ⟨acb40, 0, none⟩) 2 2, .int .i64 100000, .int .i64 200000, .int .i64 300000, .int .i64 500000, .int .i64 600000, .int .i64 100, .int .i64 10, .slice (some ⟨acb58, 0, none⟩) 2 2, .int .i64 100000, .int .i64 200000, .int .i64 300000, .int .i64 500000, .int .i64 600000], rbox acb58 31 #[.int .i64 0, .int .i64 1000000, .int .i64 1000000, .int .i64 100, .int .i64 400000, .int .i64 500000], rbox acb40 31 #[.int .i64 0, .int .i64 1000000, .int .i64 1000000, .int .i64 100, .int .i64 400000, .int .i64 500000], rbox acb4 31 #[.int .i64 0, .int .i64 1000000, .int .i64 1000000, .int .i64 100, .int .i64 400000, .int .i64 500000], rtab Tryd.prog w.heap.size powName .u64 Lib.pow10Tab] w_) #[true, true, true, true, true, true, true, true, true, true, true, true, true, true, true, false, false, false, false] 4 ?st305 ?nx305
  case st305 =>
    rintro t w306 ⟨e1, e22, e23, e29, hsz305, F307⟩
    clear F76
    rw [rng_known_walk t, e1, e22, e23, e29]
    clear e1 e22 e23 e29
    have hws305 := F307.gb.size
    refine ru_one 15 rfl (by kernel_rfl) (fun K hK => ?_)
    have kb_ := F307.bx32 1 rfl
    go_simp
    clear kb_
    have F308 := ((F307.front 1 rfl rfl).set 17 (.int .i64 0)).nf #[.int .i64 100, .int .i64 10, .slice none 0 0, .int .i64 100000, .int .i64 200000, .int .i64 300000, .int .i64 500000, .int .i64 600000, .int .i64 100, .int .i64 10, .slice (some ⟨acb22, 0, none⟩) 2 2, .int .i64 100000, .int .i64 200000, .int .i64 300000, .int .i64 500000, .int .i64 600000, .int .i64 100, .int .i64 0, .slice (some ⟨acb40, 0, none⟩) 2 2, .int .i64 100000, .int .i64 200000, .int .i64 300000, .int .i64 500000, .int .i64 600000, .int .i64 100, .int .i64 10, .slice (some ⟨acb58, 0, none⟩) 2 2, .int .i64 100000, .int .i64 200000, .int .i64 300000, .int .i64 500000, .int .i64 600000] rfl
    clear F307
    refine ru_back hK (by exact ⟨F308.cl 0 10 rfl rfl, F308.cl 0 26 rfl rfl⟩) (fun hHeld => ?_)
    clear hK K
    (try simp only [Act.put, List.setIfInBounds_toArray, List.set_cons_zero, List.set_cons_succ])
    refine ru_p 16 ?_
    (try simp only [Act.put, List.setIfInBounds_toArray, List.set_cons_zero, List.set_cons_succ])
    refine ru_p 17 ?_
    (try simp only [Act.put, List.setIfInBounds_toArray, List.set_cons_zero, List.set_cons_succ])
    exact hZ300.out _ _ _ (by kernel_rfl) (by kernel_rfl) rfl ⟨(by kernel_rfl), (by kernel_rfl), (by kernel_rfl), (by first | omega | (simp; done) | (simp; omega)), F308⟩
  intro hZ305
  refine ru_state 133 (fun t w_ => t 1 = .pointer (some ⟨w.heap.size, 0, none⟩) ∧ t 22 = .slice (some ⟨acb58, 0, none⟩) 2 2 ∧ t 23 = .agg #[.int .i64 400000, .int .i64 1000001] ∧ t 27 = .pointer (some ⟨acb22, 0, none⟩) ∧ w72.heap.size ≤ w_.heap.size ∧ Bun w [rbox w.heap.size 27 #[.int .i64 100, .int .i64 10, .slice none 0 0, .int .i64 100000, .int .i64 200000, .int .i64 300000, .int .i64 500000, .int .i64 600000, .int .i64 100, .int .i64 10, .slice (some ⟨acb22, 0, none⟩) 2 2, .int .i64 100000, .int .i64 200000, .int .i64 300000, .int .i64 500000, .int .i64 600000, .int .i64 100, .int .i64 10, .slice (some ⟨acb40, 0, none⟩) 2 2, .int .i64 100000, .int .i64 200000, .int .i64 300000, .int .i64 500000, .int .i64 600000, .int .i64 100, .int .i64 10, .slice (some ⟨acb58, 0, none⟩) 2 2, .int .i64 100000, .int .i64 200000, .int .i64 300000, .int .i64 500000, .int .i64 600000], rbox acb58 31 #[.int .i64 0, .int .i64 1000000, .int .i64 1000000, .int .i64 100, .int .i64 400000, .int .i64 500000], rbox acb40 31 #[.int .i64 0, .int .i64 1000000, .int .i64 1000000, .int .i64 100, .int .i64 400000, .int .i64 500000], rbox acb22 31 #[.int .i64 0, .int .i64 1000000, .int .i64 1000000, .int .i64 100, .int .i64 400000, .int .i64 500000], rbox acb4 31 #[.int .i64 0, .int .i64 1000000, .int .i64 1000000, .int .i64 100, .int .i64 400000, .int .i64 500000], rtab Tryd.prog w.heap.size powName .u64 Lib.pow10Tab] w_) #[true, true, true, true, true, true, true, true, true, true, true, true, false, false, false, false, false, false, false] 7 ?st309 ?nx309
  case st309 =>
    rintro t w310 ⟨e1, e22, e23, e27, hsz309, F311⟩
    clear F76
    rw [rng_known_walk t, e1, e22, e23, e27]
    clear e1 e22 e23 e27
    have hws309 := F311.gb.size
    refine ru_one 12 rfl (by kernel_rfl) (fun K hK => ?_)
    have kb_ := F311.bx6 3 rfl
    go_simp
    clear kb_
    have F312 := ((F311.front 3 rfl rfl).set 0 (.int .i64 1)).nf #[.int .i64 1, .int .i64 1000000, .int .i64 1000000, .int .i64 100, .int .i64 400000, .int .i64 500000] rfl
    clear F311
    refine ru_back hK (by exact ⟨F312.cl 1 10 rfl rfl, F312.cl 1 26 rfl rfl⟩) (fun hHeld => ?_)
    clear hK K
    (try simp only [Act.put, List.setIfInBounds_toArray, List.set_cons_zero, List.set_cons_succ])
    refine ru_p 13 ?_
    (try simp only [Act.put, List.setIfInBounds_toArray, List.set_cons_zero, List.set_cons_succ])
    refine ru_p 14 ?_
    (try simp only [Act.put, List.setIfInBounds_toArray, List.set_cons_zero, List.set_cons_succ])
    exact hZ305.out _ _ _ (by kernel_rfl) (by kernel_rfl) rfl ⟨(by kernel_rfl), (by kernel_rfl), (by kernel_rfl), (by kernel_rfl), (by first | omega | (simp; done) | (simp; omega)), F312⟩
  intro hZ309
  refine ru_state 133 (fun t w_ => t 1 = .pointer (some ⟨w.heap.size, 0, none⟩) ∧ t 19 = .slice (some ⟨acb22, 0, none⟩) 2 2 ∧ t 22 = .slice (some ⟨acb58, 0, none⟩) 2 2 ∧ t 23 = .agg #[.int .i64 400000, .int .i64 1000001] ∧ t 25 = .pointer (some ⟨w.heap.size, 2, none⟩) ∧ w72.heap.size ≤ w_.heap.size ∧ Bun w [rbox w.heap.size 27 #[.int .i64 100, .int .i64 10, .slice (some ⟨acb4, 0, none⟩) 2 2, .int .i64 100000, .int .i64 200000, .int .i64 300000, .int .i64 500000, .int .i64 600000, .int .i64 100, .int .i64 10, .slice (some ⟨acb22, 0, none⟩) 2 2, .int .i64 100000, .int .i64 200000, .int .i64 300000, .int .i64 500000, .int .i64 600000, .int .i64 100, .int .i64 10, .slice (some ⟨acb40, 0, none⟩) 2 2, .int .i64 100000, .int .i64 200000, .int .i64 300000, .int .i64 500000, .int .i64 600000, .int .i64 100, .int .i64 10, .slice (some ⟨acb58, 0, none⟩) 2 2, .int .i64 100000, .int .i64 200000, .int .i64 300000, .int .i64 500000, .int .i64 600000], rbox acb58 31 #[.int .i64 0, .int .i64 1000000, .int .i64 1000000, .int .i64 100, .int .i64 400000, .int .i64 500000], rbox acb40 31 #[.int .i64 0, .int .i64 1000000, .int .i64 1000000, .int .i64 100, .int .i64 400000, .int .i64 500000], rbox acb22 31 #[.int .i64 0, .int .i64 1000000, .int .i64 1000000, .int .i64 100, .int .i64 400000, .int .i64 500000], rbox acb4 31 #[.int .i64 0, .int .i64 1000000, .int .i64 1000000, .int .i64 100, .int .i64 400000, .int .i64 500000], rtab Tryd.prog w.heap.size powName .u64 Lib.pow10Tab] w_) #[true, true, true, true, true, true, true, true, true, false, false, false, false, false, false, false, false, false, false] 10 ?st313 ?nx313
  case st313 =>
    rintro t w314 ⟨e1, e19, e22, e23, e25, hsz313, F315⟩
    clear F76
    rw [rng_known_walk t, e1, e19, e22, e23, e25]
    clear e1 e19 e22 e23 e25
    have hws313 := F315.gb.size
    refine ru_one 9 rfl (by kernel_rfl) (fun K hK => ?_)
    have kb_ := F315.bx32 0 rfl
    go_simp
    clear kb_
    have F316 := (F315.set 2 (.slice none 0 0)).nf #[.int .i64 100, .int .i64 10, .slice none 0 0, .int .i64 100000, .int .i64 200000, .int .i64 300000, .int .i64 500000, .int .i64 600000, .int .i64 100, .int .i64 10, .slice (some ⟨acb22, 0, none⟩) 2 2, .int .i64 100000, .int .i64 200000, .int .i64 300000, .int .i64 500000, .int .i64 600000, .int .i64 100, .int .i64 10, .slice (some ⟨acb40, 0, none⟩) 2 2, .int .i64 100000, .int .i64 200000, .int .i64 300000, .int .i64 500000, .int .i64 600000, .int .i64 100, .int .i64 10, .slice (some ⟨acb58, 0, none⟩) 2 2, .int .i64 100000, .int .i64 200000, .int .i64 300000, .int .i64 500000, .int .i64 600000] rfl
    clear F315
    refine ru_back hK (by exact ⟨F316.cl 0 10 rfl rfl, F316.cl 0 26 rfl rfl⟩) (fun hHeld => ?_)
    clear hK K
    (try simp only [Act.put, List.setIfInBounds_toArray, List.set_cons_zero, List.set_cons_succ])
    refine ru_p 10 ?_
    (try simp only [Act.put, List.setIfInBounds_toArray, List.set_cons_zero, List.set_cons_succ])
    refine ru_p 11 ?_
    (try simp only [Act.put, List.setIfInBounds_toArray, List.set_cons_zero, List.set_cons_succ])
    exact hZ309.out _ _ _ (by kernel_rfl) (by kernel_rfl) rfl ⟨(by kernel_rfl), (by kernel_rfl), (by kernel_rfl), (by kernel_rfl), (by first | omega | (simp; done) | (simp; omega)), F316⟩
  intro hZ313
  refine ru_one 6 rfl (by kernel_rfl) (fun K hK => ?_)
  go_simp
  refine (span_c 400000 1000001 _).mono ?_
  rintro e w319 ⟨rfl, hg317⟩
  have hg317s := hg317.size
  (try simp at hg317s)
  have F320 := F76.gn hg317
  clear F76
  refine ru_back hK (by exact ⟨F320.cl 0 10 rfl rfl, F320.cl 0 26 rfl rfl⟩) (fun hHeld => ?_)
  clear hK K
  (try simp only [Act.put, List.setIfInBounds_toArray, List.set_cons_zero, List.set_cons_succ])
  refine ru_p 7 ?_
  (try simp only [Act.put, List.setIfInBounds_toArray, List.set_cons_zero, List.set_cons_succ])
  refine ru_p 8 ?_
  (try simp only [Act.put, List.setIfInBounds_toArray, List.set_cons_zero, List.set_cons_succ])
  exact hZ313.out _ _ _ (by kernel_rfl) (by kernel_rfl) rfl ⟨(by kernel_rfl), (by kernel_rfl), (by kernel_rfl), (by kernel_rfl), (by kernel_rfl), (by first | omega | (simp; done) | (simp; omega)), F320⟩

end L
export L (known_walk)
end Go.Proofs.YtgkjicejaalijaaDoor
