/- fuel.Check: the error of a book. -/
import Derived.Test.YtcndphefomigeaaDoorPFormed
import Derived.Test.YtcndphefomigeaaDoorPGrp
set_option linter.unusedVariables false
set_option linter.unusedSimpArgs false
set_option linter.unnecessarySimpa false
namespace Go.Proofs.YtcndphefomigeaaDoor
open Go.RowKit Go.Shelf
set_option maxRecDepth 100000
attribute [local go_sem] run_store_func Oper.semAt_some

theorem formed_bok {b : Bok} (h : formedE b = 0) : BokOk b := by
  obtain ⟨⟨h1, h2, h3⟩, h4, h5⟩ := formed_ok h
  exact ⟨h1, h2, by omega, h4, h5⟩
def clash (g : Grp) : Bool := decide (g.most < 0) || (g.ground && decide (0 < g.least))
/-- No set of accounts up to number i has to give more than it can get. -/
def calm (b : Bok) (i : Nat) : Prop := ∀ j, j < i → clash (grp b j) = false
open Classical in
noncomputable def checkE (b : Bok) : Int := if formedE b = 0 then (if calm b (2 ^ b.accs.length) then 0 else 12) else formedE b

theorem leave_mark {P : Program} {fn : Func} {R : Ending → World → Prop} {tmps : Array Value} {D : Nat} {w : World} {v : Value} (hK : w.heap[D]? = some (.deferred (some [])))
    (h : (results fn tmps).run P (w.putObj D (.deferred none)) = .ok v (w.putObj D (.deferred none)) ∧ R (.returned v) (w.putObj D (.deferred none))) :
    bodyPostM Fence.wide 0 P fn R .ret { tmps := tmps, defers := [{ target := .collected D, args := #[] }] } w :=
  ⟨by simp, .inl ⟨_, _, rfl, run_takeDeferred hK, ⟨v, h.1, h.2⟩⟩⟩
theorem ownFrom_of {B : Nat} {I : Nat → World → Prop} (h : ∀ i W W' row, I i W → W.grownBy W' row → (∀ k, k < B → some k ≠ row) → I i W') : OwnFrom B I :=
  fun s W W' row hs hg hr => h s W W' row hs hg (fun k hk e => by have := (hr k e.symm).1; omega)

theorem HoldB.gbr {bx l1 h1 l2 h2 : Nat} {va vm : Value} {b : Bok} {A B : World} {r : Nat} (h : HoldB bx l1 h1 l2 h2 va vm b A) (hg : A.grownBy B (some r)) (h1' : bx ≠ r) (h2' : h1 ≤ r) (h3' : h2 ≤ r) : HoldB bx l1 h1 l2 h2 va vm b B :=
  ⟨h.1.gb hg (by simpa using h1'), h.2.1.gb hg (fun g e => by cases e; exact .inr h2'), h.2.2.gb hg (fun g e => by cases e; exact .inr h3')⟩
theorem HoldB.row {bx l1 h1 l2 h2 : Nat} {va vm : Value} {b : Bok} {A B : World} {row : Option Nat} (h : HoldB bx l1 h1 l2 h2 va vm b A) (hg : A.grownBy B row) (h1' : some bx ≠ row) (h2' : ∀ k, k < h1 → some k ≠ row) (h3' : ∀ k, k < h2 → some k ≠ row) : HoldB bx l1 h1 l2 h2 va vm b B :=
  ⟨h.1.gb hg h1', h.2.1.gb hg (fun g e => .inr (Nat.le_of_not_lt fun hl => h2' g hl e.symm)), h.2.2.gb hg (fun g e => .inr (Nat.le_of_not_lt fun hl => h3' g hl e.symm))⟩
theorem calm.step {b : Bok} {i : Nat} (h : calm b i) (hc : clash (grp b i) = false) : calm b (i + 1) := fun j hj => by
  rcases Nat.lt_succ_iff_lt_or_eq.1 hj with h1 | rfl
  · exact h j h1
  · exact hc

theorem groups_c (va vm : Value) (w : World) (hva : ∃ a n c, va = .slice a n c) (hvm : ∃ a n c, vm = .slice a n c) :
    Calls Tryd.prog 28 #[.agg #[va, vm]] w fun e w' => e = .returned (.func (.func 54) #[] #[.pointer (some ⟨w.heap.size, 0, none⟩)]) ∧ w' = w.alloc (.cells #[va, vm] 38) := by
  obtain ⟨a, n, c, rfl⟩ := hva
  obtain ⟨a', n', c', rfl⟩ := hvm
  go_enter Tryd.func28, Tryd.ntmps28
  go_wp2_with fail
  go_ret
  exact ⟨rfl, rfl⟩

set_option maxHeartbeats 4000000 in
theorem check_c (l1 h1 l2 h2 : Nat) (va vm : Value) (b : Bok) (w : World) (ha : Accs l1 h1 w va b.accs) (hm : Mvs l2 h2 w vm b.mvs) (hn : nameOk b.accs) (b1 : h1 ≤ w.heap.size) (b2 : h2 ≤ w.heap.size) :
    Calls Tryd.prog 12 #[.agg #[va, vm]] w (Ret (.int .i64 (checkE b)) w) := by
  obtain ⟨a, c, eva⟩ := ha.any
  obtain ⟨a', c', evm⟩ := hm.any
  have hvA : ∃ a n c, va = .slice a n c := ⟨_, _, _, eva⟩
  have hvM : ∃ a n c, vm = .slice a n c := ⟨_, _, _, evm⟩
  subst eva evm
  have HD := Lib.hid (And.intro ha (And.intro hm hn))
  have HV := Lib.hid (And.intro hvA hvM)
  clear ha hm hn hvA hvM
  obtain ⟨W0, hW0⟩ : ∃ W0, ((w.alloc (.cells #[.slice a b.accs.length c, .slice a' b.mvs.length c'] 38)).alloc (.cells #[.int .i64 0] 24)) = W0 := ⟨_, rfl⟩
  have hB1 : Bk W0 w.heap.size 38 #[.slice a b.accs.length c, .slice a' b.mvs.length c'] := by rw [← hW0]; exact ((Bk.new w 38 #[.slice a b.accs.length c, .slice a' b.mvs.length c']).alloc (.cells #[.int .i64 0] 24))
  have hB2 : Bk W0 (w.heap.size + 1) 24 #[.int .i64 0] := by
    have hx_ := (Bk.new (w.alloc (.cells #[.slice a b.accs.length c, .slice a' b.mvs.length c'] 38)) 24 #[.int .i64 0])
    rw [← hW0]
    simpa using hx_
  have hgW0 : w.grownBy W0 none := hW0 ▸ gb_alloc (gb_alloc (gb_refl _ _) _) _
  have HW0 := Lib.hid hW0
  clear hW0
  refine callsIn_wide.1 (callsIn_of_wp_marks (n := 0) Tryd.func12 rfl trivial ?_ rfl)
  simp only [Tryd.ntmps12, List.size_toArray, List.length_cons, List.length_nil, Nat.reduceAdd, Nat.reduceSub, Array.replicate_succ, Array.replicate_zero, List.push_toArray, List.append_toArray, List.nil_append, List.cons_append]
  refine wpIn_wide.2 ?_
  go_wp2_with fail
  rw [HW0.out]
  refine (formed_c l1 h1 l2 h2 _ _ b W0 (HD.out.1.gb hgW0 (by simp)) (HD.out.2.1.gb hgW0 (by simp)) HD.out.2.2 (by have := hgW0.size; omega) (by have := hgW0.size; omega)).mono ?_
  rintro e w1 ⟨rfl, hg1⟩
  clear HW0
  have hG1 := gb_trans hgW0 hg1
  replace hB1 := hB1.gb hg1 (by simp <;> omega)
  (try clear qhB1)
  have qhB1 := hB1.c2
  replace hB2 := hB2.gb hg1 (by simp <;> omega)
  (try clear qhB2)
  have qhB2 := hB2.c1
  clear hgW0 hg1
  by_cases hf : formedE b = 0
  · have hne : (formedE b != 0) = false := by simp [hf]
    have hok := formed_bok hf
    have HF := Lib.hid hf
    clear hf
    go_wp2_with (go_at_call 28; refine (groups_c _ _ _ HV.out.1 HV.out.2).mono ?_; rintro e w' ⟨rfl, rfl⟩)
    have hl1 := hB2.lt
    refine wp_rangeG (gf := 54) (lb := #[.pointer (some ⟨w1.heap.size, 0, none⟩)]) rfl (enters_of Tryd.func54 (by kernel_rfl) rfl) rfl (groups_seq w1.heap.size l1 h1 l2 h2 _ _ b hok)
      (fun i W => calm b i ∧ HoldB w1.heap.size l1 h1 l2 h2 (.slice a b.accs.length c) (.slice a' b.mvs.length c') b W ∧ Bk W (w.heap.size + 1) 24 #[.int .i64 0] ∧ w.grownBy W none)
      (fun cd i W => cd = .ret ∧ (∃ j, j < 2 ^ b.accs.length ∧ clash (grp b j) = true) ∧ Bk W (w.heap.size + 1) 24 #[.int .i64 12] ∧ w.grownBy W none)
      ?hI ?hIx (fun i A h => h.2.1) ?h0 ?round ?done ?stop
    case hI => exact ownFrom_of (fun i W W' row h hg hk => ⟨h.1, HoldB.row h.2.1 hg (hk _ (by simp)) (fun k hk' => hk k (by have := hG1.size; simp; omega)) (fun k hk' => hk k (by have := hG1.size; simp; omega)), h.2.2.1.gb hg (hk _ (by simp; omega)), gb_trans' h.2.2.2 hg (fun g e => .inr (Nat.le_of_not_lt fun h5 => hk g (by have := hG1.size; simp; omega) e.symm))⟩)
    case hIx => exact fun cd => ownFrom_of (fun i W W' row h hg hk => ⟨h.1, h.2.1, h.2.2.1.gb hg (hk _ (by simp; omega)), gb_trans' h.2.2.2 hg (fun g e => .inr (Nat.le_of_not_lt fun h5 => hk g (by have := hG1.size; simp; omega) e.symm))⟩)
    case h0 => exact ⟨fun j hj => absurd hj (Nat.not_lt_zero _), ⟨Bk.new w1 _ _, (HD.out.1.gb hG1 (by simp)).alloc _, (HD.out.2.1.gb hG1 (by simp)).alloc _⟩, hB2.alloc _, gb_alloc hG1 _⟩
    case round =>
      rintro l i p W ⟨hc, hh, hr, hg⟩ hi hp hW hbp
      have q := hr.c1
      have hl := hr.lt
      have hrl := hr.lt
      simp only [World.size_alloc] at hp hW
      simp only [Grp.v, World.size_alloc]
      gi_wp2
      refine ⟨KeepD.of_gb (gb_alloc (gb_refl _ none) _) (by omega) (by simp) (by simp), fun W2 hg2 => ?_⟩
      have hg' : w.grownBy W2 none := gb_trans' (gb_alloc hg _) hg2 (fun g e => .inr (by cases e; omega))
      have hr2 := (hr.alloc (.cells #[.func (.func 55) #[] #[.pointer (some ⟨p, 0, none⟩)], .int .i64 (grp b i).least, .int .i64 (grp b i).most, .bool (grp b i).ground, .bool (grp b i).rest] 72)).gb hg2 (by simp; omega)
      have hG2 := (Bk.new W 72 #[.func (.func 55) #[] #[.pointer (some ⟨p, 0, none⟩)], .int .i64 (grp b i).least, .int .i64 (grp b i).most, .bool (grp b i).ground, .bool (grp b i).rest]).gb hg2 (by simp; omega)
      have hh2 := (hh.gb (gb_alloc (gb_refl _ none) (.cells #[.func (.func 55) #[] #[.pointer (some ⟨p, 0, none⟩)], .int .i64 (grp b i).least, .int .i64 (grp b i).most, .bool (grp b i).ground, .bool (grp b i).rest] 72))).gbr hg2 (by omega) (by have := hG1.size; omega) (by have := hG1.size; omega)
      have q2 := hG2.c5
      have qr := hr2.c1
      have HI := Lib.hid (And.intro hc (And.intro hh2 (And.intro hr2 hg')))
      have hsz := hg2.size
      simp only [World.size_alloc] at hsz
      clear hc hh hr hg q hh2 hG2 hr2 hg' hg2
      by_cases m1 : (grp b i).most < 0
      · have Hc : Hid (clash (grp b i) = true) := Lib.hid (by simp [clash, m1])
        gi_wp2
        exact ⟨KeepD.of_gb (gb_setCell (gb_refl _ (some (w.heap.size + 1))) (.inl rfl) _) (by omega) (by simp; omega) (by simp; omega), rfl, ⟨i, hi, Hc.out⟩, HI.out.2.2.1.set 0 _, gb_setCell HI.out.2.2.2 (.inr (by simp)) _⟩
      · cases m2 : (grp b i).ground with
        | false =>
          have Hc : Hid (clash (grp b i) = false) := Lib.hid (by simp [clash, m1, m2])
          rw [m2] at q2
          gi_wp2
          exact ⟨⟨rfl, rfl⟩, HI.out.1.step Hc.out, HI.out.2.1, HI.out.2.2.1, HI.out.2.2.2⟩
        | true =>
          rw [m2] at q2
          by_cases m3 : 0 < (grp b i).least
          · have Hc : Hid (clash (grp b i) = true) := Lib.hid (by simp [clash, m2, m3])
            gi_wp2
            exact ⟨KeepD.of_gb (gb_setCell (gb_refl _ (some (w.heap.size + 1))) (.inl rfl) _) (by omega) (by simp; omega) (by simp; omega), rfl, ⟨i, hi, Hc.out⟩, HI.out.2.2.1.set 0 _, gb_setCell HI.out.2.2.2 (.inr (by simp)) _⟩
          · have Hc : Hid (clash (grp b i) = false) := Lib.hid (by simp [clash, m1, m2, m3])
            gi_wp2
            exact ⟨⟨rfl, rfl⟩, HI.out.1.step Hc.out, HI.out.2.1, HI.out.2.2.1, HI.out.2.2.2⟩
    case done =>
      rintro W ⟨hc, hh, hr, hg⟩ hK
      have q := hr.c1
      have Hx : Hid (checkE b = 0) := Lib.hid (by rw [checkE, if_pos HF.out, if_pos hc])
      have hg2 := grownBy_putObj' (W.setCell ⟨w.heap.size + 1, 0, none⟩ (.int .i64 0)) (w1.alloc (.cells #[.slice a b.accs.length c, .slice a' b.mvs.length c'] 38)).heap.size (.deferred none)
      have hG3 : w.grownBy _ none := gb_trans' (gb_setCell (p := ⟨w.heap.size + 1, 0, none⟩) hg (.inr (by simp)) (.int .i64 0)) hg2 (fun g e => .inr (by cases e; have := hG1.size; simp; omega))
      have q3 := ((hr.set 0 (.int .i64 0)).gb hg2 (by simp; omega)).c1
      simp only [World.size_alloc, List.setIfInBounds_toArray, List.set_cons_zero] at q3
      go_wp2_with fail
      exact leave_mark (v := .int .i64 0) ((Below.heap_setCell _ _ _ _ (by simp; omega)).trans hK) ⟨by simp [results, Tryd.results12, go_sem, q3], by rw [Hx.out], hG3⟩
    case stop =>
      rintro cd i W hi ⟨rfl, ⟨j, hj, hjc⟩, hr, hg⟩ hK
      have Hx : Hid (checkE b = 12) := Lib.hid (by rw [checkE, if_pos HF.out, if_neg (fun h => by rw [h j hj] at hjc; cases hjc)])
      have hg2 := grownBy_putObj' W (w1.alloc (.cells #[.slice a b.accs.length c, .slice a' b.mvs.length c'] 38)).heap.size (.deferred none)
      have hG3 : w.grownBy _ none := gb_trans' hg hg2 (fun g e => .inr (by cases e; have := hG1.size; simp; omega))
      have q3 := (hr.gb hg2 (by simp; omega)).c1
      simp only [World.size_alloc] at q3
      go_wp2_with fail
      exact leave_mark (v := .int .i64 12) hK ⟨by simp [results, Tryd.results12, go_sem, q3], by rw [Hx.out], hG3⟩
  · have hne : (formedE b != 0) = true := by simp [hf]
    have Hx : Hid (checkE b = formedE b) := Lib.hid (by rw [checkE, if_neg hf])
    have q3 := (hB2.set 0 (.int .i64 (formedE b))).c1
    try simp only [List.setIfInBounds_toArray, List.set_cons_zero] at q3
    clear hf
    go_wp2_with fail
    exact ⟨.int .i64 (formedE b), by simp [results, Tryd.results12, go_sem, q3], by rw [Hx.out], gb_setCell hG1 (.inr (by simp)) _⟩
end Go.Proofs.YtcndphefomigeaaDoor
