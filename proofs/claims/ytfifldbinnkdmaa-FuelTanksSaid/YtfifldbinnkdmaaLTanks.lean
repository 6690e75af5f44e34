/- The statement FuelTanks: the walk. -/
import Derived.Test.YtfifldbinnkdmaaWake
import Derived.Test.YtfifldbinnkdmaaKit3
import Derived.Test.YtfifldbinnkdmaaTankOf
import Derived.Test.YtfifldbinnkdmaaSeed3
import Derived.Deep.RegionHeld3
import Derived.Deep.QuietTactic
import Derived.BigQuiet
namespace Go.Proofs.Ytfifldbinnkdmaa
open Go.RowKit Go.Shelf
set_option maxRecDepth 100000
attribute [local go_sem] run_store_func

theorem volV_form (hs ls : List Int) (a b : Int) : ∃ x y e, volV hs ls a b = .tuple #[.agg #[.int .i64 x, .int .i64 y], .int .i64 e] := by
  by_cases h : volErr hs ls a b = 0
  · exact ⟨_, _, _, volV_ok h⟩
  · exact ⟨_, _, _, volV_err rfl h⟩
theorem stdV_form (a b c d e f : Int) : ∃ x y z, stdV a b c d e f = .tuple #[.agg #[.int .i64 x, .int .i64 y], .int .i64 z] := by
  by_cases h : stdErr a b c d e f = 0
  · exact ⟨_, _, _, by rw [stdV, if_pos h]⟩
  · exact ⟨_, _, _, stdV_err rfl h⟩

/-- What the statement's own blocks hold. -/
structure TanksF (w0 : World) (vh vl : Value) (hs ls : List Int) (p : Nat → Sp) (w : World) : Prop where
  hh : Ints 0 w0.heap.size w vh hs
  hl : Ints 0 w0.heap.size w vl ls
  b0 : Bk w w0.heap.size 51 #[vh, vl]
  b1 : Bk w (w0.heap.size + 1) 40 #[.int .i64 (p 0).lo, .int .i64 (p 0).hi]
  b2 : Bk w (w0.heap.size + 2) 40 #[.int .i64 (p 1).lo, .int .i64 (p 1).hi]
  b3 : Bk w (w0.heap.size + 3) 40 #[.int .i64 (p 2).lo, .int .i64 (p 2).hi]
  b4 : Bk w (w0.heap.size + 4) 40 #[.int .i64 (p 3).lo, .int .i64 (p 3).hi]
  gb : w0.grownBy w none
  sz : w0.heap.size + 5 ≤ w.heap.size
theorem TanksF.go {w0 w w' : World} {vh vl : Value} {hs ls : List Int} {p : Nat → Sp} {r : Option Nat} (h : TanksF w0 vh vl hs ls p w) (hg : w.grownBy w' r) (hr : ∀ g, r = some g → w0.heap.size + 5 ≤ g) : TanksF w0 vh vl hs ls p w' :=
  have ne : ∀ k, k < 5 → some (w0.heap.size + k) ≠ r := fun k hk e => by have := hr _ e.symm; omega
  ⟨h.hh.gb hg (fun g e => .inr (by have := hr g e; omega)), h.hl.gb hg (fun g e => .inr (by have := hr g e; omega)), h.b0.gb hg (ne 0 (by omega)), h.b1.gb hg (ne 1 (by omega)), h.b2.gb hg (ne 2 (by omega)), h.b3.gb hg (ne 3 (by omega)), h.b4.gb hg (ne 4 (by omega)),
    gb_trans' h.gb hg (fun g e => .inr (by have := hr g e; omega)), Nat.le_trans h.sz hg.size⟩
theorem TanksF.gn {w0 w w' : World} {vh vl : Value} {hs ls : List Int} {p : Nat → Sp} (h : TanksF w0 vh vl hs ls p w) (hg : w.grownBy w' none) : TanksF w0 vh vl hs ls p w' := h.go hg (fun _ e => by cases e)
theorem TanksF.alloc {w0 w : World} {vh vl : Value} {hs ls : List Int} {p : Nat → Sp} (h : TanksF w0 vh vl hs ls p w) (o : Obj) : TanksF w0 vh vl hs ls p (w.alloc o) := h.gn (gb_alloc (gb_refl _ _) o)

set_option maxHeartbeats 4000000 in
theorem tanks_walk (vh vl vn : Value) (hs ls zs : List Int) (p : Nat → Sp) (w : World) (hh : Ints 0 w.heap.size w vh hs) (hl : Ints 0 w.heap.size w vl ls) (hz : Ints 0 w.heap.size w vn zs) :
    Calls Try.prog 4 #[.agg #[vh, vl], (p 0).v, (p 1).v, (p 2).v, (p 3).v, vn] w (Ret (.bool true) w) := by
  obtain ⟨a1, c1, e1⟩ := hh.any
  obtain ⟨a2, c2, e2⟩ := hl.any
  subst e1 e2
  have hm1 := hh.len
  have hm2 := hl.len
  unfold maxLen at hm1 hm2
  obtain ⟨W0, hW0⟩ : ∃ W0, (((((w.alloc (.cells #[.slice a1 hs.length c1, .slice a2 ls.length c2] 51)).alloc (.cells #[.int .i64 (p 0).lo, .int .i64 (p 0).hi] 40)).alloc (.cells #[.int .i64 (p 1).lo, .int .i64 (p 1).hi] 40)).alloc (.cells #[.int .i64 (p 2).lo, .int .i64 (p 2).hi] 40)).alloc (.cells #[.int .i64 (p 3).lo, .int .i64 (p 3).hi] 40)) = W0 := ⟨_, rfl⟩
  have hB1 : Bk W0 w.heap.size 51 #[.slice a1 hs.length c1, .slice a2 ls.length c2] := by rw [← hW0]; exact (((((Bk.new w 51 #[.slice a1 hs.length c1, .slice a2 ls.length c2]).alloc (.cells #[.int .i64 (p 0).lo, .int .i64 (p 0).hi] 40)).alloc (.cells #[.int .i64 (p 1).lo, .int .i64 (p 1).hi] 40)).alloc (.cells #[.int .i64 (p 2).lo, .int .i64 (p 2).hi] 40)).alloc (.cells #[.int .i64 (p 3).lo, .int .i64 (p 3).hi] 40))
  have hB2 : Bk W0 (w.heap.size + 1) 40 #[.int .i64 (p 0).lo, .int .i64 (p 0).hi] := by
    have hx_ := ((((Bk.new (w.alloc (.cells #[.slice a1 hs.length c1, .slice a2 ls.length c2] 51)) 40 #[.int .i64 (p 0).lo, .int .i64 (p 0).hi]).alloc (.cells #[.int .i64 (p 1).lo, .int .i64 (p 1).hi] 40)).alloc (.cells #[.int .i64 (p 2).lo, .int .i64 (p 2).hi] 40)).alloc (.cells #[.int .i64 (p 3).lo, .int .i64 (p 3).hi] 40))
    rw [← hW0]
    simpa using hx_
  have hB3 : Bk W0 (w.heap.size + 2) 40 #[.int .i64 (p 1).lo, .int .i64 (p 1).hi] := by
    have hx_ := (((Bk.new ((w.alloc (.cells #[.slice a1 hs.length c1, .slice a2 ls.length c2] 51)).alloc (.cells #[.int .i64 (p 0).lo, .int .i64 (p 0).hi] 40)) 40 #[.int .i64 (p 1).lo, .int .i64 (p 1).hi]).alloc (.cells #[.int .i64 (p 2).lo, .int .i64 (p 2).hi] 40)).alloc (.cells #[.int .i64 (p 3).lo, .int .i64 (p 3).hi] 40))
    rw [← hW0]
    simpa using hx_
  have hB4 : Bk W0 (w.heap.size + 3) 40 #[.int .i64 (p 2).lo, .int .i64 (p 2).hi] := by
    have hx_ := ((Bk.new (((w.alloc (.cells #[.slice a1 hs.length c1, .slice a2 ls.length c2] 51)).alloc (.cells #[.int .i64 (p 0).lo, .int .i64 (p 0).hi] 40)).alloc (.cells #[.int .i64 (p 1).lo, .int .i64 (p 1).hi] 40)) 40 #[.int .i64 (p 2).lo, .int .i64 (p 2).hi]).alloc (.cells #[.int .i64 (p 3).lo, .int .i64 (p 3).hi] 40))
    rw [← hW0]
    simpa using hx_
  have hB5 : Bk W0 (w.heap.size + 4) 40 #[.int .i64 (p 3).lo, .int .i64 (p 3).hi] := by
    have hx_ := (Bk.new ((((w.alloc (.cells #[.slice a1 hs.length c1, .slice a2 ls.length c2] 51)).alloc (.cells #[.int .i64 (p 0).lo, .int .i64 (p 0).hi] 40)).alloc (.cells #[.int .i64 (p 1).lo, .int .i64 (p 1).hi] 40)).alloc (.cells #[.int .i64 (p 2).lo, .int .i64 (p 2).hi] 40)) 40 #[.int .i64 (p 3).lo, .int .i64 (p 3).hi])
    rw [← hW0]
    simpa using hx_
  have hgW0 : w.grownBy W0 none := hW0 ▸ gb_alloc (gb_alloc (gb_alloc (gb_alloc (gb_alloc (gb_refl _ _) _) _) _) _) _
  have HW0 := Lib.hid hW0
  clear hW0
  have hs0 : W0.heap.size = w.heap.size + 5 := by rw [← HW0.out]; simp
  have hF : TanksF w (.slice a1 hs.length c1) (.slice a2 ls.length c2) hs ls p W0 := ⟨hh.gb hgW0 (fun _ e => by cases e), hl.gb hgW0 (fun _ e => by cases e), hB1, hB2, hB3, hB4, hB5, hgW0, by omega⟩
  have HF := Lib.hid hF
  have HZ := Lib.hid (hz.gb hgW0 (fun _ e => by cases e))
  have q0 := hB1.c2
  have HS0 := Lib.hid hs0
  clear hh hl hz hB1 hB2 hB3 hB4 hB5 hgW0 hF hs0
  simp only [Sp.v]
  by_cases big : 60 < hs.length ∨ 60 < ls.length
  · have hbig : (60 < hs.length) ∨ ((¬ 60 < hs.length) ∧ 60 < ls.length) := by omega
    rcases hbig with g1 | ⟨g1, g2⟩
    all_goals
      go_enter Try.func4, Try.ntmps4
      go_wp2_with (refine wpList_skip ?_ ?_; rfl)
      rw [HW0.out]
      refine (awake_c _).mono ?_
      rintro e w1 ⟨rfl, hg⟩
      go_wp2_with fail
      go_ret
      exact ⟨rfl, gb_trans HF.out.gb hg⟩
  · have g1 : ¬ 60 < hs.length := by omega
    have g2 : ¬ 60 < ls.length := by omega
    have hl1 : hs.length ≤ 60 := by omega
    have hl2 : ls.length ≤ 60 := by omega
    clear big
    go_enter Try.func4, Try.ntmps4
    go_wp2_with (refine wpList_skip ?_ ?_; rfl)
    rw [HW0.out]
    refine (newSeed_c _ _ _ _ _ HZ.out).mono ?_
    rintro e w1 ⟨sb, rfl, hsb, hsd, hg1⟩
    replace HF := Lib.hid (HF.out.gn hg1)
    have hsl := hsd.lt
    have hsb5 : w.heap.size + 5 ≤ sb := by have := HS0.out; omega
    clear q0 hg1
    go_wp2_with fail
    refine (tankOf_c sb _ hsd).mono ?_
    rintro e w2 ⟨v2, rfl, hT, hsd2, hg2⟩
    obtain ⟨vh', vl', hs', ls', n, rfl, hh', hl', hT, hn2⟩ := hT
    have hT1 := hT.1
    have hT2 := hT.2.1
    have hT6 := hT.2.2.2.1
    have hTb := hT.2.2.2.2.1
    have hTs := hT.2.2.2.2.2
    obtain ⟨x, ox, c3, rfl, hx1, hx2, hxc⟩ := hh'.at (by omega)
    obtain ⟨y, oy, c4, rfl, hy1, hy2, hyc⟩ := hl'.at (by omega)
    have x0 : w2.cell? ⟨x, ox, none⟩ = some (.int .i64 (gi hs' 0)) := by have := hxc 0 (by omega); simpa using this
    have hz3 : w.heap.size + 5 ≤ w2.heap.size := by have := HF.out.sz; have := hg2.size; omega
    have xn := hxc (hs'.length - 1) (by omega)
    have hbT := Bk.new w2 51 #[.slice (some ⟨x, ox, none⟩) hs'.length c3, .slice (some ⟨y, oy, none⟩) ls'.length c4]
    replace HF := Lib.hid ((HF.out.go hg2 (fun g e => by cases e; omega)).alloc (.cells #[.slice (some ⟨x, ox, none⟩) hs'.length c3, .slice (some ⟨y, oy, none⟩) ls'.length c4] 51))
    have hz2 := hg2.size
    have HH := Lib.hid (And.intro (hh'.alloc (.cells #[.slice (some ⟨x, ox, none⟩) hs'.length c3, .slice (some ⟨y, oy, none⟩) ls'.length c4] 51)) (hl'.alloc (.cells #[.slice (some ⟨x, ox, none⟩) hs'.length c3, .slice (some ⟨y, oy, none⟩) ls'.length c4] 51)))
    have HSD := Lib.hid (hsd2.alloc (.cells #[.slice (some ⟨x, ox, none⟩) hs'.length c3, .slice (some ⟨y, oy, none⟩) ls'.length c4] 51))
    have HT := Lib.hid hT
    have hlast := hTb (n - 1) (by omega)
    have hmono : gi hs' 0 ≤ gi hs' (n - 1) := by
      have key : ∀ k, k < n → gi hs' 0 ≤ gi hs' k := by
        intro k
        induction k with
        | zero => intro _; omega
        | succ k ih => intro hk; have := (hTs (k + 1) (by omega) hk).1; simp only [Nat.add_sub_cancel] at this; have := ih (by omega); omega
      exact key _ (by omega)
    have hfirst := hTb 0 (by omega)
    rw [← hT1] at hlast hmono
    have p1 : (0 : Int) ≤ (hs'.length : Int) - 1 := by omega
    have p2 : (hs'.length : Int) - 1 < (hs'.length : Int) := by omega
    have p3 : ((hs'.length : Int) - 1).toNat = hs'.length - 1 := by omega
    have p9 : hs'.length ≤ 6 := by omega
    have p5 : (1 : Int) ≤ (hs'.length : Int) := by omega
    have p6 : 1 ≤ hs'.length := by omega
    have p7 : (0 : Int) < (hs'.length : Int) := by omega
    have p8 : 0 < hs'.length := by omega
    clear hg2 hh' hl' hxc hyc hT hTb hTs hsd hsd2 hT1 hT2
    have q1 := hbT.c2
    go_wp2_with fail
    clear xn
    replace x0 := alc (.cells #[.slice (some ⟨x, ox, none⟩) hs'.length c3, .slice (some ⟨y, oy, none⟩) ls'.length c4] 51) x0
    have f0 := HF.out.b0.c2
    have f1 := HF.out.b1.c2
    refine wp_cutK 160 (fun t wr => ∃ (g g' : Nat) (d : Sp), t 8 = .pointer (some ⟨w.heap.size + 1 + 1, 0, none⟩) ∧ t 9 = .pointer (some ⟨w.heap.size + 1 + 1 + 1, 0, none⟩) ∧ t 10 = .pointer (some ⟨w.heap.size + 1 + 1 + 1 + 1, 0, none⟩) ∧ t 16 = .slice (some ⟨g, 0, none⟩) 3 3 ∧ t 17 = .slice (some ⟨g', 0, none⟩) 3 3 ∧ Bk wr g 51 #[.slice a1 hs.length c1, .slice a2 ls.length c2, .slice (some ⟨x, ox, none⟩) hs'.length c3, .slice (some ⟨y, oy, none⟩) ls'.length c4, .slice (some ⟨x, ox, none⟩) hs'.length c3, .slice (some ⟨y, oy, none⟩) ls'.length c4] ∧ Bk wr g' 40 #[.int .i64 (p 0).lo, .int .i64 (p 0).hi, .int .i64 d.lo, .int .i64 d.hi, .int .i64 (p 0).lo, .int .i64 (p 0).hi] ∧ TanksF w (.slice a1 hs.length c1) (.slice a2 ls.length c2) hs ls p wr ∧ Ints w1.heap.size w2.heap.size wr (.slice (some ⟨x, ox, none⟩) hs'.length c3) hs' ∧ Ints w1.heap.size w2.heap.size wr (.slice (some ⟨y, oy, none⟩) ls'.length c4) ls' ∧ w2.heap.size ≤ wr.heap.size) ?first1 ?rest1
    case rest1 =>
      rintro t wr ⟨g, g', d, e8, e9, e10, e16, e17, hrel⟩
      have e : ((List.range 160).map t).toArray = #[t 0, t 1, t 2, t 3, t 4, t 5, t 6, t 7, t 8, t 9, t 10, t 11, t 12, t 13, t 14, t 15, t 16, t 17, t 18, t 19, t 20, t 21, t 22, t 23, t 24, t 25, t 26, t 27, t 28, t 29, t 30, t 31, t 32, t 33, t 34, t 35, t 36, t 37, t 38, t 39, t 40, t 41, t 42, t 43, t 44, t 45, t 46, t 47, t 48, t 49, t 50, t 51, t 52, t 53, t 54, t 55, t 56, t 57, t 58, t 59, t 60, t 61, t 62, t 63, t 64, t 65, t 66, t 67, t 68, t 69, t 70, t 71, t 72, t 73, t 74, t 75, t 76, t 77, t 78, t 79, t 80, t 81, t 82, t 83, t 84, t 85, t 86, t 87, t 88, t 89, t 90, t 91, t 92, t 93, t 94, t 95, t 96, t 97, t 98, t 99, t 100, t 101, t 102, t 103, t 104, t 105, t 106, t 107, t 108, t 109, t 110, t 111, t 112, t 113, t 114, t 115, t 116, t 117, t 118, t 119, t 120, t 121, t 122, t 123, t 124, t 125, t 126, t 127, t 128, t 129, t 130, t 131, t 132, t 133, t 134, t 135, t 136, t 137, t 138, t 139, t 140, t 141, t 142, t 143, t 144, t 145, t 146, t 147, t 148, t 149, t 150, t 151, t 152, t 153, t 154, t 155, t 156, t 157, t 158, t 159] := rfl
      (try dsimp only at e)
      rw [e8, e9, e10, e16, e17] at e
      rw [e]
      clear e e8 e9 e10 e16 e17
      obtain ⟨hA, hD, hF, hh3, hl3, hz24⟩ := hrel
      obtain ⟨H, L, HL, LL, D, hcell⟩ : ∃ (H L : Nat → Value) (HL LL : Nat → List Int) (D : Nat → Sp), ∀ i, i < 3 → (wr.cell? ⟨g, i * 2, none⟩ = some (H i) ∧ wr.cell? ⟨g, i * 2 + 1, none⟩ = some (L i)) ∧ (wr.cell? ⟨g', i * 2, none⟩ = some (.int .i64 (D i).lo) ∧ wr.cell? ⟨g', i * 2 + 1, none⟩ = some (.int .i64 (D i).hi)) ∧
          Ints 0 w2.heap.size wr (H i) (HL i) ∧ Ints 0 w2.heap.size wr (L i) (LL i) ∧ (HL i).length ≤ 60 ∧ (LL i).length ≤ 60 :=
        ⟨fun i => if i = 0 then .slice a1 hs.length c1 else .slice (some ⟨x, ox, none⟩) hs'.length c3, fun i => if i = 0 then .slice a2 ls.length c2 else .slice (some ⟨y, oy, none⟩) ls'.length c4,
          fun i => if i = 0 then hs else hs', fun i => if i = 0 then ls else ls', fun i => if i = 1 then d else p 0, fun i hi => by
            have hi3 : i = 0 ∨ i = 1 ∨ i = 2 := by omega
            have w1' := hF.hh.wide (Nat.zero_le 0) (show w.heap.size ≤ w2.heap.size by omega)
            have w2' := hF.hl.wide (Nat.zero_le 0) (show w.heap.size ≤ w2.heap.size by omega)
            have w3' := hh3.wide (Nat.zero_le _) (Nat.le_refl _)
            have w4' := hl3.wide (Nat.zero_le _) (Nat.le_refl _)
            rcases hi3 with rfl | rfl | rfl
            · exact ⟨⟨hA.cell 0, hA.cell 1⟩, ⟨hD.cell 0, hD.cell 1⟩, w1', w2', hl1, hl2⟩
            · exact ⟨⟨hA.cell 2, hA.cell 3⟩, ⟨hD.cell 2, hD.cell 3⟩, w3', w4', by simp; omega, by have := HT.out.2.1; have := HT.out.2.2.2.1; simp; omega⟩
            · exact ⟨⟨hA.cell 4, hA.cell 5⟩, ⟨hD.cell 4, hD.cell 5⟩, w3', w4', by simp; omega, by have := HT.out.2.1; have := HT.out.2.2.2.1; simp; omega⟩⟩
      have HC := Lib.hid hcell
      replace HF := Lib.hid hF
      have hgl := hA.lt
      have hgl' := hD.lt
      clear hA hD hF hh3 hl3 hcell
      obtain ⟨w4, rfl⟩ : ∃ w4 : World, w4 = wr := ⟨_, rfl⟩
      have hz4 : w2.heap.size ≤ w4.heap.size := hz24
      go_wp2_with fail
      refine wp_loopS 160 rfl (fun t ds wr => ∃ (i : Nat), t 8 = .pointer (some ⟨w.heap.size + 1 + 1, 0, none⟩) ∧ t 9 = .pointer (some ⟨w.heap.size + 1 + 1 + 1, 0, none⟩) ∧ t 10 = .pointer (some ⟨w.heap.size + 1 + 1 + 1 + 1, 0, none⟩) ∧ t 16 = .slice (some ⟨g, 0, none⟩) 3 3 ∧ t 17 = .slice (some ⟨g', 0, none⟩) 3 3 ∧ t 18 = .int .i64 i ∧ i ≤ 3 ∧ ds = [] ∧ w4.grownBy wr none) (fun t wr => 3 - (intOf (t 18)).toNat) ?atStart ?round
      case round =>
        rintro t ds wr ⟨i, e8, e9, e10, e16, e17, e18, hrel⟩
        have e : ((List.range 160).map t).toArray = #[t 0, t 1, t 2, t 3, t 4, t 5, t 6, t 7, t 8, t 9, t 10, t 11, t 12, t 13, t 14, t 15, t 16, t 17, t 18, t 19, t 20, t 21, t 22, t 23, t 24, t 25, t 26, t 27, t 28, t 29, t 30, t 31, t 32, t 33, t 34, t 35, t 36, t 37, t 38, t 39, t 40, t 41, t 42, t 43, t 44, t 45, t 46, t 47, t 48, t 49, t 50, t 51, t 52, t 53, t 54, t 55, t 56, t 57, t 58, t 59, t 60, t 61, t 62, t 63, t 64, t 65, t 66, t 67, t 68, t 69, t 70, t 71, t 72, t 73, t 74, t 75, t 76, t 77, t 78, t 79, t 80, t 81, t 82, t 83, t 84, t 85, t 86, t 87, t 88, t 89, t 90, t 91, t 92, t 93, t 94, t 95, t 96, t 97, t 98, t 99, t 100, t 101, t 102, t 103, t 104, t 105, t 106, t 107, t 108, t 109, t 110, t 111, t 112, t 113, t 114, t 115, t 116, t 117, t 118, t 119, t 120, t 121, t 122, t 123, t 124, t 125, t 126, t 127, t 128, t 129, t 130, t 131, t 132, t 133, t 134, t 135, t 136, t 137, t 138, t 139, t 140, t 141, t 142, t 143, t 144, t 145, t 146, t 147, t 148, t 149, t 150, t 151, t 152, t 153, t 154, t 155, t 156, t 157, t 158, t 159] := rfl
        (try dsimp only at e)
        rw [e8, e9, e10, e16, e17, e18] at e
        rw [e]
        simp only [e18]
        clear e e8 e9 e10 e16 e17 e18
        obtain ⟨hi, rfl, hgr⟩ := hrel
        have hzr := hgr.size
        by_cases hlt : i < 3
        · have c0 := (HC.out i hlt).1
          have c1' := gbc hgr (by simp) c0.1
          have c2' := gbc hgr (by simp) c0.2
          have HI := Lib.hid (And.intro ((HC.out i hlt).2.2.1.gb hgr (fun _ e => by cases e)) (And.intro ((HC.out i hlt).2.2.2.1.gb hgr (fun _ e => by cases e)) (HC.out i hlt).2.2.2.2))
          have HG := Lib.hid hgr
          clear c0 hgr
          go_wp2_with fail
          obtain ⟨wL, rfl⟩ : ∃ wL : World, wL = wr := ⟨_, rfl⟩
          have tok1 : Hid (1 = 1) := Lib.hid rfl
          refine wp_cutK 160 (fun t wr => ∃ (g9 : Nat) (a9 b9 : Option Addr) (c9 d9 : Nat), t 8 = .pointer (some ⟨w.heap.size + 1 + 1, 0, none⟩) ∧ t 9 = .pointer (some ⟨w.heap.size + 1 + 1 + 1, 0, none⟩) ∧ t 10 = .pointer (some ⟨w.heap.size + 1 + 1 + 1 + 1, 0, none⟩) ∧ t 16 = .slice (some ⟨g, 0, none⟩) 3 3 ∧ t 17 = .slice (some ⟨g', 0, none⟩) 3 3 ∧ t 18 = .int .i64 i ∧ t 19 = .pointer (some ⟨g9, 0, none⟩) ∧ wL.grownBy wr none ∧ Bk wr g9 51 #[.slice a9 (HL i).length c9, .slice b9 (LL i).length d9] ∧ Ints 0 wr.heap.size wr (.slice a9 (HL i).length c9) (HL i) ∧ Ints 0 wr.heap.size wr (.slice b9 (LL i).length d9) (LL i)) ?first2 ?rest2
          case rest2 =>
            rintro t wr ⟨g9, a9, b9, c9, d9, e8, e9, e10, e16, e17, e18, e19, hrel⟩
            have e : ((List.range 160).map t).toArray = #[t 0, t 1, t 2, t 3, t 4, t 5, t 6, t 7, t 8, t 9, t 10, t 11, t 12, t 13, t 14, t 15, t 16, t 17, t 18, t 19, t 20, t 21, t 22, t 23, t 24, t 25, t 26, t 27, t 28, t 29, t 30, t 31, t 32, t 33, t 34, t 35, t 36, t 37, t 38, t 39, t 40, t 41, t 42, t 43, t 44, t 45, t 46, t 47, t 48, t 49, t 50, t 51, t 52, t 53, t 54, t 55, t 56, t 57, t 58, t 59, t 60, t 61, t 62, t 63, t 64, t 65, t 66, t 67, t 68, t 69, t 70, t 71, t 72, t 73, t 74, t 75, t 76, t 77, t 78, t 79, t 80, t 81, t 82, t 83, t 84, t 85, t 86, t 87, t 88, t 89, t 90, t 91, t 92, t 93, t 94, t 95, t 96, t 97, t 98, t 99, t 100, t 101, t 102, t 103, t 104, t 105, t 106, t 107, t 108, t 109, t 110, t 111, t 112, t 113, t 114, t 115, t 116, t 117, t 118, t 119, t 120, t 121, t 122, t 123, t 124, t 125, t 126, t 127, t 128, t 129, t 130, t 131, t 132, t 133, t 134, t 135, t 136, t 137, t 138, t 139, t 140, t 141, t 142, t 143, t 144, t 145, t 146, t 147, t 148, t 149, t 150, t 151, t 152, t 153, t 154, t 155, t 156, t 157, t 158, t 159] := rfl
            (try dsimp only at e)
            rw [e8, e9, e10, e16, e17, e18, e19] at e
            rw [e]
            clear e e8 e9 e10 e16 e17 e18 e19
            obtain ⟨hg9, hb9, hi9, hj9⟩ := hrel
            obtain ⟨wT, rfl⟩ : ∃ wT : World, wT = wr := ⟨_, rfl⟩
            obtain ⟨xv, yv, ev, hv⟩ := volV_form (HL i) (LL i) (D i).lo (D i).hi
            have HV := Lib.hid hv
            have hz9 := hg9.size
            have hgr9 := gb_trans HG.out hg9
            have q9 := hb9.c2
            have hl9 := hb9.lt
            have dc1 := gbc hgr9 (by simp) (HC.out i hlt).2.1.1
            have dc2 := gbc hgr9 (by simp) (HC.out i hlt).2.1.2
            have HT9 := Lib.hid (And.intro hi9 (And.intro hj9 (And.intro hb9 hg9)))
            clear hv hi9 hj9 hb9 hg9 hgr9 c1' c2'
            go_wp2_with fail
            refine wp_cutK 160 (fun t wr => ∃ (g10 : Nat), t 8 = .pointer (some ⟨w.heap.size + 1 + 1, 0, none⟩) ∧ t 9 = .pointer (some ⟨w.heap.size + 1 + 1 + 1, 0, none⟩) ∧ t 10 = .pointer (some ⟨w.heap.size + 1 + 1 + 1 + 1, 0, none⟩) ∧ t 16 = .slice (some ⟨g, 0, none⟩) 3 3 ∧ t 17 = .slice (some ⟨g', 0, none⟩) 3 3 ∧ t 18 = .int .i64 i ∧ t 19 = .pointer (some ⟨g9, 0, none⟩) ∧ t 20 = .pointer (some ⟨g10, 0, none⟩) ∧ t 21 = .int .i64 ev ∧ wT.grownBy wr none ∧ Bk wr g10 40 #[.int .i64 xv, .int .i64 yv]) ?first3 ?rest3
            case rest3 =>
              rintro t wr ⟨g10, e8, e9, e10, e16, e17, e18, e19, e20, e21, hrel⟩
              have e : ((List.range 160).map t).toArray = #[t 0, t 1, t 2, t 3, t 4, t 5, t 6, t 7, t 8, t 9, t 10, t 11, t 12, t 13, t 14, t 15, t 16, t 17, t 18, t 19, t 20, t 21, t 22, t 23, t 24, t 25, t 26, t 27, t 28, t 29, t 30, t 31, t 32, t 33, t 34, t 35, t 36, t 37, t 38, t 39, t 40, t 41, t 42, t 43, t 44, t 45, t 46, t 47, t 48, t 49, t 50, t 51, t 52, t 53, t 54, t 55, t 56, t 57, t 58, t 59, t 60, t 61, t 62, t 63, t 64, t 65, t 66, t 67, t 68, t 69, t 70, t 71, t 72, t 73, t 74, t 75, t 76, t 77, t 78, t 79, t 80, t 81, t 82, t 83, t 84, t 85, t 86, t 87, t 88, t 89, t 90, t 91, t 92, t 93, t 94, t 95, t 96, t 97, t 98, t 99, t 100, t 101, t 102, t 103, t 104, t 105, t 106, t 107, t 108, t 109, t 110, t 111, t 112, t 113, t 114, t 115, t 116, t 117, t 118, t 119, t 120, t 121, t 122, t 123, t 124, t 125, t 126, t 127, t 128, t 129, t 130, t 131, t 132, t 133, t 134, t 135, t 136, t 137, t 138, t 139, t 140, t 141, t 142, t 143, t 144, t 145, t 146, t 147, t 148, t 149, t 150, t 151, t 152, t 153, t 154, t 155, t 156, t 157, t 158, t 159] := rfl
              (try dsimp only at e)
              rw [e8, e9, e10, e16, e17, e18, e19, e20, e21] at e
              rw [e]
              clear e e8 e9 e10 e16 e17 e18 e19 e20 e21
              obtain ⟨hg10, hb10⟩ := hrel
              clear q9 dc1 dc2
              obtain ⟨wV, rfl⟩ : ∃ wV : World, wV = wr := ⟨_, rfl⟩
              have hz10 := hg10.size
              have hgrV := gb_trans (gb_trans HG.out HT9.out.2.2.2) hg10
              have c1' := gbc hgrV (by simp) (HC.out i hlt).1.1
              have c2' := gbc hgrV (by simp) (HC.out i hlt).1.2
              have dc1 := gbc hgrV (by simp) (HC.out i hlt).2.1.1
              have dc2 := gbc hgrV (by simp) (HC.out i hlt).2.1.2
              have HI10 := Lib.hid (And.intro ((HC.out i hlt).2.2.1.gb hgrV (fun _ e => by cases e)) ((HC.out i hlt).2.2.2.1.gb hgrV (fun _ e => by cases e)))
              have HT10 := Lib.hid (And.intro (HT9.out.1.gb hg10 (fun _ e => by cases e)) (And.intro (HT9.out.2.1.gb hg10 (fun _ e => by cases e)) (And.intro (HT9.out.2.2.1.gb hg10 (by simp)) hb10)))
              have HGV := Lib.hid hgrV
              have hl10 := hb10.lt
              clear hb10 hg10 hgrV
              go_wp2_with fail
              refine wp_cutK 160 (fun t wr => ∃ (g11 : Nat), t 8 = .pointer (some ⟨w.heap.size + 1 + 1, 0, none⟩) ∧ t 9 = .pointer (some ⟨w.heap.size + 1 + 1 + 1, 0, none⟩) ∧ t 10 = .pointer (some ⟨w.heap.size + 1 + 1 + 1 + 1, 0, none⟩) ∧ t 16 = .slice (some ⟨g, 0, none⟩) 3 3 ∧ t 17 = .slice (some ⟨g', 0, none⟩) 3 3 ∧ t 18 = .int .i64 i ∧ t 19 = .pointer (some ⟨g9, 0, none⟩) ∧ t 20 = .pointer (some ⟨g10, 0, none⟩) ∧ t 21 = .int .i64 ev ∧ t 22 = .pointer (some ⟨g11, 0, none⟩) ∧ t 23 = .int .i64 ev ∧ wV.grownBy wr none ∧ Bk wr g11 40 #[.int .i64 xv, .int .i64 yv]) ?first4 ?rest4
              case rest4 =>
                rintro t wr ⟨g11, e8, e9, e10, e16, e17, e18, e19, e20, e21, e22, e23, hrel⟩
                have e : ((List.range 160).map t).toArray = #[t 0, t 1, t 2, t 3, t 4, t 5, t 6, t 7, t 8, t 9, t 10, t 11, t 12, t 13, t 14, t 15, t 16, t 17, t 18, t 19, t 20, t 21, t 22, t 23, t 24, t 25, t 26, t 27, t 28, t 29, t 30, t 31, t 32, t 33, t 34, t 35, t 36, t 37, t 38, t 39, t 40, t 41, t 42, t 43, t 44, t 45, t 46, t 47, t 48, t 49, t 50, t 51, t 52, t 53, t 54, t 55, t 56, t 57, t 58, t 59, t 60, t 61, t 62, t 63, t 64, t 65, t 66, t 67, t 68, t 69, t 70, t 71, t 72, t 73, t 74, t 75, t 76, t 77, t 78, t 79, t 80, t 81, t 82, t 83, t 84, t 85, t 86, t 87, t 88, t 89, t 90, t 91, t 92, t 93, t 94, t 95, t 96, t 97, t 98, t 99, t 100, t 101, t 102, t 103, t 104, t 105, t 106, t 107, t 108, t 109, t 110, t 111, t 112, t 113, t 114, t 115, t 116, t 117, t 118, t 119, t 120, t 121, t 122, t 123, t 124, t 125, t 126, t 127, t 128, t 129, t 130, t 131, t 132, t 133, t 134, t 135, t 136, t 137, t 138, t 139, t 140, t 141, t 142, t 143, t 144, t 145, t 146, t 147, t 148, t 149, t 150, t 151, t 152, t 153, t 154, t 155, t 156, t 157, t 158, t 159] := rfl
                (try dsimp only at e)
                rw [e8, e9, e10, e16, e17, e18, e19, e20, e21, e22, e23] at e
                rw [e]
                clear e e8 e9 e10 e16 e17 e18 e19 e20 e21 e22 e23
                obtain ⟨hg11, hb11⟩ := hrel
                replace c1' := gbc hg11 (by simp) c1'
                replace c2' := gbc hg11 (by simp) c2'
                have qa := (HT10.out.2.2.1.gb hg11 (by simp)).c2
                have qb := (HT10.out.2.2.2.gb hg11 (by simp)).c2
                have qc := hb11.c2
                have HA := Lib.hid (And.intro (HT10.out.1.gb hg11 (fun _ e => by cases e)).drew (And.intro (HT10.out.2.1.gb hg11 (fun _ e => by cases e)).drew (And.intro (HI10.out.1.gb hg11 (fun _ e => by cases e)).drew (HI10.out.2.gb hg11 (fun _ e => by cases e)).drew)))
                have hgC := gb_trans HGV.out hg11
                clear dc1 dc2 hg11 hb11
                have tok2 : Hid (1 = 1) := Lib.hid rfl
                go_wp2_with fail
                go_region_held3 (fun W => W.cell? ⟨g9, 0, none⟩ = some (.slice a9 (HL i).length c9) ∧ W.cell? ⟨g9, 1, none⟩ = some (.slice b9 (LL i).length d9) ∧ W.cell? ⟨g, i * 2, none⟩ = some (H i) ∧ W.cell? ⟨g, i * 2 + 1, none⟩ = some (L i) ∧ W.cell? ⟨g10, 0, none⟩ = some (.int .i64 xv) ∧ W.cell? ⟨g10, 1, none⟩ = some (.int .i64 yv) ∧ W.cell? ⟨g11, 0, none⟩ = some (.int .i64 xv) ∧ W.cell? ⟨g11, 1, none⟩ = some (.int .i64 yv)) (go_keep)
                  (first
                  | (go_at_call 25; have _t := tok2; refine (same_c _ _ _ _ _ _ (HL i) (HL i) _ HA.out.1 HA.out.2.2.1).mono ?_; rintro e w7 ⟨rfl, hg7⟩; rw [sameB_self]; clear tok2 _t; have k0 : w7.cell? ⟨g9, 0, none⟩ = some (.slice a9 (HL i).length c9) := gbc hg7 (by simp) qa.1; have k1 : w7.cell? ⟨g9, 1, none⟩ = some (.slice b9 (LL i).length d9) := gbc hg7 (by simp) qa.2.1; have k2 : w7.cell? ⟨g, i * 2, none⟩ = some (H i) := gbc hg7 (by simp) c1'; have k3 : w7.cell? ⟨g, i * 2 + 1, none⟩ = some (L i) := gbc hg7 (by simp) c2'; have k4 : w7.cell? ⟨g10, 0, none⟩ = some (.int .i64 xv) := gbc hg7 (by simp) qb.1; have k5 : w7.cell? ⟨g10, 1, none⟩ = some (.int .i64 yv) := gbc hg7 (by simp) qb.2.1; have k6 : w7.cell? ⟨g11, 0, none⟩ = some (.int .i64 xv) := gbc hg7 (by simp) qc.1; have k7 : w7.cell? ⟨g11, 1, none⟩ = some (.int .i64 yv) := gbc hg7 (by simp) qc.2.1)
                  | (go_at_call 25; refine (same_c _ _ _ _ _ _ (LL i) (LL i) _ (HA.out.2.1.gb hg7 (fun _ e => by cases e)) (HA.out.2.2.2.gb hg7 (fun _ e => by cases e))).mono ?_; rintro e w8 ⟨rfl, hg8⟩; rw [sameB_self]; have j0 : w8.cell? ⟨g9, 0, none⟩ = some (.slice a9 (HL i).length c9) := gbc hg8 (by simp) k0; have j1 : w8.cell? ⟨g9, 1, none⟩ = some (.slice b9 (LL i).length d9) := gbc hg8 (by simp) k1; have j2 : w8.cell? ⟨g, i * 2, none⟩ = some (H i) := gbc hg8 (by simp) k2; have j3 : w8.cell? ⟨g, i * 2 + 1, none⟩ = some (L i) := gbc hg8 (by simp) k3; have j4 : w8.cell? ⟨g10, 0, none⟩ = some (.int .i64 xv) := gbc hg8 (by simp) k4; have j5 : w8.cell? ⟨g10, 1, none⟩ = some (.int .i64 yv) := gbc hg8 (by simp) k5; have j6 : w8.cell? ⟨g11, 0, none⟩ = some (.int .i64 xv) := gbc hg8 (by simp) k6; have j7 : w8.cell? ⟨g11, 1, none⟩ = some (.int .i64 yv) := gbc hg8 (by simp) k7))
                have hgZ := gb_trans (gb_trans (gb_drew hgC) hg7) hg8
                clear qa qb qc c1' c2' k0 k1 k2 k3 k4 k5 k6 k7 j0 j1 j2 j3 j4 j5 j6 j7
                go_wp2_with fail
                exact ⟨rfl, ⟨i + 1, rfl, rfl, rfl, rfl, rfl, by show Value.int .i64 ((i : Int) + 1) = _; simp, by omega, (by simp), hgZ⟩, by simp [slot, intOf]; omega⟩
              case first4 =>
                go_region_held3 (fun W => W.cell? ⟨g, i * 2, none⟩ = some (H i) ∧ W.cell? ⟨g, i * 2 + 1, none⟩ = some (L i) ∧ W.cell? ⟨g', i * 2, none⟩ = some (.int .i64 (D i).lo) ∧ W.cell? ⟨g', i * 2 + 1, none⟩ = some (.int .i64 (D i).hi)) (first | go_keep | exact ⟨far_cell (far_cell k0 (by simp <;> omega) _) (by simp <;> omega) _, far_cell (far_cell k1 (by simp <;> omega) _) (by simp <;> omega) _, far_cell (far_cell k2 (by simp <;> omega) _) (by simp <;> omega) _, far_cell (far_cell k3 (by simp <;> omega) _) (by simp <;> omega) _⟩)
                  (first
                  | (go_at_call 31; refine (rvolume_c 0 w2.heap.size 0 w2.heap.size _ _ (HL i) (LL i) _ _ _ (by first | exact HI10.out.1.drew | exact HI10.out.1.drew.alloc _) (by first | exact HI10.out.2.drew | exact HI10.out.2.drew.alloc _) (by simp <;> omega) (by simp <;> omega)).mono ?_; rintro e w7 ⟨rfl, hg7⟩; rw [HV.out]; have z7 := hg7.size; (try simp at z7); have k0 : w7.cell? ⟨g, i * 2, none⟩ = some (H i) := (by first | exact gbc hg7 (by simp) c1' | exact gbc hg7 (by simp) (alc _ c1')); have k1 : w7.cell? ⟨g, i * 2 + 1, none⟩ = some (L i) := (by first | exact gbc hg7 (by simp) c2' | exact gbc hg7 (by simp) (alc _ c2')); have k2 : w7.cell? ⟨g', i * 2, none⟩ = some (.int .i64 (D i).lo) := (by first | exact gbc hg7 (by simp) dc1 | exact gbc hg7 (by simp) (alc _ dc1)); have k3 : w7.cell? ⟨g', i * 2 + 1, none⟩ = some (.int .i64 (D i).hi) := (by first | exact gbc hg7 (by simp) dc2 | exact gbc hg7 (by simp) (alc _ dc2)); (try (have hbx := (Bk.newAt wV.drew 40 #[.int .i64 0, .int .i64 0] (n := wV.heap.size) rfl).gb hg7 (by simp); have qx := hbx.c2))))
                · exact ⟨rfl, rfl, w7.heap.size, rfl, rfl, rfl, rfl, rfl, rfl, rfl, rfl, rfl, rfl, rfl, gb_alloc (gb_trans (gb_drew (gb_refl wV none)) hg7) _, Bk.new w7 _ _⟩
                · exact ⟨rfl, rfl, wV.heap.size, rfl, rfl, rfl, rfl, rfl, rfl, rfl, rfl, rfl, rfl, rfl, gb_setCell (gb_setCell (gb_trans (gb_alloc (gb_drew (gb_refl wV none)) _) hg7) (.inr (by simp <;> omega)) _) (.inr (by simp <;> omega)) _, (hbx.set 0 _).set 1 _⟩
            case first3 =>
              go_region_held3 (fun W => W.cell? ⟨g9, 0, none⟩ = some (.slice a9 (HL i).length c9) ∧ W.cell? ⟨g9, 1, none⟩ = some (.slice b9 (LL i).length d9) ∧ W.cell? ⟨g', i * 2, none⟩ = some (.int .i64 (D i).lo) ∧ W.cell? ⟨g', i * 2 + 1, none⟩ = some (.int .i64 (D i).hi)) (first | go_keep | exact ⟨far_cell (far_cell k0 (by simp <;> omega) _) (by simp <;> omega) _, far_cell (far_cell k1 (by simp <;> omega) _) (by simp <;> omega) _, far_cell (far_cell k2 (by simp <;> omega) _) (by simp <;> omega) _, far_cell (far_cell k3 (by simp <;> omega) _) (by simp <;> omega) _⟩)
                (first
                | (go_at_call 30; refine (volume_c 0 wT.heap.size 0 wT.heap.size _ _ (HL i) (LL i) _ _ _ (by first | exact HT9.out.1.drew | exact HT9.out.1.drew.alloc _) (by first | exact HT9.out.2.1.drew | exact HT9.out.2.1.drew.alloc _) (by simp <;> omega) (by simp <;> omega)).mono ?_; rintro e w7 ⟨rfl, hg7⟩; rw [HV.out]; have z7 := hg7.size; (try simp at z7); have k0 : w7.cell? ⟨g9, 0, none⟩ = some (.slice a9 (HL i).length c9) := (by first | exact gbc hg7 (by simp) q9.1 | exact gbc hg7 (by simp) (alc _ q9.1)); have k1 : w7.cell? ⟨g9, 1, none⟩ = some (.slice b9 (LL i).length d9) := (by first | exact gbc hg7 (by simp) q9.2.1 | exact gbc hg7 (by simp) (alc _ q9.2.1)); have k2 : w7.cell? ⟨g', i * 2, none⟩ = some (.int .i64 (D i).lo) := (by first | exact gbc hg7 (by simp) dc1 | exact gbc hg7 (by simp) (alc _ dc1)); have k3 : w7.cell? ⟨g', i * 2 + 1, none⟩ = some (.int .i64 (D i).hi) := (by first | exact gbc hg7 (by simp) dc2 | exact gbc hg7 (by simp) (alc _ dc2)); (try (have hbx := (Bk.newAt wT.drew 40 #[.int .i64 0, .int .i64 0] (n := wT.heap.size) rfl).gb hg7 (by simp); have qx := hbx.c2))))
              · exact ⟨rfl, rfl, w7.heap.size, rfl, rfl, rfl, rfl, rfl, rfl, rfl, rfl, rfl, gb_alloc (gb_trans (gb_drew (gb_refl wT none)) hg7) _, Bk.new w7 _ _⟩
              · exact ⟨rfl, rfl, wT.heap.size, rfl, rfl, rfl, rfl, rfl, rfl, rfl, rfl, rfl, gb_setCell (gb_setCell (gb_trans (gb_alloc (gb_drew (gb_refl wT none)) _) hg7) (.inr (by simp <;> omega)) _) (.inr (by simp <;> omega)) _, (hbx.set 0 _).set 1 _⟩
          case first2 =>
            go_region_held3 (fun W => W.cell? ⟨g, i * 2, none⟩ = some (H i) ∧ W.cell? ⟨g, i * 2 + 1, none⟩ = some (L i)) (first | go_keep | exact ⟨far_cell (far_cell c1' (by simp <;> omega) _) (by simp <;> omega) _, far_cell (far_cell c2' (by simp <;> omega) _) (by simp <;> omega) _⟩)
              (first
              | (go_at_call 29; have _t := tok1; refine (own_c 0 w2.heap.size _ (HL i) _ (by first | exact HI.out.1.drew | exact HI.out.1.drew.alloc _) (by have := HI.out.2.2.1; omega)).mono ?_; rintro e w5 ⟨v5, rfl, hs5, hg5⟩; obtain ⟨a9, c9, rfl⟩ := hs5.any; clear tok1 _t; have z5 := hg5.size; (try simp at z5); have k1 : w5.cell? ⟨g, i * 2, none⟩ = some (H i) := (by first | exact gbc hg5 (by simp) c1' | exact gbc hg5 (by simp) (alc _ c1')); have k2 : w5.cell? ⟨g, i * 2 + 1, none⟩ = some (L i) := (by first | exact gbc hg5 (by simp) c2' | exact gbc hg5 (by simp) (alc _ c2')); have hL5 : Ints 0 w2.heap.size w5 (L i) (LL i) := (by first | exact HI.out.2.1.drew.gb hg5 (fun _ e => by cases e) | exact (HI.out.2.1.drew.alloc _).gb hg5 (fun _ e => by cases e)); replace c1' := k1; replace c2' := k2; clear k1 k2; (try (have hb9 := (Bk.newAt wL.drew 51 #[.slice none 0 0, .slice none 0 0] (n := wL.heap.size) rfl).gb hg5 (by simp); have q9 := hb9.c2)))
              | (go_at_call 29; refine (own_c 0 w2.heap.size _ (LL i) _ (by first | exact hL5 | exact hL5.alloc _) (by have := HI.out.2.2.2; omega)).mono ?_; rintro e w6 ⟨v6, rfl, hs6, hg6⟩; obtain ⟨b9, d9, rfl⟩ := hs6.any; have z6 := hg6.size; (try simp at z6); have k1 : w6.cell? ⟨g, i * 2, none⟩ = some (H i) := (by first | exact gbc hg6 (by simp) c1' | exact gbc hg6 (by simp) (alc _ c1')); have k2 : w6.cell? ⟨g, i * 2 + 1, none⟩ = some (L i) := (by first | exact gbc hg6 (by simp) c2' | exact gbc hg6 (by simp) (alc _ c2')); replace c1' := k1; replace c2' := k2; clear k1 k2; (first | (have hb9' := hb9.gb hg6 (by simp); have q9' := hb9'.c2) | (have hb9' := (Bk.new w5 51 #[.slice none 0 0, .slice none 0 0]).gb hg6 (by simp); have q9' := hb9'.c2) | skip)))
            · exact ⟨rfl, rfl, w6.heap.size, a9, b9, c9, d9, rfl, rfl, rfl, rfl, rfl, rfl, rfl, gb_alloc (gb_trans (gb_trans (gb_drew (gb_refl wL none)) hg5) hg6) _, Bk.new w6 _ _, ((hs5.gb hg6 (fun _ e => by cases e)).alloc _).wide (Nat.zero_le _) (by simp <;> omega), (hs6.alloc _).wide (Nat.zero_le _) (by simp <;> omega)⟩
            · exact ⟨rfl, rfl, w5.heap.size, a9, b9, c9, d9, rfl, rfl, rfl, rfl, rfl, rfl, rfl, gb_setCell (gb_setCell (gb_trans (gb_alloc (gb_trans (gb_drew (gb_refl wL none)) hg5) _) hg6) (.inr (by simp <;> omega)) _) (.inr (by simp <;> omega)) _, (hb9'.set 0 _).set 1 _,
                ((((hs5.alloc _).gb hg6 (fun _ e => by cases e)).far (.inr (by simp <;> omega)) _).far (.inr (by simp <;> omega)) _).wide (Nat.zero_le _) (by simp <;> omega), ((hs6.far (.inl (by simp <;> omega)) _).far (.inl (by simp <;> omega)) _).wide (Nat.zero_le _) (by simp <;> omega)⟩
            · exact ⟨rfl, rfl, wL.heap.size, a9, b9, c9, d9, rfl, rfl, rfl, rfl, rfl, rfl, rfl, gb_setCell (gb_setCell (gb_trans (gb_trans (gb_alloc (gb_drew (gb_refl wL none)) _) hg5) hg6) (.inr (by simp <;> omega)) _) (.inr (by simp <;> omega)) _, (hb9'.set 0 _).set 1 _,
                (((hs5.gb hg6 (fun _ e => by cases e)).far (.inl (by simp <;> omega)) _).far (.inl (by simp <;> omega)) _).wide (Nat.zero_le _) (by simp <;> omega), ((hs6.far (.inl (by simp <;> omega)) _).far (.inl (by simp <;> omega)) _).wide (Nat.zero_le _) (by simp <;> omega)⟩
        · obtain ⟨sx, sy, se, hv⟩ := stdV_form (p 1).lo (p 1).hi (p 2).lo (p 2).hi (p 3).lo (p 3).hi
          have HV := Lib.hid hv
          have hF2 := HF.out.gn hgr
          have r2 := hF2.b2.c2
          have r3 := hF2.b3.c2
          have r4 := hF2.b4.c2
          replace HF := Lib.hid hF2
          clear hv hF2 hgr
          go_wp2_with fail
          refine (standard_c _ _ _ _ _ _ _).mono ?_
          rintro e w5 ⟨rfl, hg5⟩
          rw [HV.out]
          have hF2 := (HF.out.gn hg5).alloc (.cells #[.int .i64 sx, .int .i64 sy] 40)
          replace r2 := hF2.b2.c2
          replace r3 := hF2.b3.c2
          replace r4 := hF2.b4.c2
          have hb5 := Bk.new w5 40 #[.int .i64 sx, .int .i64 sy]
          replace HF := Lib.hid hF2
          clear hg5 hF2
          go_wp2_with fail
          refine (rstandard_c _ _ _ _ _ _ _).mono ?_
          rintro e w6 ⟨rfl, hg6⟩
          rw [HV.out]
          replace HF := Lib.hid ((HF.out.gn hg6).alloc (.cells #[.int .i64 sx, .int .i64 sy] 40))
          have u1 := (hb5.gb hg6 (by simp)).c2
          have u1l := (hb5.gb hg6 (by simp)).lt
          have u2 := (Bk.new w6 40 #[.int .i64 sx, .int .i64 sy]).c2
          clear hg6 hb5 r2 r3 r4
          go_wp2_with fail
          refine (awake_c _).mono ?_
          rintro e w7 ⟨rfl, hg7⟩
          clear u1 u2
          go_wp2_with fail
          exact bodyPost_ret (v := .bool true) (by simp [results, Try.results4, go_sem]) rfl ⟨rfl, gb_trans HF.out.gb hg7⟩
      case atStart =>
        exact ⟨0, rfl, rfl, rfl, rfl, rfl, rfl, by omega, rfl, gb_refl _ _⟩
    case first1 =>
      go_region_held3 (fun W => W.cell? ⟨w.heap.size, 0, none⟩ = some (.slice a1 hs.length c1) ∧ W.cell? ⟨w.heap.size, 1, none⟩ = some (.slice a2 ls.length c2) ∧ W.cell? ⟨w.heap.size + 1, 0, none⟩ = some (.int .i64 (p 0).lo) ∧ W.cell? ⟨w.heap.size + 1, 1, none⟩ = some (.int .i64 (p 0).hi) ∧ W.cell? ⟨w2.heap.size, 0, none⟩ = some (.slice (some ⟨x, ox, none⟩) hs'.length c3) ∧ W.cell? ⟨w2.heap.size, 1, none⟩ = some (.slice (some ⟨y, oy, none⟩) ls'.length c4) ∧ W.cell? ⟨x, ox, none⟩ = some (.int .i64 (gi hs' 0))) (go_keep)
        (first
        | (go_at_call 28; refine (spanOf_c sb _ _ _ (by first | exact HSD.out | exact HSD.out.alloc _) (by omega) (by omega) (by omega)).mono ?_; rintro e w3 ⟨v, rfl, ⟨d1, d2, rfl, hd1, hd2, hd3⟩, hsd3, hg3⟩; have r0 : w3.cell? ⟨w.heap.size, 0, none⟩ = some (.slice a1 hs.length c1) := (by first | exact gbc hg3 (by simp <;> omega) f0.1 | exact gbc hg3 (by simp <;> omega) (alc _ f0.1)); have r1 : w3.cell? ⟨w.heap.size, 1, none⟩ = some (.slice a2 ls.length c2) := (by first | exact gbc hg3 (by simp <;> omega) f0.2.1 | exact gbc hg3 (by simp <;> omega) (alc _ f0.2.1)); have r2 : w3.cell? ⟨w.heap.size + 1, 0, none⟩ = some (.int .i64 (p 0).lo) := (by first | exact gbc hg3 (by simp <;> omega) f1.1 | exact gbc hg3 (by simp <;> omega) (alc _ f1.1)); have r3 : w3.cell? ⟨w.heap.size + 1, 1, none⟩ = some (.int .i64 (p 0).hi) := (by first | exact gbc hg3 (by simp <;> omega) f1.2.1 | exact gbc hg3 (by simp <;> omega) (alc _ f1.2.1)); have r4 : w3.cell? ⟨w2.heap.size, 0, none⟩ = some (.slice (some ⟨x, ox, none⟩) hs'.length c3) := (by first | exact gbc hg3 (by simp <;> omega) q1.1 | exact gbc hg3 (by simp <;> omega) (alc _ q1.1)); have r5 : w3.cell? ⟨w2.heap.size, 1, none⟩ = some (.slice (some ⟨y, oy, none⟩) ls'.length c4) := (by first | exact gbc hg3 (by simp <;> omega) q1.2.1 | exact gbc hg3 (by simp <;> omega) (alc _ q1.2.1)); have r6 : w3.cell? ⟨x, ox, none⟩ = some (.int .i64 (gi hs' 0)) := (by first | exact gbc hg3 (by simp <;> omega) x0 | exact gbc hg3 (by simp <;> omega) (alc _ x0))))
      · obtain ⟨hmh, hml⟩ := HH.out
        have hF0 : TanksF w (.slice a1 hs.length c1) (.slice a2 ls.length c2) hs ls p (w2.alloc (.cells #[.slice (some ⟨x, ox, none⟩) hs'.length c3, .slice (some ⟨y, oy, none⟩) ls'.length c4] 51)).drew := HF.out.gn (gb_drew (gb_refl _ _))
        exact ⟨rfl, rfl, w2.heap.size + 1, w3.heap.size, ⟨d1, d2⟩, rfl, rfl, rfl, rfl, rfl, (((Bk.newAt (w2.alloc (.cells #[.slice (some ⟨x, ox, none⟩) hs'.length c3, .slice (some ⟨y, oy, none⟩) ls'.length c4] 51)).drew 51 #[.slice a1 hs.length c1, .slice a2 ls.length c2, .slice (some ⟨x, ox, none⟩) hs'.length c3, .slice (some ⟨y, oy, none⟩) ls'.length c4, .slice (some ⟨x, ox, none⟩) hs'.length c3, .slice (some ⟨y, oy, none⟩) ls'.length c4] (n := w2.heap.size + 1) (by simp)).gb hg3 (by simp; omega)).alloc _), Bk.new w3 _ _, ((hF0.alloc (.cells #[.slice a1 hs.length c1, .slice a2 ls.length c2, .slice (some ⟨x, ox, none⟩) hs'.length c3, .slice (some ⟨y, oy, none⟩) ls'.length c4, .slice (some ⟨x, ox, none⟩) hs'.length c3, .slice (some ⟨y, oy, none⟩) ls'.length c4] 51)).go hg3 (fun g e => by cases e; omega)).alloc _, ((hmh.drew.alloc (.cells #[.slice a1 hs.length c1, .slice a2 ls.length c2, .slice (some ⟨x, ox, none⟩) hs'.length c3, .slice (some ⟨y, oy, none⟩) ls'.length c4, .slice (some ⟨x, ox, none⟩) hs'.length c3, .slice (some ⟨y, oy, none⟩) ls'.length c4] 51)).gb hg3 (fun g e => by cases e; omega)).alloc _, ((hml.drew.alloc (.cells #[.slice a1 hs.length c1, .slice a2 ls.length c2, .slice (some ⟨x, ox, none⟩) hs'.length c3, .slice (some ⟨y, oy, none⟩) ls'.length c4, .slice (some ⟨x, ox, none⟩) hs'.length c3, .slice (some ⟨y, oy, none⟩) ls'.length c4] 51)).gb hg3 (fun g e => by cases e; omega)).alloc _, by have := hg3.size; simp at this ⊢; omega⟩
      · obtain ⟨hmh, hml⟩ := HH.out
        have hF0 : TanksF w (.slice a1 hs.length c1) (.slice a2 ls.length c2) hs ls p (w2.alloc (.cells #[.slice (some ⟨x, ox, none⟩) hs'.length c3, .slice (some ⟨y, oy, none⟩) ls'.length c4] 51)).drew := HF.out.gn (gb_drew (gb_refl _ _))
        exact ⟨rfl, rfl, w3.heap.size, w3.heap.size + 1, ⟨d1, d2⟩, rfl, rfl, rfl, rfl, rfl, (Bk.new w3 _ _).alloc _, Bk.newAt _ _ _ (by simp), ((hF0.go hg3 (fun g e => by cases e; omega)).alloc _).alloc _, ((hmh.drew.gb hg3 (fun g e => by cases e; omega)).alloc _).alloc _, ((hml.drew.gb hg3 (fun g e => by cases e; omega)).alloc _).alloc _, by have := hg3.size; simp at this ⊢; omega⟩
      · obtain ⟨hmh, hml⟩ := HH.out
        have hF0 : TanksF w (.slice a1 hs.length c1) (.slice a2 ls.length c2) hs ls p (w2.alloc (.cells #[.slice (some ⟨x, ox, none⟩) hs'.length c3, .slice (some ⟨y, oy, none⟩) ls'.length c4] 51)).drew := HF.out.gn (gb_drew (gb_refl _ _))
        exact ⟨rfl, rfl, w3.heap.size + 1, w3.heap.size, ⟨d1, d2⟩, rfl, rfl, rfl, rfl, rfl, Bk.newAt _ _ _ (by simp), (Bk.new w3 _ _).alloc _, ((hF0.go hg3 (fun g e => by cases e; omega)).alloc _).alloc _, ((hmh.drew.gb hg3 (fun g e => by cases e; omega)).alloc _).alloc _, ((hml.drew.gb hg3 (fun g e => by cases e; omega)).alloc _).alloc _, by have := hg3.size; simp at this ⊢; omega⟩
end Go.Proofs.Ytfifldbinnkdmaa
