/- What a camp may burn on a day, by the program and by the reference. -/
import Derived.Test.YtfifldbinnkdmaaBurn2
set_option linter.unusedVariables false
set_option linter.unusedSimpArgs false
set_option linter.unnecessarySimpa false
namespace Go.Proofs.Ytfifldbinnkdmaa
open Go.RowKit
set_option maxRecDepth 100000

/-- A slice's capacity is no less than its length. -/
def CapOk (v : Value) : Prop := ∀ a n c, v = .slice a n c → n ≤ c ∧ c ≤ maxLen

theorem Bk.eq' {w : World} {g : Nat} {t : TypeId} {cs cs' : Array Value} (h : Bk w g t cs) (e : cs = cs') : Bk w g t cs' := e ▸ h
set_option maxHeartbeats 1000000 in
theorem burnt_c (l1 h1 : Nat) (v : Value) (l : List Bn) (cold : Sp) (w : World) (hh : Bns l1 h1 w v l) (hok : BnOk l) (hcap : CapOk v) (hc : cold.lo ≤ cold.hi) (b1 : h1 ≤ w.heap.size) :
    Calls Try.prog 95 #[v, cold.v] w (Ret (brn l cold).v w) := by
  have hn := hok.n0
  have hn' := hok.n12
  have hpl := pl_lt (l := l) cold.lo hn
  have hpt := pl_lt (l := l) cold.hi hn
  have hpm : pl l cold.lo ≤ pl l cold.hi := pl_mono hc _
  obtain ⟨x, ox, cp, rfl, hx1, hx2, _⟩ := Bns.at hh hn
  obtain ⟨hcp1, hcp2⟩ := hcap _ _ _ rfl
  unfold maxLen at hcp2
  have HB : Hid (brn l cold = brnF l (pl l cold.lo) (pl l cold.hi + 1 - pl l cold.lo)) := Lib.hid rfl
  have HN := Lib.hid hh
  have HK := Lib.hid hok
  clear hh hok hcap
  simp only [Sp.v]
  obtain ⟨W0, hW0⟩ : ∃ W0, (((w.alloc (.cells #[.slice (some ⟨x, ox, none⟩) l.length cp] 85)).alloc (.cells #[.int .i64 cold.lo, .int .i64 cold.hi] 40)).alloc (.cells #[.int .i64 0, .int .i64 0] 40)) = W0 := ⟨_, rfl⟩
  have hB1 : Bk W0 w.heap.size 85 #[.slice (some ⟨x, ox, none⟩) l.length cp] := by rw [← hW0]; exact (((Bk.new w 85 #[.slice (some ⟨x, ox, none⟩) l.length cp]).alloc (.cells #[.int .i64 cold.lo, .int .i64 cold.hi] 40)).alloc (.cells #[.int .i64 0, .int .i64 0] 40))
  have hB2 : Bk W0 (w.heap.size + 1) 40 #[.int .i64 cold.lo, .int .i64 cold.hi] := by
    have hx_ := ((Bk.new (w.alloc (.cells #[.slice (some ⟨x, ox, none⟩) l.length cp] 85)) 40 #[.int .i64 cold.lo, .int .i64 cold.hi]).alloc (.cells #[.int .i64 0, .int .i64 0] 40))
    rw [← hW0]
    simpa using hx_
  have hB3 : Bk W0 (w.heap.size + 2) 40 #[.int .i64 0, .int .i64 0] := by
    have hx_ := (Bk.new ((w.alloc (.cells #[.slice (some ⟨x, ox, none⟩) l.length cp] 85)).alloc (.cells #[.int .i64 cold.lo, .int .i64 cold.hi] 40)) 40 #[.int .i64 0, .int .i64 0])
    rw [← hW0]
    simpa using hx_
  have hgW0 : w.grownBy W0 none := hW0 ▸ gb_alloc (gb_alloc (gb_alloc (gb_refl _ _) _) _) _
  have HW0 := Lib.hid hW0
  clear hW0
  have hs0 : W0.heap.size = w.heap.size + 3 := by rw [← HW0.out]; simp
  go_enter Try.func95, Try.ntmps95
  go_wp2_with fail
  rw [HW0.out]
  clear HW0
  have hN := (HN.out.gb hgW0 (fun _ e => by cases e)).drew
  have hX := hB1.drew
  have hC := hB2.drew
  have hD := hB3.drew
  have hG := gb_drew hgW0
  have q2 := hC.c2
  have hsz : h1 ≤ W0.drew.heap.size := by show h1 ≤ W0.heap.size; omega
  clear hB1 hB2 hB3 hgW0
  go_region_held3 (fun W => W.cell? ⟨w.heap.size + 1, 0, none⟩ = some (.int .i64 cold.lo) ∧ W.cell? ⟨w.heap.size + 1, 1, none⟩ = some (.int .i64 cold.hi)) (go_keep)
    (first
    | (go_at_call 117; refine (entry_c w.heap.size l1 h1 _ l _ _ hN HK.out hX hsz).mono ?_; rintro e w1 ⟨rfl, hg⟩; replace hN := hN.gb hg (fun _ e => by cases e); replace hX := hX.gb hg (by simp); replace hC := hC.gb hg (by simp); replace hD := hD.gb hg (by simp); replace hG := gb_trans hG hg; replace hsz := Nat.le_trans hsz hg.size; replace q2 := hC.c2; clear hg))
  obtain ⟨f, hf⟩ : ∃ f, pl l cold.lo = f := ⟨_, rfl⟩
  obtain ⟨t, ht⟩ : ∃ t, pl l cold.hi = t := ⟨_, rfl⟩
  rw [hf] at hpl hpm HB ⊢
  rw [ht] at hpt hpm HB ⊢
  clear hf ht q2
  obtain ⟨g1, g2, g3⟩ := Bns.cell hN hpl
  have q1 := hX.c1
  have i1 : (f : Int) ≤ (t : Int) + 1 := by omega
  have i2 : (t : Int) + 1 ≤ (cp : Int) := by omega
  have i3 : ((t : Int) + 1).toNat = t + 1 := by omega
  have i4 : f ≤ t + 1 := by omega
  have i5 : t + 1 ≤ cp := by omega
  have hxl := hX.lt
  have hxw : x < w1.heap.size := by omega
  go_wp2_with fail
  obtain ⟨m, hm⟩ : ∃ m, t + 1 - f = m := ⟨_, rfl⟩
  rw [hm] at HB ⊢
  have hml : f + m ≤ l.length := by omega
  have hm0 : m ≤ 12 := by omega
  clear g1 g2 g3 q1 i1 i2 i3 i4 i5
  have HN2 := Lib.hid hN
  have HX := Lib.hid hX
  have hO := Bk.new w1 40 #[.int .i64 (bn l f).li.lo, .int .i64 (bn l f).li.hi]
  have hD1 := hD.alloc (.cells #[.int .i64 (bn l f).li.lo, .int .i64 (bn l f).li.hi] 40)
  have hdl := hD.lt
  clear hN hX hC hD
  go_loopw [31] (fun i wr => ∃ j : Nat, j ≤ m ∧ i = .int .i64 j ∧ Bk wr w1.heap.size 40 #[.int .i64 (brnF l f j).lo, .int .i64 (brnF l f j).hi] ∧ Bk wr (w.heap.size + 2) 40 #[.int .i64 0, .int .i64 0] ∧ w1.grownBy wr none) (fun i _ => m - (intOf i).toNat)
  case atStart => exact ⟨0, Nat.zero_le _, rfl, hO, hD1, gb_alloc (gb_refl _ _) _⟩
  case round =>
    clear hO hD1
    obtain ⟨j, hj, rfl, hO, hD1, hg⟩ := hrel
    have q1 := hO.c2
    have ql := hO.lt
    by_cases hlt : j < m
    · obtain ⟨g1, g2, g3⟩ := Bns.cell (Sl.gb HN2.out hg (fun _ e => by cases e)) (i := f + j) (by omega)
      rw [show ox + (f + j) * 3 = ox + f * 3 + j * 3 by omega] at g1 g2 g3
      have HSt : Hid (brnF l f (j + 1) = ⟨min (brnF l f j).lo (bn l (f + j)).li.lo, max (brnF l f j).hi (bn l (f + j)).li.hi⟩) := Lib.hid rfl
      have H1 := Lib.hid (And.intro hO (And.intro hD1 hg))
      clear hO hD1 hg
      go_wp2_with fail
      go_roundw
      case rel =>
        refine ⟨j + 1, by omega, by go_num, ?_, ((H1.out.2.1.far (by simp <;> omega) _).far (by simp <;> omega) _).alloc _, gb_alloc (gb_setCell (gb_setCell H1.out.2.2 (.inr (by simp)) _) (.inr (by simp)) _) _⟩
        refine Bk.alloc (Bk.eq' ((H1.out.1.set 0 _).set 1 _) ?_) _
        rw [HSt.out]
        simp
      case measure => simp [intOf]; omega
    · obtain rfl : j = m := by omega
      have q3 := ((hD1.set 0 (.int .i64 (brnF l f j).lo)).set 1 (.int .i64 (brnF l f j).hi)).c2
      have qd := hD1.c2
      have qdl := hD1.lt
      have Hg := Lib.hid hg
      clear hO hg
      go_wp2_with fail
      refine bodyPost_ret (v := .agg #[.int .i64 (brnF l f j).lo, .int .i64 (brnF l f j).hi]) (by simp [results, Try.results95, go_sem, q3]) rfl ⟨by rw [HB.out], gb_setCell (gb_setCell (gb_trans hG Hg.out) (.inr (by dsimp only; omega)) _) (.inr (by dsimp only; omega)) _⟩
set_option maxHeartbeats 1000000 in
theorem rburned_c (l1 h1 : Nat) (v : Value) (l : List Bn) (cold : Sp) (w : World) (hh : Bns l1 h1 w v l) (hok : BnOk l) (hc : cold.lo ≤ cold.hi) (b1 : h1 ≤ w.heap.size) :
    Calls Try.prog 97 #[v, cold.v] w (Ret (brn l cold).v w) := by
  have hn := hok.n0
  have hn' := hok.n12
  have hpl := pl_lt (l := l) cold.lo hn
  have hpt := pl_lt (l := l) cold.hi hn
  have hpm : pl l cold.lo ≤ pl l cold.hi := pl_mono hc _
  obtain ⟨x, ox, cp, rfl, hx1, hx2, _⟩ := Bns.at hh hn
  have HB : Hid (brn l cold = brnF l (pl l cold.lo) (pl l cold.hi + 1 - pl l cold.lo)) := Lib.hid rfl
  have HN := Lib.hid hh
  have HK := Lib.hid hok
  clear hh hok
  simp only [Sp.v]
  obtain ⟨W0, hW0⟩ : ∃ W0, ((w.alloc (.cells #[.int .i64 cold.lo, .int .i64 cold.hi] 40)).alloc (.cells #[.int .i64 0, .int .i64 0] 40)) = W0 := ⟨_, rfl⟩
  have hB1 : Bk W0 w.heap.size 40 #[.int .i64 cold.lo, .int .i64 cold.hi] := by rw [← hW0]; exact ((Bk.new w 40 #[.int .i64 cold.lo, .int .i64 cold.hi]).alloc (.cells #[.int .i64 0, .int .i64 0] 40))
  have hB2 : Bk W0 (w.heap.size + 1) 40 #[.int .i64 0, .int .i64 0] := by
    have hx_ := (Bk.new (w.alloc (.cells #[.int .i64 cold.lo, .int .i64 cold.hi] 40)) 40 #[.int .i64 0, .int .i64 0])
    rw [← hW0]
    simpa using hx_
  have hgW0 : w.grownBy W0 none := hW0 ▸ gb_alloc (gb_alloc (gb_refl _ _) _) _
  have HW0 := Lib.hid hW0
  clear hW0
  have hs0 : W0.heap.size = w.heap.size + 2 := by rw [← HW0.out]; simp
  go_enter Try.func97, Try.ntmps97
  go_wp2_with fail
  rw [HW0.out]
  clear HW0
  have hN := (HN.out.gb hgW0 (fun _ e => by cases e)).drew
  have q2 := hB1.c2
  have hD := hB2.drew
  clear hB1
  go_region_held3 (fun W => W.cell? ⟨w.heap.size, 0, none⟩ = some (.int .i64 cold.lo) ∧ W.cell? ⟨w.heap.size, 1, none⟩ = some (.int .i64 cold.hi)) (go_keep)
    (first
    | (go_at_call 119; refine (place_c l1 h1 _ l _ _ hN HK.out).mono ?_; rintro e w1 ⟨rfl, rfl⟩))
  obtain ⟨f, hf⟩ : ∃ f, pl l cold.lo = f := ⟨_, rfl⟩
  obtain ⟨t, ht⟩ : ∃ t, pl l cold.hi = t := ⟨_, rfl⟩
  rw [hf] at hpl hpm HB ⊢
  rw [ht] at hpt hpm HB ⊢
  clear hf ht q2
  obtain ⟨g1, g2, g3⟩ := Bns.cell hN hpl
  go_wp2_with fail
  have hO := (Bk.newAt W0 40 #[.int .i64 (bn l f).li.lo, .int .i64 (bn l f).li.hi] hs0).drew
  have hD1 := hD.alloc (.cells #[.int .i64 (bn l f).li.lo, .int .i64 (bn l f).li.hi] 40)
  have h12 : t ≤ 11 := by omega
  clear g1 g2 g3 hN hD
  go_loopw [8] (fun i wr => ∃ j : Nat, 1 ≤ j ∧ f + j ≤ t + 1 ∧ i = .int .i64 (f + j : Nat) ∧ Bk wr (w.heap.size + 2) 40 #[.int .i64 (brnF l f j).lo, .int .i64 (brnF l f j).hi] ∧ Bk wr (w.heap.size + 1) 40 #[.int .i64 0, .int .i64 0] ∧ w.grownBy wr none) (fun i _ => t + 1 - (intOf i).toNat)
  case atStart => exact ⟨1, Nat.le_refl _, by omega, rfl, by rw [brnF_one]; exact hO, hD1, gb_drew (gb_alloc hgW0 _)⟩
  case round =>
    clear hO hD1
    obtain ⟨j, hj1, hj, rfl, hO, hD1, hg⟩ := hrel
    have q1 := hO.c2
    have ql := hO.lt
    by_cases hlt : f + j ≤ t
    · obtain ⟨g1, g2, g3⟩ := Bns.cell (Sl.gb HN.out hg (fun _ e => by cases e)) (i := f + j) (by omega)
      have HSt : Hid (brnF l f (j + 1) = ⟨min (brnF l f j).lo (bn l (f + j)).li.lo, max (brnF l f j).hi (bn l (f + j)).li.hi⟩) := Lib.hid rfl
      obtain ⟨i, hi⟩ : ∃ i, f + j = i := ⟨_, rfl⟩
      have Hi := Lib.hid hi
      rw [hi] at g1 g2 g3 hlt HSt ⊢
      have H1 := Lib.hid (And.intro hO (And.intro hD1 hg))
      have hil : i < l.length := by omega
      clear hO hD1 hg g1 hi
      go_wp2_with fail
      go_region
      go_wp2_with fail
      have hs1 := gb_setCell (gb_setCell H1.out.2.2 (p := ⟨w.heap.size + 2, 0, none⟩) (.inr (by dsimp only; omega)) (.int .i64 (min (brnF l f j).lo (bn l i).li.lo))) (p := ⟨w.heap.size + 2, 1, none⟩) (.inr (by dsimp only; omega)) (.int .i64 (max (brnF l f j).hi (bn l i).li.hi))
      refine ⟨⟨j + 1, by omega, by have := Hi.out; omega, by rw [← Hi.out]; simp; omega, ?_, ((H1.out.2.1.far (by simp <;> omega) _).far (by simp <;> omega) _).drew, gb_drew hs1⟩, by simp [intOf]; omega⟩
      refine Bk.drew (Bk.eq' ((H1.out.1.set 0 _).set 1 _) ?_)
      rw [HSt.out]
      simp
    · have hjt : j = t + 1 - f := by omega
      have q3 := ((hD1.set 0 (.int .i64 (brnF l f j).lo)).set 1 (.int .i64 (brnF l f j).hi)).c2
      have qd := hD1.c2
      have qdl := hD1.lt
      have Hg := Lib.hid hg
      have HJ := Lib.hid hjt
      clear hO hg hjt
      go_wp2_with fail
      exact bodyPost_ret (v := .agg #[.int .i64 (brnF l f j).lo, .int .i64 (brnF l f j).hi]) (by simp [results, Try.results97, go_sem, q3]) rfl ⟨by rw [HB.out, ← HJ.out], gb_setCell (gb_setCell Hg.out (.inr (by dsimp only; omega)) _) (.inr (by dsimp only; omega)) _⟩
end Go.Proofs.Ytfifldbinnkdmaa
