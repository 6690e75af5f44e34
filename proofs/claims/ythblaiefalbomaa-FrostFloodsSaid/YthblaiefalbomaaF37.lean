/- frost: contracts as the laws use them. -/
import Derived.Test.YthblaiefalbomaaF31
import Derived.Test.YthblaiefalbomaaF11
import Derived.Test.YthblaiefalbomaaF14
import Derived.Test.YthblaiefalbomaaF27
import Derived.Test.YthblaiefalbomaaK1
set_option linter.unusedVariables false
set_option linter.unusedSimpArgs false
set_option linter.unnecessarySimpa false
namespace Go.Proofs.Ythblaiefalbomaa
open Go.RowKit
set_option maxRecDepth 100000

theorem runN_get {l : Fro} {x : Ice} {dl : List Wea} {k n : Nat} (h : k < n) : (runN l x dl n)[k]? = some (stI l x dl (k + 1)) := by simp [runN, h]
/-- A row of one's own, as a slice of a known length. -/
theorem Own.slN {α : Type} {enc : α → List Value} {e : TypeId} {sz base n : Nat} {w : World} {v : Value} {l : List α} (h : Own enc e sz base w v l) (hsz : ∀ x, (enc x).length = sz) (hn : l.length = n) : ∃ (a : Option Addr) (c : Nat), v = .slice a n c ∧ Sl enc sz base w.heap.size w (.slice a n c) l := by
  subst hn
  have h1 := h.sl hsz
  obtain ⟨a, c, rfl⟩ := h1.any
  exact ⟨a, c, rfl, h1⟩
theorem Own.slC {α : Type} {enc : α → List Value} {e : TypeId} {sz base : Nat} {w : World} {v : Value} {l : List α} (h : Own enc e sz base w v l) (hsz : ∀ x, (enc x).length = sz) : ∃ (a : Option Addr) (c : Nat), v = .slice a l.length c ∧ l.length ≤ c ∧ Sl enc sz base w.heap.size w (.slice a l.length c) l := by
  have h1 := h.sl hsz
  obtain ⟨a, c, rfl⟩ := h1.any
  refine ⟨a, c, rfl, ?_, h1⟩
  obtain ⟨h0, h2⟩ := h
  rcases h2 with ⟨e2, hn⟩ | ⟨g, cap, cur, e2, hb, hh, hnc, hcm, hcs, htk⟩
  · injection e2 with e3 e4 e5
    omega
  · injection e2 with e3 e4 e5
    omega
def DaysS (sb : Nat) (most : Int) (frost : Bool) (w : World) : Ending → World → Prop := fun e w' => ∃ (l : List Wea) (a : Option Addr) (c lo hi : Nat), e = .returned (.slice a l.length c) ∧ (w.heap.size ≤ lo ∧ hi ≤ w'.heap.size ∧ l.length ≤ c) ∧ Sl weaEnc 6 lo hi w' (.slice a l.length c) l ∧ (l.length : Int) ≤ most ∧ (∀ d ∈ l, weaErr d = 0 ∧ (frost = true → 0 ≤ d.cold.lo)) ∧ SeedAt w' sb ∧ w.grownBy w' (some sb)
theorem daysOf_s (sb : Nat) (most : Int) (frost : Bool) (w : World) (hs : SeedAt w sb) (hm : 0 ≤ most ∧ most ≤ 100) : Calls Try.prog 16 #[.pointer (some ⟨sb, 0, none⟩), .int .i64 most, .bool frost] w (DaysS sb most frost w) := by
  refine (daysOf_c sb most frost w hs hm).mono ?_
  rintro e w' ⟨vo, l, rfl, ho, h1, h2, h3, h4⟩
  obtain ⟨a, c, rfl, hc, hsl⟩ := ho.slC (fun _ => rfl)
  exact ⟨l, a, c, _, _, rfl, ⟨Nat.le_refl _, Nat.le_refl _, hc⟩, hsl, h1, h2, h3, h4⟩
theorem runI_ok {l : Fro} {x : Ice} {dl : List Wea} (h : allE l x dl = 0) : runI l x dl = runN l x dl dl.length := by rw [runI, if_pos h]
/-- Run on a law, ice and days that are valid. -/
theorem run_ok (lo hi : Nat) (v : Value) (l : Fro) (x : Ice) (lo2 hi2 : Nat) (vd : Value) (dl : List Wea) (w : World) (hl : Sl covEnc 3 lo hi w v l.cov) (h2 : hi ≤ w.heap.size) (hl2 : Sl weaEnc 6 lo2 hi2 w vd dl) (h22 : hi2 ≤ w.heap.size) (h0 : allE l x dl = 0) :
    Calls Try.prog 27 #[.agg (froC l v), .agg (iceC x), vd] w (fun e w' => ∃ (a : Option Addr) (c lo hi : Nat), e = .returned (.tuple #[.slice a dl.length c, .int .i64 0]) ∧ (w.heap.size ≤ lo ∧ hi ≤ w'.heap.size ∧ dl.length ≤ c) ∧ Sl iceEnc 8 lo hi w' (.slice a dl.length c) (runN l x dl dl.length) ∧ w.grownBy w' none) := by
  refine (run_c lo hi v l x lo2 hi2 vd dl w hl h2 hl2 h22).mono ?_
  rintro e w' ⟨vo, rfl, ho, hg⟩
  rw [runI_ok h0] at ho
  obtain ⟨a, c, rfl, hc, hsl⟩ := ho.slC (fun _ => rfl)
  rw [runN_len] at hc hsl
  exact ⟨a, c, _, _, by rw [h0, runN_len], ⟨Nat.le_refl _, Nat.le_refl _, hc⟩, hsl, hg⟩
theorem bearing_ok (lo hi : Nat) (v : Value) (l : Fro) (x : Ice) (w : World) (hl : Sl covEnc 3 lo hi w v l.cov) (h2 : hi ≤ w.heap.size) (h0 : allE l x [] = 0) :
    Calls Try.prog 34 #[.agg (froC l v), .agg (iceC x)] w (Ret (.tuple #[.agg #[.int .i64 (brs l x).lo, .int .i64 (brs l x).hi], .int .i64 (soundV x), .int .i64 0]) w) := by
  have h := bearing_c lo hi v l x w hl h2
  rw [bearT, bearS, if_pos h0, if_pos h0, h0] at h
  exact h
theorem allE_of {l : Fro} {x : Ice} {ds : List Wea} (h1 : froErr l = 0) (h2 : iceErr x = 0) (h3 : ∀ d ∈ ds, weaErr d = 0) (h4 : ds.length ≤ 400) : allE l x ds = 0 := by
  rw [allE, if_neg (not_not_intro h1), if_neg (not_not_intro h2), daysE, if_neg (by omega)]
  exact daysErr_of ds h3
theorem inI_K {t : Tr} {x : Ice} {k m : Int} (h : inI t x) (hx : IceK x k m) : TrK t k m := by
  obtain ⟨⟨⟨a1, a2⟩, b1, b2⟩, ⟨c1, c2⟩, s1, s2⟩ := h
  obtain ⟨⟨⟨p1, p2⟩, p3, p4⟩, ⟨⟨q1, q2⟩, q3, q4⟩, ⟨r1, r2⟩, ⟨u1, u2⟩, v1, v2⟩ := hx
  exact ⟨⟨by omega, by omega⟩, ⟨by omega, by omega⟩, by omega, by omega, by omega⟩
theorem inIceB_of' {t : Tr} {x : Ice} (h : inI t x) : inIceB t x = true := by
  obtain ⟨⟨⟨t1, t2⟩, t3, t4⟩, ⟨t5, t6⟩, t7, t8⟩ := h
  unfold inIceB hasS
  simp only [Bool.and_eq_true, decide_eq_true_eq]
  omega
theorem inIce_yes {t : Tr} {x : Ice} (h : inI t x) (w : World) : Calls Try.prog 44 #[.agg #[.int .i64 t.bl, .int .i64 t.wh, .int .i64 t.we, .int .i64 t.sn], .agg (iceC x)] w (Ret (.bool true) w) := by
  have h1 := inIce_c t x w
  rw [inIceB_of' h] at h1
  exact h1
/-- What true ice bears lies within what is known of it. -/
theorem bear_in {l : Fro} {x : Ice} {u : Tr} (hL : LawOk l) (hx : IceK x 0 0) (h : inI u x) : (brs l x).lo ≤ u.bl + dn u.wh l.white.lo ∧ u.bl + upp u.wh l.white.hi ≤ (brs l x).hi := by
  obtain ⟨⟨⟨a1, a2⟩, b1, b2⟩, ⟨c1, c2⟩, s1, s2⟩ := h
  have hw := hL.white
  have h1 := dn_mono (n := x.wh.lo) (n' := u.wh) (p := l.white.lo) (p' := l.white.lo) (by have := hx.wh; omega) b1 (by omega) (Int.le_refl _)
  have h2 := upp_mono (n := u.wh) (n' := x.wh.hi) (p := l.white.hi) (p' := l.white.hi) (by have := hx.wh; omega) b2 (by omega) (Int.le_refl _)
  unfold brs
  simp only
  omega
end Go.Proofs.Ythblaiefalbomaa
