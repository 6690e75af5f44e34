/- The reference's narrowed spans are the program's; in plain numbers. -/
import Derived.Test.YtfifldbinnkdmaaKR
import Derived.Test.YtfifldbinnkdmaaRfnD
import Derived.Test.YtfifldbinnkdmaaKN
import Derived.Test.YtfifldbinnkdmaaBal
import Derived.Test.YtfifldbinnkdmaaRef5
import Derived.Test.YtfifldbinnkdmaaHasB
import Derived.Test.YtfifldbinnkdmaaK1
set_option linter.unusedVariables false
set_option linter.unusedSimpArgs false
set_option linter.unnecessarySimpa false
namespace Go.Proofs.Ytfifldbinnkdmaa
open Go.RowKit

def minusS (x y : Sp) : Sp := ⟨x.lo - y.lo, x.hi - y.hi⟩
theorem minusS_zero (x : Sp) : minusS x ⟨0, 0⟩ = x := by cases x; simp [minusS]
theorem addS_minus (x y z : Sp) : addS (minusS x y) z = minusS (addS x z) y := by simp only [addS, minusS, Sp.mk.injEq]; omega
theorem addS_back (x y : Sp) : minusS (addS x y) y = x := by cases x; simp only [addS, minusS, Sp.mk.injEq]; omega
section
variable {b : Bok} {s : Nat}
theorem inA_eq {but : Int} : ∀ (m : Nat), (∀ (i : Nat), i < m → (i : Int) ≠ but) → inA b s but m = inA b s (-1) m
  | 0, _ => rfl
  | m + 1, h => by
    have ih := inA_eq m fun i hi => h i (by omega)
    have h1 := eq_true (h m (by omega))
    have h2 : ((m : Int) ≠ -1) = True := eq_true (by omega)
    simp only [inA, ih, h1, h2]
theorem outA_eq {but : Int} : ∀ (m : Nat), (∀ (i : Nat), i < m → ((b.accs.length + i : Nat) : Int) ≠ but) → outA b s but m = outA b s (-1) m
  | 0, _ => rfl
  | m + 1, h => by
    have ih := outA_eq m fun i hi => h i (by omega)
    have h1 := eq_true (h m (by omega))
    have h2 : (((b.accs.length + m : Nat) : Int) ≠ -1) = True := eq_true (by omega)
    simp only [outA, ih, h1, h2]
theorem inA_cut {k : Nat} : ∀ (m : Nat), k < m → inA b s (k : Int) m = if s.testBit k = true then minusS (inA b s (-1) m) (ga b.accs k).op else inA b s (-1) m
  | 0, h => by omega
  | m + 1, h => by
    have h2 : ((m : Int) ≠ -1) = True := eq_true (by omega)
    by_cases e : k = m
    · subst e
      have ih := inA_eq (b := b) (s := s) (but := (k : Int)) k fun i hi => by omega
      have e3 : bitOf s (k : Int) = s.testBit k := rfl
      simp only [inA, ih, h2, e3]
      cases s.testBit k
      · simp
      · simp [addS_back]
    · have ih := inA_cut (k := k) m (by omega)
      have h1 : ((m : Int) ≠ (k : Int)) = True := eq_true (by omega)
      simp only [inA, ih, h1, h2]
      split
      · split
        · exact addS_minus _ _ _
        · rfl
      · rfl
theorem outA_cut {k : Nat} : ∀ (m : Nat), k < m → outA b s ((b.accs.length + k : Nat) : Int) m = if s.testBit k = true then minusS (outA b s (-1) m) (ga b.accs k).cl else outA b s (-1) m
  | 0, h => by omega
  | m + 1, h => by
    have h2 : (((b.accs.length + m : Nat) : Int) ≠ -1) = True := eq_true (by omega)
    by_cases e : k = m
    · subst e
      have ih := outA_eq (b := b) (s := s) (but := ((b.accs.length + k : Nat) : Int)) k fun i hi => by omega
      have e3 : bitOf s (k : Int) = s.testBit k := rfl
      simp only [outA, ih, h2, e3]
      cases s.testBit k
      · simp
      · simp [addS_back]
    · have ih := outA_cut (k := k) m (by omega)
      have h1 : (((b.accs.length + m : Nat) : Int) ≠ ((b.accs.length + k : Nat) : Int)) = True := eq_true (by omega)
      simp only [outA, ih, h1, h2]
      split
      · split
        · exact addS_minus _ _ _
        · rfl
      · rfl
theorem inM_sh {but : Int} {d : Sp} (h0 : inA b s but b.accs.length = minusS (inA b s (-1) b.accs.length) d) : ∀ (m : Nat), (∀ (j : Nat), j < m → ((2 * b.accs.length + j : Nat) : Int) ≠ but) → inM b s but m = minusS (inM b s (-1) m) d
  | 0, _ => h0
  | m + 1, h => by
    have ih := inM_sh h0 m fun i hi => h i (by omega)
    have h1 := eq_true (h m (by omega))
    have h2 : (((2 * b.accs.length + m : Nat) : Int) ≠ -1) = True := eq_true (by omega)
    simp only [inM, ih, h1, h2]
    split
    · exact addS_minus _ _ _
    · rfl
theorem outM_sh {but : Int} {d : Sp} (h0 : outA b s but b.accs.length = minusS (outA b s (-1) b.accs.length) d) : ∀ (m : Nat), (∀ (j : Nat), j < m → ((2 * b.accs.length + j : Nat) : Int) ≠ but) → outM b s but m = minusS (outM b s (-1) m) d
  | 0, _ => h0
  | m + 1, h => by
    have ih := outM_sh h0 m fun i hi => h i (by omega)
    have h1 := eq_true (h m (by omega))
    have h2 : (((2 * b.accs.length + m : Nat) : Int) ≠ -1) = True := eq_true (by omega)
    simp only [outM, ih, h1, h2]
    split
    · exact addS_minus _ _ _
    · rfl
theorem inM_cut {k : Nat} : ∀ (m : Nat), k < m → inM b s ((2 * b.accs.length + k : Nat) : Int) m = if bitOf s (gm b.mvs k).to = true ∧ bitOf s (gm b.mvs k).fr = false then minusS (inM b s (-1) m) (gm b.mvs k).li else inM b s (-1) m
  | 0, h => by omega
  | m + 1, h => by
    have h2 : (((2 * b.accs.length + m : Nat) : Int) ≠ -1) = True := eq_true (by omega)
    by_cases e : k = m
    · subst e
      have h0 := inA_eq (b := b) (s := s) (but := ((2 * b.accs.length + k : Nat) : Int)) b.accs.length fun i hi => by omega
      have ih := inM_sh (b := b) (s := s) (but := ((2 * b.accs.length + k : Nat) : Int)) (d := ⟨0, 0⟩) (by rw [minusS_zero]; exact h0) k fun j hj => by omega
      rw [minusS_zero] at ih
      simp only [inM, ih, h2]
      cases bitOf s (gm b.mvs k).to <;> cases bitOf s (gm b.mvs k).fr <;> simp [addS_back]
    · have ih := inM_cut (k := k) m (by omega)
      have h1 : (((2 * b.accs.length + m : Nat) : Int) ≠ ((2 * b.accs.length + k : Nat) : Int)) = True := eq_true (by omega)
      simp only [inM, ih, h1, h2]
      split
      · split
        · exact addS_minus _ _ _
        · rfl
      · rfl
theorem outM_cut {k : Nat} : ∀ (m : Nat), k < m → outM b s ((2 * b.accs.length + k : Nat) : Int) m = if bitOf s (gm b.mvs k).fr = true ∧ bitOf s (gm b.mvs k).to = false then minusS (outM b s (-1) m) (gm b.mvs k).li else outM b s (-1) m
  | 0, h => by omega
  | m + 1, h => by
    have h2 : (((2 * b.accs.length + m : Nat) : Int) ≠ -1) = True := eq_true (by omega)
    by_cases e : k = m
    · subst e
      have h0 := outA_eq (b := b) (s := s) (but := ((2 * b.accs.length + k : Nat) : Int)) b.accs.length fun i hi => by omega
      have ih := outM_sh (b := b) (s := s) (but := ((2 * b.accs.length + k : Nat) : Int)) (d := ⟨0, 0⟩) (by rw [minusS_zero]; exact h0) k fun j hj => by omega
      rw [minusS_zero] at ih
      simp only [outM, ih, h2]
      cases bitOf s (gm b.mvs k).to <;> cases bitOf s (gm b.mvs k).fr <;> simp [addS_back]
    · have ih := outM_cut (k := k) m (by omega)
      have h1 : (((2 * b.accs.length + m : Nat) : Int) ≠ ((2 * b.accs.length + k : Nat) : Int)) = True := eq_true (by omega)
      simp only [outM, ih, h1, h2]
      split
      · split
        · exact addS_minus _ _ _
        · rfl
      · rfl
end
/-- One of the spans of a book counts as coming into a set, as going out of it. -/
def enB (b : Bok) (s k : Nat) : Bool := if k < 2 * b.accs.length then decide (k < b.accs.length) && s.testBit k else bitOf s (gm b.mvs (k - 2 * b.accs.length)).to && !bitOf s (gm b.mvs (k - 2 * b.accs.length)).fr
def leB (b : Bok) (s k : Nat) : Bool := if k < 2 * b.accs.length then decide (b.accs.length ≤ k) && s.testBit (k - b.accs.length) else bitOf s (gm b.mvs (k - 2 * b.accs.length)).fr && !bitOf s (gm b.mvs (k - 2 * b.accs.length)).to
def rst1 (b : Bok) (s k : Nat) (r : Sp) : Sp := if enB b s k = true then ⟨max r.lo ((outS b s k).lo - (inS b s k).hi), if losesB b s (-1) = true then r.hi else min r.hi ((outS b s k).hi - (inS b s k).lo)⟩ else r
def rst2 (b : Bok) (s k : Nat) (r : Sp) : Sp := if leB b s k = true then ⟨if losesB b s (-1) = true then r.lo else max r.lo ((inS b s k).lo - (outS b s k).hi), min r.hi ((inS b s k).hi - (outS b s k).lo)⟩ else r
/-- The reference's span, narrowed by the first sets. -/
def rnarF (b : Bok) (k : Nat) : Nat → Sp
  | 0 => sp (spansL b) k
  | s + 1 => if s = 0 then rnarF b k s else rst2 b s k (rst1 b s k (rnarF b k s))
theorem grp_zero (b : Bok) : grp b 0 = ⟨0, 0, true, (grp b 0).rest⟩ := by
  have h1 : ∀ n, (grpA b.accs 0 n).least = 0 ∧ (grpA b.accs 0 n).most = 0 ∧ (grpA b.accs 0 n).ground = true := by
    intro n
    induction n with
    | zero => exact ⟨rfl, rfl, rfl⟩
    | succ n ih => rw [grpA_no (by simp)]; exact ih
  have h2 : ∀ n, grpM b.mvs 0 (grpA b.accs 0 b.accs.length) n = grpA b.accs 0 b.accs.length := by
    intro n
    induction n with
    | zero => rfl
    | succ n ih => simp only [grpM, ih, bitOf]; simp
  obtain ⟨a1, a2, a3⟩ := h1 b.accs.length
  unfold grp
  rw [h2]
  cases hg : grpA b.accs 0 b.accs.length
  rw [hg] at a1 a2 a3
  simp only at a1 a2 a3
  subst a1 a2 a3
  rfl
section
variable {b : Bok} (hok : BokOk b)
include hok
/-- One set's step, a span that comes into sets or goes out of them. -/
theorem step_eq {s k : Nat} {was r : Sp} {into out : Nat → Bool} (he : enB b s k = into s) (hl : leB b s k = out s) (hx : ¬ (into s = true ∧ out s = true))
    (h1 : into s = true → inS b s k = minusS (inS b s (-1)) was ∧ outS b s k = outS b s (-1)) (h2 : out s = true → outS b s k = minusS (outS b s (-1)) was ∧ inS b s k = inS b s (-1)) (hr : narF b into out was s = r) :
    rst2 b s k (rst1 b s k r) = narF b into out was (s + 1) := by
  obtain ⟨g1, g2⟩ := grp_in b s
  have g3 := grp_ground hok s
  unfold rst2 rst1
  simp only [narF, hr, he, hl]
  by_cases c1 : into s = true
  · have c2 : ¬ out s = true := fun c => hx ⟨c1, c⟩
    rw [if_neg c2, if_pos c1, if_pos c1]
    obtain ⟨e1, e2⟩ := h1 c1
    rw [e1, e2]
    simp only [minusS, Sp.mk.injEq]
    refine ⟨by omega, ?_⟩
    cases hq : losesB b s (-1) with
    | true => rw [hq] at g3; simp [g3]
    | false => rw [hq] at g3; simp [g3]; omega
  · rw [if_neg c1, if_neg c1]
    by_cases c2 : out s = true
    · rw [if_pos c2, if_pos c2]
      obtain ⟨e1, e2⟩ := h2 c2
      rw [e1, e2]
      simp only [minusS, Sp.mk.injEq]
      refine ⟨?_, by omega⟩
      cases hq : losesB b s (-1) with
      | true => rw [hq] at g3; simp [g3]
      | false => rw [hq] at g3; simp [g3]; omega
    · rw [if_neg c2, if_neg c2]
theorem rnar_of {k : Nat} {was : Sp} {into out : Nat → Bool} (h0 : sp (spansL b) k = was) (hz : into 0 = false ∧ out 0 = false) (he : ∀ s, enB b s k = into s) (hl : ∀ s, leB b s k = out s) (hx : ∀ s, ¬ (into s = true ∧ out s = true))
    (h1 : ∀ s, into s = true → inS b s k = minusS (inS b s (-1)) was ∧ outS b s k = outS b s (-1)) (h2 : ∀ s, out s = true → outS b s k = minusS (outS b s (-1)) was ∧ inS b s k = inS b s (-1)) : ∀ m, rnarF b k m = narF b into out was m
  | 0 => h0
  | m + 1 => by
    have ih := rnar_of h0 hz he hl hx h1 h2 m
    unfold rnarF
    by_cases e : m = 0
    · subst e
      rw [if_pos rfl, ih]
      simp [narF, hz.1, hz.2]
    · rw [if_neg e]
      rw [ih]
      exact step_eq hok (he m) (hl m) (hx m) (h1 m) (h2 m) rfl
theorem rnar_op {k : Nat} (hk : k < b.accs.length) : rnarF b k (2 ^ b.accs.length) = narO b k := by
  refine rnar_of hok (spansL_op hk) ⟨by simp [bitOf], rfl⟩ (fun s => ?_) (fun s => ?_) (fun s h => by simp at h) (fun s hi => ?_) (fun s ho => by cases ho) _
  · unfold enB
    rw [if_pos (by omega)]
    simp [hk, bitOf]
  · unfold leB
    rw [if_pos (by omega)]
    simp; omega
  · have hb : s.testBit k = true := by simpa [bitOf] using hi
    have e1 := inA_cut (b := b) (s := s) (k := k) b.accs.length hk
    rw [if_pos hb] at e1
    have e2 := outA_eq (b := b) (s := s) (but := (k : Int)) b.accs.length fun i hi => by omega
    refine ⟨inM_sh e1 b.mvs.length fun j hj => by omega, ?_⟩
    have e3 := outM_sh (b := b) (s := s) (but := (k : Int)) (d := ⟨0, 0⟩) (by rw [minusS_zero]; exact e2) b.mvs.length fun j hj => by omega
    rw [minusS_zero] at e3
    exact e3
theorem rnar_cl {k : Nat} (hk : k < b.accs.length) : rnarF b (b.accs.length + k) (2 ^ b.accs.length) = narC b k := by
  refine rnar_of hok (spansL_cl hk) ⟨rfl, by simp [bitOf]⟩ (fun s => ?_) (fun s => ?_) (fun s h => by simp at h) (fun s ho => by cases ho) (fun s hi => ?_) _
  · unfold enB
    rw [if_pos (by omega)]
    simp
    intro h_
    omega
  · unfold leB
    rw [if_pos (by omega)]
    simp [bitOf]
  · have hb : s.testBit k = true := by simpa [bitOf] using hi
    have e1 := outA_cut (b := b) (s := s) (k := k) b.accs.length hk
    rw [if_pos hb] at e1
    have e2 := inA_eq (b := b) (s := s) (but := ((b.accs.length + k : Nat) : Int)) b.accs.length fun i hi => by omega
    refine ⟨outM_sh e1 b.mvs.length fun j hj => by omega, ?_⟩
    have e3 := inM_sh (b := b) (s := s) (but := ((b.accs.length + k : Nat) : Int)) (d := ⟨0, 0⟩) (by rw [minusS_zero]; exact e2) b.mvs.length fun j hj => by omega
    rw [minusS_zero] at e3
    exact e3
theorem rnar_li {k : Nat} (hk : k < b.mvs.length) : rnarF b (2 * b.accs.length + k) (2 ^ b.accs.length) = narL b k := by
  have e0 : 2 * b.accs.length + k - 2 * b.accs.length = k := by omega
  refine rnar_of hok (spansL_li hk) ⟨by simp [bitOf], by simp [bitOf]⟩ (fun s => ?_) (fun s => ?_) (fun s h => ?_) (fun s hi => ?_) (fun s hi => ?_) _
  · unfold enB
    rw [if_neg (by omega), e0]
  · unfold leB
    rw [if_neg (by omega), e0]
  · obtain ⟨a1, a2⟩ := h
    revert a1 a2
    cases bitOf s (gm b.mvs k).to <;> cases bitOf s (gm b.mvs k).fr <;> simp
  · have hb : bitOf s (gm b.mvs k).to = true ∧ bitOf s (gm b.mvs k).fr = false := by simpa using hi
    have e1 := inM_cut (b := b) (s := s) (k := k) b.mvs.length hk
    have e2 := outM_cut (b := b) (s := s) (k := k) b.mvs.length hk
    rw [if_pos hb] at e1
    rw [if_neg (by rw [hb.2]; simp)] at e2
    exact ⟨e1, e2⟩
  · have hb : bitOf s (gm b.mvs k).fr = true ∧ bitOf s (gm b.mvs k).to = false := by simpa using hi
    have e1 := inM_cut (b := b) (s := s) (k := k) b.mvs.length hk
    have e2 := outM_cut (b := b) (s := s) (k := k) b.mvs.length hk
    rw [if_pos hb] at e2
    rw [if_neg (by rw [hb.2]; simp)] at e1
    exact ⟨e2, e1⟩
end
end Go.Proofs.Ytfifldbinnkdmaa
/- fuel: what the reference says of a span. -/
namespace Go.Proofs.Ytfifldbinnkdmaa
open Go.RowKit Go.Shelf
set_option maxRecDepth 100000

set_option maxHeartbeats 4000000 in
theorem ren0 (lo hi : Nat) (va vm : Value) (b : Bok) (s : Nat) (z : Int) (w : World) (hb : HasB lo hi w va vm b) (hh : hi ≤ w.heap.size) (hok : BokOk b) (hs8 : s < 256) (hz : 0 ≤ z ∧ z < (b.accs.length : Int)) :
    Calls Try.prog 120 #[.agg #[va, vm], .int .i64 (s : Int), .int .i64 z] w (Ret (.bool (bitOf s z)) w) := by
  have F1 : Bun w [] w := Bun.nil _
  obtain ⟨hba, hbm⟩ := id hb
  clear hb
  have hm_ac := hba.len
  unfold maxLen at hm_ac
  obtain ⟨aa, ak, rfl⟩ := hba.any
  have F2 := F1.sl0 hba hh rfl
  clear F1
  clear hba
  have hm_mv := hbm.len
  unfold maxLen at hm_mv
  obtain ⟨ma, mk, rfl⟩ := hbm.any
  have F3 := F2.sl0 hbm hh rfl
  clear F2
  clear hbm
  have HOK := Lib.hid hok
  have h1_ := hok.n0
  have h8_ := hok.n8
  have h30_ := hok.m30
  clear hok
  have hd0 : decide (z < 2 * (b.accs.length : Int)) = true := decide_eq_true (by have h8_ := HOK.out.n8; omega)
  have hf0 : (z < 2 * (b.accs.length : Int)) := by omega
  have hd1 : decide (z < (b.accs.length : Int)) = true := decide_eq_true (by have h8_ := HOK.out.n8; omega)
  have hf1 : (z < (b.accs.length : Int)) := by omega
  go_enter Try.func120, Try.ntmps120
  go_wp2_with fail
  have F4 := F3.new 25 #[.slice aa b.accs.length ak, .slice ma b.mvs.length mk] (n := w.heap.size) (by simp)
  clear F3
  refine (rhas_c s z _ hs8 (by omega) (by omega)).mono ?_
  rintro e w7 ⟨rfl, hg5⟩
  have hg5s := hg5.size
  (try simp at hg5s)
  have F8 := F4.gn hg5
  clear F4
  clear hg5
  go_wp2_with fail
  go_ret
  exact ⟨rfl, F8.gb⟩

set_option maxHeartbeats 4000000 in
theorem ren1 (lo hi : Nat) (va vm : Value) (b : Bok) (s : Nat) (z : Int) (w : World) (hb : HasB lo hi w va vm b) (hh : hi ≤ w.heap.size) (hok : BokOk b) (hs8 : s < 256) (hz : (b.accs.length : Int) ≤ z ∧ z < 2 * (b.accs.length : Int)) :
    Calls Try.prog 120 #[.agg #[va, vm], .int .i64 (s : Int), .int .i64 z] w (Ret (.bool false) w) := by
  have F1 : Bun w [] w := Bun.nil _
  obtain ⟨hba, hbm⟩ := id hb
  clear hb
  have hm_ac := hba.len
  unfold maxLen at hm_ac
  obtain ⟨aa, ak, rfl⟩ := hba.any
  have F2 := F1.sl0 hba hh rfl
  clear F1
  clear hba
  have hm_mv := hbm.len
  unfold maxLen at hm_mv
  obtain ⟨ma, mk, rfl⟩ := hbm.any
  have F3 := F2.sl0 hbm hh rfl
  clear F2
  clear hbm
  have HOK := Lib.hid hok
  have h1_ := hok.n0
  have h8_ := hok.n8
  have h30_ := hok.m30
  clear hok
  have hd0 : decide (z < 2 * (b.accs.length : Int)) = true := decide_eq_true (by have h8_ := HOK.out.n8; omega)
  have hf0 : (z < 2 * (b.accs.length : Int)) := by omega
  have hd1 : decide (z < (b.accs.length : Int)) = false := decide_eq_false (by have h8_ := HOK.out.n8; omega)
  have hf1 : ¬ (z < (b.accs.length : Int)) := by omega
  go_enter Try.func120, Try.ntmps120
  go_wp2_with fail
  have F4 := F3.new 25 #[.slice aa b.accs.length ak, .slice ma b.mvs.length mk] (n := w.heap.size) (by simp)
  clear F3
  go_ret
  exact ⟨rfl, F4.gb⟩

set_option maxHeartbeats 4000000 in
theorem ren2 (lo hi : Nat) (va vm : Value) (b : Bok) (s : Nat) (z : Int) (w : World) (hb : HasB lo hi w va vm b) (hh : hi ≤ w.heap.size) (hok : BokOk b) (hs8 : s < 256) (j : Nat) (hj : j < b.mvs.length) (hz : z = 2 * (b.accs.length : Int) + (j : Int)) :
    Calls Try.prog 120 #[.agg #[va, vm], .int .i64 (s : Int), .int .i64 z] w (Ret (.bool (bitOf s (gm b.mvs j).to && !bitOf s (gm b.mvs j).fr)) w) := by
  have F1 : Bun w [] w := Bun.nil _
  obtain ⟨hba, hbm⟩ := id hb
  clear hb
  have hm_ac := hba.len
  unfold maxLen at hm_ac
  obtain ⟨aa, ak, rfl⟩ := hba.any
  have F2 := F1.sl0 hba hh rfl
  clear F1
  clear hba
  have hm_mv := hbm.len
  unfold maxLen at hm_mv
  obtain ⟨ma, mk, rfl⟩ := hbm.any
  have F3 := F2.sl0 hbm hh rfl
  clear F2
  clear hbm
  have HOK := Lib.hid hok
  have h1_ := hok.n0
  have h8_ := hok.n8
  have h30_ := hok.m30
  clear hok
  have hz0 : 0 ≤ z - 2 * (b.accs.length : Int) := by omega
  have hz1 : z - 2 * (b.accs.length : Int) < (b.mvs.length : Int) := by omega
  have hz2 : (z - 2 * (b.accs.length : Int)).toNat = j := by omega
  have hmok := HOK.out.mv j hj
  have hmf := hmok.fr
  have hmt := hmok.to
  clear hmok
  obtain ⟨x4, o5, e_⟩ := Sl.addr (F3.at 0 rfl : Sl mvEnc 4 lo hi _ (.slice ma b.mvs.length mk) b.mvs) (by omega)
  subst e_
  have hz6 : Hid (b.mvs[j]? = some (gm b.mvs j)) := Lib.hid (gm_at hj)
  have hd0 : decide (z < 2 * (b.accs.length : Int)) = false := decide_eq_false (by have h8_ := HOK.out.n8; omega)
  have hf0 : ¬ (z < 2 * (b.accs.length : Int)) := by omega
  go_enter Try.func120, Try.ntmps120
  have ge7 : World.cell? _ ⟨x4, o5 + j * 4, none⟩ = some (.int .i64 (gm b.mvs j).fr) := (((F3.at 0 rfl : Sl mvEnc 4 lo hi _ (.slice (some ⟨x4, o5, none⟩) b.mvs.length mk) b.mvs)).cells hz6.out 0 _ rfl)
  have gl8 := cell_lt ge7
  have ge9 : World.cell? _ ⟨x4, o5 + j * 4 + 1, none⟩ = some (.int .i64 (gm b.mvs j).to) := (((F3.at 0 rfl : Sl mvEnc 4 lo hi _ (.slice (some ⟨x4, o5, none⟩) b.mvs.length mk) b.mvs)).cells hz6.out 1 _ rfl)
  have ge10 : World.cell? _ ⟨x4, o5 + j * 4 + 2, none⟩ = some (.int .i64 (gm b.mvs j).li.lo) := (((F3.at 0 rfl : Sl mvEnc 4 lo hi _ (.slice (some ⟨x4, o5, none⟩) b.mvs.length mk) b.mvs)).cells hz6.out 2 _ rfl)
  have ge11 : World.cell? _ ⟨x4, o5 + j * 4 + 3, none⟩ = some (.int .i64 (gm b.mvs j).li.hi) := (((F3.at 0 rfl : Sl mvEnc 4 lo hi _ (.slice (some ⟨x4, o5, none⟩) b.mvs.length mk) b.mvs)).cells hz6.out 3 _ rfl)
  go_wp2_with fail
  clear ge7 gl8 ge9 ge10 ge11
  have F12 := F3.new 25 #[.slice aa b.accs.length ak, .slice (some ⟨x4, o5, none⟩) b.mvs.length mk] (n := w.heap.size) (by simp)
  clear F3
  have F13 := F12.new 76 #[.int .i64 ((gm b.mvs j).fr), .int .i64 ((gm b.mvs j).to), .int .i64 ((gm b.mvs j).li.lo), .int .i64 ((gm b.mvs j).li.hi)] (n := (w.heap.size + 1)) (by simp)
  clear F12
  refine (rhas_c s ((gm b.mvs j).to) _ hs8 (by omega) (by omega)).mono ?_
  rintro e w16 ⟨rfl, hg14⟩
  have hg14s := hg14.size
  (try simp at hg14s)
  have F17 := F13.gn hg14
  clear F13
  clear hg14
  cases c18 : bitOf s ((gm b.mvs j).to)
  · skip
    have c18H := Lib.hid c18
    have Hx19 := Lib.hid (show (((bitOf s (gm b.mvs j).to && !bitOf s (gm b.mvs j).fr) : Bool)) = false by (simp [c18]))
    go_wp2_with fail
    go_ret
    exact ⟨by rw [Hx19.out] <;> rfl, F17.gb⟩
  · skip
    have c18H := Lib.hid c18
    have b20 := F17.bx4 0 rfl
    go_wp2_with fail
    clear b20
    refine (rhas_c s ((gm b.mvs j).fr) _ hs8 (by omega) (by omega)).mono ?_
    rintro e w23 ⟨rfl, hg21⟩
    have hg21s := hg21.size
    (try simp at hg21s)
    have F24 := F17.gn hg21
    clear F17
    clear hg21
    have Hx25 := Lib.hid (show (((bitOf s (gm b.mvs j).to && !bitOf s (gm b.mvs j).fr) : Bool)) = (!(bitOf s ((gm b.mvs j).fr))) by (simp [c18]))
    go_wp2_with fail
    go_ret
    exact ⟨by rw [Hx25.out] <;> rfl, F24.gb⟩

set_option maxHeartbeats 4000000 in
theorem rle0 (lo hi : Nat) (va vm : Value) (b : Bok) (s : Nat) (z : Int) (w : World) (hb : HasB lo hi w va vm b) (hh : hi ≤ w.heap.size) (hok : BokOk b) (hs8 : s < 256) (hz : 0 ≤ z ∧ z < (b.accs.length : Int)) :
    Calls Try.prog 121 #[.agg #[va, vm], .int .i64 (s : Int), .int .i64 z] w (Ret (.bool false) w) := by
  have F1 : Bun w [] w := Bun.nil _
  obtain ⟨hba, hbm⟩ := id hb
  clear hb
  have hm_ac := hba.len
  unfold maxLen at hm_ac
  obtain ⟨aa, ak, rfl⟩ := hba.any
  have F2 := F1.sl0 hba hh rfl
  clear F1
  clear hba
  have hm_mv := hbm.len
  unfold maxLen at hm_mv
  obtain ⟨ma, mk, rfl⟩ := hbm.any
  have F3 := F2.sl0 hbm hh rfl
  clear F2
  clear hbm
  have HOK := Lib.hid hok
  have h1_ := hok.n0
  have h8_ := hok.n8
  have h30_ := hok.m30
  clear hok
  have hd0 : decide (z < 2 * (b.accs.length : Int)) = true := decide_eq_true (by have h8_ := HOK.out.n8; omega)
  have hf0 : (z < 2 * (b.accs.length : Int)) := by omega
  have hd1 : decide ((b.accs.length : Int) ≤ z) = false := decide_eq_false (by have h8_ := HOK.out.n8; omega)
  have hf1 : ¬ ((b.accs.length : Int) ≤ z) := by omega
  go_enter Try.func121, Try.ntmps121
  go_wp2_with fail
  have F4 := F3.new 25 #[.slice aa b.accs.length ak, .slice ma b.mvs.length mk] (n := w.heap.size) (by simp)
  clear F3
  go_ret
  exact ⟨rfl, F4.gb⟩

set_option maxHeartbeats 4000000 in
theorem rle1 (lo hi : Nat) (va vm : Value) (b : Bok) (s : Nat) (z : Int) (w : World) (hb : HasB lo hi w va vm b) (hh : hi ≤ w.heap.size) (hok : BokOk b) (hs8 : s < 256) (hz : (b.accs.length : Int) ≤ z ∧ z < 2 * (b.accs.length : Int)) :
    Calls Try.prog 121 #[.agg #[va, vm], .int .i64 (s : Int), .int .i64 z] w (Ret (.bool (bitOf s (z - (b.accs.length : Int)))) w) := by
  have F1 : Bun w [] w := Bun.nil _
  obtain ⟨hba, hbm⟩ := id hb
  clear hb
  have hm_ac := hba.len
  unfold maxLen at hm_ac
  obtain ⟨aa, ak, rfl⟩ := hba.any
  have F2 := F1.sl0 hba hh rfl
  clear F1
  clear hba
  have hm_mv := hbm.len
  unfold maxLen at hm_mv
  obtain ⟨ma, mk, rfl⟩ := hbm.any
  have F3 := F2.sl0 hbm hh rfl
  clear F2
  clear hbm
  have HOK := Lib.hid hok
  have h1_ := hok.n0
  have h8_ := hok.n8
  have h30_ := hok.m30
  clear hok
  have hd0 : decide (z < 2 * (b.accs.length : Int)) = true := decide_eq_true (by have h8_ := HOK.out.n8; omega)
  have hf0 : (z < 2 * (b.accs.length : Int)) := by omega
  have hd1 : decide ((b.accs.length : Int) ≤ z) = true := decide_eq_true (by have h8_ := HOK.out.n8; omega)
  have hf1 : ((b.accs.length : Int) ≤ z) := by omega
  go_enter Try.func121, Try.ntmps121
  go_wp2_with fail
  have F4 := F3.new 25 #[.slice aa b.accs.length ak, .slice ma b.mvs.length mk] (n := w.heap.size) (by simp)
  clear F3
  refine (rhas_c s (z - (b.accs.length : Int)) _ hs8 (by omega) (by omega)).mono ?_
  rintro e w7 ⟨rfl, hg5⟩
  have hg5s := hg5.size
  (try simp at hg5s)
  have F8 := F4.gn hg5
  clear F4
  clear hg5
  go_wp2_with fail
  go_ret
  exact ⟨rfl, F8.gb⟩

set_option maxHeartbeats 4000000 in
theorem rle2 (lo hi : Nat) (va vm : Value) (b : Bok) (s : Nat) (z : Int) (w : World) (hb : HasB lo hi w va vm b) (hh : hi ≤ w.heap.size) (hok : BokOk b) (hs8 : s < 256) (j : Nat) (hj : j < b.mvs.length) (hz : z = 2 * (b.accs.length : Int) + (j : Int)) :
    Calls Try.prog 121 #[.agg #[va, vm], .int .i64 (s : Int), .int .i64 z] w (Ret (.bool (bitOf s (gm b.mvs j).fr && !bitOf s (gm b.mvs j).to)) w) := by
  have F1 : Bun w [] w := Bun.nil _
  obtain ⟨hba, hbm⟩ := id hb
  clear hb
  have hm_ac := hba.len
  unfold maxLen at hm_ac
  obtain ⟨aa, ak, rfl⟩ := hba.any
  have F2 := F1.sl0 hba hh rfl
  clear F1
  clear hba
  have hm_mv := hbm.len
  unfold maxLen at hm_mv
  obtain ⟨ma, mk, rfl⟩ := hbm.any
  have F3 := F2.sl0 hbm hh rfl
  clear F2
  clear hbm
  have HOK := Lib.hid hok
  have h1_ := hok.n0
  have h8_ := hok.n8
  have h30_ := hok.m30
  clear hok
  have hz0 : 0 ≤ z - 2 * (b.accs.length : Int) := by omega
  have hz1 : z - 2 * (b.accs.length : Int) < (b.mvs.length : Int) := by omega
  have hz2 : (z - 2 * (b.accs.length : Int)).toNat = j := by omega
  have hmok := HOK.out.mv j hj
  have hmf := hmok.fr
  have hmt := hmok.to
  clear hmok
  obtain ⟨x4, o5, e_⟩ := Sl.addr (F3.at 0 rfl : Sl mvEnc 4 lo hi _ (.slice ma b.mvs.length mk) b.mvs) (by omega)
  subst e_
  have hz6 : Hid (b.mvs[j]? = some (gm b.mvs j)) := Lib.hid (gm_at hj)
  have hd0 : decide (z < 2 * (b.accs.length : Int)) = false := decide_eq_false (by have h8_ := HOK.out.n8; omega)
  have hf0 : ¬ (z < 2 * (b.accs.length : Int)) := by omega
  go_enter Try.func121, Try.ntmps121
  have ge7 : World.cell? _ ⟨x4, o5 + j * 4, none⟩ = some (.int .i64 (gm b.mvs j).fr) := (((F3.at 0 rfl : Sl mvEnc 4 lo hi _ (.slice (some ⟨x4, o5, none⟩) b.mvs.length mk) b.mvs)).cells hz6.out 0 _ rfl)
  have gl8 := cell_lt ge7
  have ge9 : World.cell? _ ⟨x4, o5 + j * 4 + 1, none⟩ = some (.int .i64 (gm b.mvs j).to) := (((F3.at 0 rfl : Sl mvEnc 4 lo hi _ (.slice (some ⟨x4, o5, none⟩) b.mvs.length mk) b.mvs)).cells hz6.out 1 _ rfl)
  have ge10 : World.cell? _ ⟨x4, o5 + j * 4 + 2, none⟩ = some (.int .i64 (gm b.mvs j).li.lo) := (((F3.at 0 rfl : Sl mvEnc 4 lo hi _ (.slice (some ⟨x4, o5, none⟩) b.mvs.length mk) b.mvs)).cells hz6.out 2 _ rfl)
  have ge11 : World.cell? _ ⟨x4, o5 + j * 4 + 3, none⟩ = some (.int .i64 (gm b.mvs j).li.hi) := (((F3.at 0 rfl : Sl mvEnc 4 lo hi _ (.slice (some ⟨x4, o5, none⟩) b.mvs.length mk) b.mvs)).cells hz6.out 3 _ rfl)
  go_wp2_with fail
  clear ge7 gl8 ge9 ge10 ge11
  have F12 := F3.new 25 #[.slice aa b.accs.length ak, .slice (some ⟨x4, o5, none⟩) b.mvs.length mk] (n := w.heap.size) (by simp)
  clear F3
  have F13 := F12.new 76 #[.int .i64 ((gm b.mvs j).fr), .int .i64 ((gm b.mvs j).to), .int .i64 ((gm b.mvs j).li.lo), .int .i64 ((gm b.mvs j).li.hi)] (n := (w.heap.size + 1)) (by simp)
  clear F12
  refine (rhas_c s ((gm b.mvs j).fr) _ hs8 (by omega) (by omega)).mono ?_
  rintro e w16 ⟨rfl, hg14⟩
  have hg14s := hg14.size
  (try simp at hg14s)
  have F17 := F13.gn hg14
  clear F13
  clear hg14
  cases c18 : bitOf s ((gm b.mvs j).fr)
  · skip
    have c18H := Lib.hid c18
    have Hx19 := Lib.hid (show (((bitOf s (gm b.mvs j).fr && !bitOf s (gm b.mvs j).to) : Bool)) = false by (simp [c18]))
    go_wp2_with fail
    go_ret
    exact ⟨by rw [Hx19.out] <;> rfl, F17.gb⟩
  · skip
    have c18H := Lib.hid c18
    have b20 := F17.bx4 0 rfl
    go_wp2_with fail
    clear b20
    refine (rhas_c s ((gm b.mvs j).to) _ hs8 (by omega) (by omega)).mono ?_
    rintro e w23 ⟨rfl, hg21⟩
    have hg21s := hg21.size
    (try simp at hg21s)
    have F24 := F17.gn hg21
    clear F17
    clear hg21
    have Hx25 := Lib.hid (show (((bitOf s (gm b.mvs j).fr && !bitOf s (gm b.mvs j).to) : Bool)) = (!(bitOf s ((gm b.mvs j).to))) by (simp [c18]))
    go_wp2_with fail
    go_ret
    exact ⟨by rw [Hx25.out] <;> rfl, F24.gb⟩

theorem renters_c (lo hi : Nat) (va vm : Value) (b : Bok) (s k : Nat) (w : World) (hb : HasB lo hi w va vm b) (hh : hi ≤ w.heap.size) (hok : BokOk b) (hs8 : s < 256) (hk : k < 2 * b.accs.length + b.mvs.length) :
    Calls Try.prog 120 #[.agg #[va, vm], .int .i64 (s : Int), .int .i64 (k : Int)] w (Ret (.bool (enB b s k)) w) := by
  unfold enB
  by_cases h1 : k < 2 * b.accs.length
  · rw [if_pos h1]
    by_cases h2 : k < b.accs.length
    · have := ren0 lo hi va vm b s (k : Int) w hb hh hok hs8 (by omega)
      simpa [h2, bitOf] using this
    · have := ren1 lo hi va vm b s (k : Int) w hb hh hok hs8 (by omega)
      simpa [h2] using this
  · rw [if_neg h1]
    exact ren2 lo hi va vm b s (k : Int) w hb hh hok hs8 (k - 2 * b.accs.length) (by omega) (by omega)
theorem rleaves_c (lo hi : Nat) (va vm : Value) (b : Bok) (s k : Nat) (w : World) (hb : HasB lo hi w va vm b) (hh : hi ≤ w.heap.size) (hok : BokOk b) (hs8 : s < 256) (hk : k < 2 * b.accs.length + b.mvs.length) :
    Calls Try.prog 121 #[.agg #[va, vm], .int .i64 (s : Int), .int .i64 (k : Int)] w (Ret (.bool (leB b s k)) w) := by
  unfold leB
  by_cases h1 : k < 2 * b.accs.length
  · rw [if_pos h1]
    by_cases h2 : k < b.accs.length
    · have := rle0 lo hi va vm b s (k : Int) w hb hh hok hs8 (by omega)
      have e : decide (b.accs.length ≤ k) = false := by simp; omega
      rw [e]
      exact this
    · have := rle1 lo hi va vm b s (k : Int) w hb hh hok hs8 (by omega)
      have e : decide (b.accs.length ≤ k) = true := by simp; omega
      have e2 : bitOf s ((k : Int) - (b.accs.length : Int)) = s.testBit (k - b.accs.length) := by unfold bitOf; congr 1; omega
      rw [e, Bool.true_and, ← e2]
      exact this
  · rw [if_neg h1]
    exact rle2 lo hi va vm b s (k : Int) w hb hh hok hs8 (k - 2 * b.accs.length) (by omega) (by omega)
theorem rin_s (lo hi : Nat) (va vm : Value) (b : Bok) (s : Nat) (but : Int) (w : World) (hb : HasB lo hi w va vm b) (hok : BokOk b) (h2 : hi ≤ w.heap.size) (hs8 : s < 256) :
    Calls Try.prog 101 #[.agg #[va, vm], .int .i64 (s : Int), .int .i64 but] w (Ret (.agg #[.int .i64 (inS b s but).lo, .int .i64 (inS b s but).hi]) w) := rin_c lo hi va vm b s but w hb hok h2 hs8
theorem rout_s (lo hi : Nat) (va vm : Value) (b : Bok) (s : Nat) (but : Int) (w : World) (hb : HasB lo hi w va vm b) (hok : BokOk b) (h2 : hi ≤ w.heap.size) (hs8 : s < 256) :
    Calls Try.prog 102 #[.agg #[va, vm], .int .i64 (s : Int), .int .i64 but] w (Ret (.agg #[.int .i64 (outS b s but).lo, .int .i64 (outS b s but).hi]) w) := rout_c lo hi va vm b s but w hb hok h2 hs8
theorem rsets_n (lo hi : Nat) (va vm : Value) (b : Bok) (N : Nat) (w : World) (hb : HasB lo hi w va vm b) (h8 : b.accs.length ≤ 8) (hN : 2 ^ b.accs.length = N) : Calls Try.prog 99 #[.agg #[va, vm]] w (Ret (.int .i64 (N : Int)) w) := by
  subst hN
  exact rsets_c lo hi va vm b w hb h8
theorem spans_at {b : Bok} {k : Nat} (h : k < (spansL b).length) : (spansL b)[k]? = some (sp (spansL b) k) := by
  unfold sp
  simp [h]
theorem en_le {b : Bok} {s k : Nat} (h : enB b s k = true) : leB b s k = false := by
  unfold enB at h
  unfold leB
  by_cases h1 : k < 2 * b.accs.length
  · rw [if_pos h1] at h ⊢
    simp only [Bool.and_eq_true, decide_eq_true_eq] at h
    simp; intro h2; omega
  · rw [if_neg h1] at h ⊢
    revert h
    cases bitOf s (gm b.mvs (k - 2 * b.accs.length)).to <;> cases bitOf s (gm b.mvs (k - 2 * b.accs.length)).fr <;> simp
theorem rng_rnar_n (t : Nat → Value) : ((List.range 81).map t).toArray = List.toArray [t 0, t 1, t 2, t 3, t 4, t 5, t 6, t 7, t 8, t 9, t 10, t 11, t 12, t 13, t 14, t 15, t 16, t 17, t 18, t 19, t 20, t 21, t 22, t 23, t 24, t 25, t 26, t 27, t 28, t 29, t 30, t 31, t 32, t 33, t 34, t 35, t 36, t 37, t 38, t 39, t 40, t 41, t 42, t 43, t 44, t 45, t 46, t 47, t 48, t 49, t 50, t 51, t 52, t 53, t 54, t 55, t 56, t 57, t 58, t 59, t 60, t 61, t 62, t 63, t 64, t 65, t 66, t 67, t 68, t 69, t 70, t 71, t 72, t 73, t 74, t 75, t 76, t 77, t 78, t 79, t 80] := rfl
set_option maxHeartbeats 16000000 in
theorem rnar_n (lo hi : Nat) (va vm : Value) (b : Bok) (k N : Nat) (w : World) (hb : HasB lo hi w va vm b) (hh : hi ≤ w.heap.size) (hok : BokOk b) (hk : k < 2 * b.accs.length + b.mvs.length) (hN : 2 ^ b.accs.length = N) :
    Calls Try.prog 98 #[.agg #[va, vm], .int .i64 (k : Int)] w (Ret (.agg #[.int .i64 ((rnarF b k N).lo), .int .i64 ((rnarF b k N).hi)]) w) := by
  have F1 : Bun w [] w := Bun.nil _
  obtain ⟨hba, hbm⟩ := id hb
  clear hb
  have hm_ac := hba.len
  unfold maxLen at hm_ac
  obtain ⟨aa, ak, rfl⟩ := hba.any
  have F2 := F1.sl0 hba hh rfl
  clear F1
  clear hba
  have hm_mv := hbm.len
  unfold maxLen at hm_mv
  obtain ⟨ma, mk, rfl⟩ := hbm.any
  have F3 := F2.sl0 hbm hh rfl
  clear F2
  clear hbm
  have HOK := Lib.hid hok
  have h1_ := hok.n0
  have h8_ := hok.n8
  have h30_ := hok.m30
  clear hok
  have hpw : N ≤ 256 := hN ▸ pow256 h8_
  have hp1 : 1 ≤ N := hN ▸ Nat.one_le_two_pow
  have HNN := Lib.hid hN
  clear hN
  have hsl := spansL_len b
  have hks : k < (spansL b).length := by omega
  go_enter Try.func98, Try.ntmps98
  go_wp2_with fail
  have F4 := F3.new 25 #[.slice aa b.accs.length ak, .slice ma b.mvs.length mk] (n := w.heap.size) (by simp)
  clear F3
  have F5 := F4.new 40 #[.int .i64 0, .int .i64 0] (n := (w.heap.size + 1)) (by simp)
  clear F4
  refine (rspans_s _ _ _ _ b _ ⟨(F5.at 3 rfl : Sl accEnc 6 lo hi _ (.slice aa b.accs.length ak) b.accs), (F5.at 2 rfl : Sl mvEnc 4 lo hi _ (.slice ma b.mvs.length mk) b.mvs)⟩ HOK.out (by first | omega | (simp; omega))).mono ?_
  rintro e w8 ⟨sa, sc, lo_s, hi_s, rfl, ⟨rxs, rys⟩, rws, hg6⟩
  have hg6s := hg6.size
  (try simp at hg6s)
  have F9 := F5.add (rsl spEnc 2 lo_s hi_s (.slice sa (spansL b).length sc) (spansL b)) hg6 (rws) (fun g e => ⟨Nat.le_trans rxs e.1, Nat.lt_of_lt_of_le e.2 rys⟩)
  clear F5
  clear hg6
  obtain ⟨x10, o11, e_⟩ := Sl.addr (F9.at 0 rfl : Sl spEnc 2 lo_s hi_s _ (.slice sa (spansL b).length sc) (spansL b)) (by omega)
  subst e_
  have hz12 : Hid ((spansL b)[k]? = some (sp (spansL b) k)) := Lib.hid (spans_at hks)
  have ge13 : World.cell? _ ⟨x10, o11 + k * 2, none⟩ = some (.int .i64 (sp (spansL b) k).lo) := (((F9.at 0 rfl : Sl spEnc 2 lo_s hi_s _ (.slice (some ⟨x10, o11, none⟩) (spansL b).length sc) (spansL b))).cells hz12.out 0 _ rfl)
  have gl14 := cell_lt ge13
  have ge15 : World.cell? _ ⟨x10, o11 + k * 2 + 1, none⟩ = some (.int .i64 (sp (spansL b) k).hi) := (((F9.at 0 rfl : Sl spEnc 2 lo_s hi_s _ (.slice (some ⟨x10, o11, none⟩) (spansL b).length sc) (spansL b))).cells hz12.out 1 _ rfl)
  go_wp2_with fail
  clear ge13 gl14 ge15
  have F16 := F9.new 40 #[.int .i64 ((sp (spansL b) k).lo), .int .i64 ((sp (spansL b) k).hi)] (n := w8.heap.size) (by simp)
  clear F9
  have hr1 : sp (spansL b) k = rnarF b k 1 := rfl
  rw [hr1] at F16
  (skip)
  obtain ⟨HI17_, HI170⟩ : ∃ I : (Nat → Value) → List Deferred → World → Prop, I = (fun t ds wr => ∃ (s : Nat), t 1 = .int .i64 (k : Int) ∧ t 2 = .pointer (some ⟨w.heap.size, 0, none⟩) ∧ t 4 = .pointer (some ⟨w.heap.size + 1, 0, none⟩) ∧ t 5 = .pointer (some ⟨w8.heap.size, 0, none⟩) ∧ t 6 = .int .i64 (s : Int) ∧ 1 ≤ s ∧ s ≤ N ∧ ds = [] ∧ w8.heap.size ≤ wr.heap.size ∧ Bun w [rbox w8.heap.size 40 #[.int .i64 (rnarF b k s).lo, .int .i64 (rnarF b k s).hi], rsl spEnc 2 lo_s hi_s (.slice (some ⟨x10, o11, none⟩) (spansL b).length sc) (spansL b), rbox (w.heap.size + 1) 40 #[.int .i64 0, .int .i64 0], rbox w.heap.size 25 #[.slice aa b.accs.length ak, .slice ma b.mvs.length mk], rsl mvEnc 4 lo hi (.slice ma b.mvs.length mk) b.mvs, rsl accEnc 6 lo hi (.slice aa b.accs.length ak) b.accs] wr) := ⟨_, rfl⟩
  have HI17 := Lib.hid HI170
  clear HI170
  refine wp_loopS 81 rfl HI17_ (fun t wr => N - (intOf (t 6)).toNat) ?atStart1 ?round1
  case round1 =>
    intro t ds wr hHid
    rw [HI17.out] at hHid
    obtain ⟨s, e1, e2, e4, e5, e6, hrel⟩ := hHid
    have e : ((List.range 81).map t).toArray = #[t 0, t 1, t 2, t 3, t 4, t 5, t 6, t 7, t 8, t 9, t 10, t 11, t 12, t 13, t 14, t 15, t 16, t 17, t 18, t 19, t 20, t 21, t 22, t 23, t 24, t 25, t 26, t 27, t 28, t 29, t 30, t 31, t 32, t 33, t 34, t 35, t 36, t 37, t 38, t 39, t 40, t 41, t 42, t 43, t 44, t 45, t 46, t 47, t 48, t 49, t 50, t 51, t 52, t 53, t 54, t 55, t 56, t 57, t 58, t 59, t 60, t 61, t 62, t 63, t 64, t 65, t 66, t 67, t 68, t 69, t 70, t 71, t 72, t 73, t 74, t 75, t 76, t 77, t 78, t 79, t 80] := rfl
    (try dsimp only at e)
    rw [e1, e2, e4, e5, e6] at e
    rw [e]
    simp only [e6]
    clear e e1 e2 e4 e5 e6
    obtain ⟨hs1, hs2, rfl, hs19, hF18⟩ := hrel
    clear F16
    obtain ⟨w20, rfl⟩ : ∃ x_ : World, x_ = wr := ⟨_, rfl⟩
    have b21 := hF18.bx2 3 rfl
    go_wp2_with fail
    clear b21
    refine (rsets_n _ _ _ _ b N _ ⟨(hF18.at 5 rfl : Sl accEnc 6 lo hi _ (.slice aa b.accs.length ak) b.accs), (hF18.at 4 rfl : Sl mvEnc 4 lo hi _ (.slice ma b.mvs.length mk) b.mvs)⟩ (by omega) HNN.out).mono ?_
    rintro e w24 ⟨rfl, hg22⟩
    have hg22s := hg22.size
    (try simp at hg22s)
    have F25 := hF18.gn hg22
    clear hF18
    clear hg22
    by_cases c26 : (s : Int) < (N : Int)
    · skip
      have c26H := Lib.hid c26
      have hs8 : s < 256 := by omega
      have hbi := inS_bd HOK.out s (k : Int)
      have hbo := outS_bd HOK.out s (k : Int)
      go_wp2_with fail
      have F27 := F25.drew
      clear F25
      refine ru_begin (fun W => W.cell? ⟨w.heap.size, 0, none⟩ = some (.slice aa b.accs.length ak) ∧ W.cell? ⟨w.heap.size, 1, none⟩ = some (.slice ma b.mvs.length mk)) 11 (by kernel_rfl) ?_ ?_
      · exact ⟨F27.cl 3 0 rfl rfl, F27.cl 3 1 rfl rfl⟩
      obtain ⟨wd29, hwd_⟩ : ∃ x : World, w24.drew = x := ⟨_, rfl⟩
      rw [hwd_] at F27 ⊢
      have wd29s : w24.heap.size ≤ wd29.heap.size := by rw [← hwd_]; exact Nat.le_refl _
      clear hwd_
      have hS28 := (And.intro (F27.cl 3 0 rfl rfl) (F27.cl 3 1 rfl rfl))
      refine ru_t 0 [] ?_
      refine ru_t 1 [] ?_
      refine ru_t 2 [] ?_
      refine ru_t 4 [] ?_
      refine ru_t 5 [] ?_
      refine ru_t 6 [] ?_
      (try simp only [Act.put, List.setIfInBounds_toArray, List.set_cons_zero, List.set_cons_succ])
      clear hS28
      refine ru_state 81 (fun t w_ => ∃ (yg8 : Nat) (yg9 : Nat), t 1 = .int .i64 (k : Int) ∧ t 2 = .pointer (some ⟨w.heap.size, 0, none⟩) ∧ t 4 = .pointer (some ⟨w.heap.size + 1, 0, none⟩) ∧ t 5 = .pointer (some ⟨w8.heap.size, 0, none⟩) ∧ t 6 = .int .i64 (s : Int) ∧ t 7 = .pointer (some ⟨yg8, 0, none⟩) ∧ t 8 = .pointer (some ⟨yg9, 0, none⟩) ∧ w24.heap.size ≤ w_.heap.size ∧ Bun w [rbox yg9 40 #[.int .i64 ((outS b s (k : Int)).lo), .int .i64 ((outS b s (k : Int)).hi)], rbox yg8 40 #[.int .i64 ((inS b s (k : Int)).lo), .int .i64 ((inS b s (k : Int)).hi)], rbox w8.heap.size 40 #[.int .i64 (rnarF b k s).lo, .int .i64 (rnarF b k s).hi], rsl spEnc 2 lo_s hi_s (.slice (some ⟨x10, o11, none⟩) (spansL b).length sc) (spansL b), rbox (w.heap.size + 1) 40 #[.int .i64 0, .int .i64 0], rbox w.heap.size 25 #[.slice aa b.accs.length ak, .slice ma b.mvs.length mk], rsl mvEnc 4 lo hi (.slice ma b.mvs.length mk) b.mvs, rsl accEnc 6 lo hi (.slice aa b.accs.length ak) b.accs] w_) #[true, true, true, true, true, true, true, true, true, true, true, true] 0 ?st30 ?nx30
      case st30 =>
        rintro t w31 ⟨yg8, yg9, e1, e2, e4, e5, e6, e7, e8, hsz30, F32⟩
        clear F27
        rw [rng_rnar_n t, e1, e2, e4, e5, e6, e7, e8]
        clear e1 e2 e4 e5 e6 e7 e8
        have hws30 := F32.gb.size
        have yg9l := F32.ltAt 0 rfl yg9 rfl
        have yg9b := yg9l.2 rfl
        have yg8l := F32.ltAt 1 rfl yg8 rfl
        have yg8b := yg8l.2 rfl
        refine ru_done (by kernel_rfl) ?_
        obtain ⟨w33, hx34, F36, hxs35⟩ := F32.name
        (try simp at hxs35)
        rw [hx34]
        clear hx34 F32
        have b37 := F36.bx2 5 rfl
        go_wp2_with fail
        clear b37
        refine (renters_c _ _ _ _ b s k _ ⟨(F36.at 7 rfl : Sl accEnc 6 lo hi _ (.slice aa b.accs.length ak) b.accs), (F36.at 6 rfl : Sl mvEnc 4 lo hi _ (.slice ma b.mvs.length mk) b.mvs)⟩ (by first | omega | (simp; omega)) HOK.out hs8 hk).mono ?_
        rintro e w40 ⟨rfl, hg38⟩
        have hg38s := hg38.size
        (try simp at hg38s)
        have F41 := F36.gn hg38
        clear F36
        clear hg38
        cases c42 : enB b s k
        · skip
          have c42H := Lib.hid c42
          have b43 := F41.bx2 5 rfl
          go_wp2_with fail
          clear b43
          refine (rleaves_c _ _ _ _ b s k _ ⟨(F41.at 7 rfl : Sl accEnc 6 lo hi _ (.slice aa b.accs.length ak) b.accs), (F41.at 6 rfl : Sl mvEnc 4 lo hi _ (.slice ma b.mvs.length mk) b.mvs)⟩ (by first | omega | (simp; omega)) HOK.out hs8 hk).mono ?_
          rintro e w46 ⟨rfl, hg44⟩
          have hg44s := hg44.size
          (try simp at hg44s)
          have F47 := F41.gn hg44
          clear F41
          clear hg44
          cases c48 : leB b s k
          · skip
            have c48H := Lib.hid c48
            go_wp2_with fail
            have hN_ : rnarF b k (s + 1) = ⟨(rnarF b k s).lo, (rnarF b k s).hi⟩ := by rw [rnarF, if_neg (by omega)]; simp [rst1, rst2, c42, c48]
            have hlo_ : (rnarF b k s).lo = (rnarF b k (s + 1)).lo := by rw [hN_]
            have hhi_ : (rnarF b k s).hi = (rnarF b k (s + 1)).hi := by rw [hN_]
            have F50 := ((F47.front 2 rfl rfl).nf #[.int .i64 (rnarF b k (s + 1)).lo, .int .i64 (rnarF b k (s + 1)).hi] (by rw [hlo_, hhi_]))
            clear F47
            clear hN_ hlo_ hhi_
            have F51 : Bun w [rbox w8.heap.size 40 #[.int .i64 (rnarF b k (s + 1)).lo, .int .i64 (rnarF b k (s + 1)).hi], rsl spEnc 2 lo_s hi_s (.slice (some ⟨x10, o11, none⟩) (spansL b).length sc) (spansL b), rbox (w.heap.size + 1) 40 #[.int .i64 0, .int .i64 0], rbox w.heap.size 25 #[.slice aa b.accs.length ak, .slice ma b.mvs.length mk], rsl mvEnc 4 lo hi (.slice ma b.mvs.length mk) b.mvs, rsl accEnc 6 lo hi (.slice aa b.accs.length ak) b.accs] _ := F50.pick [0, 3, 4, 5, 6, 7] (by decide) rfl
            clear F50
            (first | refine ⟨by kernel_rfl, ?_, ?_⟩ | refine ⟨rfl, ?_, ?_⟩ | refine ⟨?_, ?_⟩)
            · rw [HI17.out]; exact ⟨s + 1, (by first | kernel_rfl | rfl), (by first | kernel_rfl | rfl), (by first | kernel_rfl | rfl), (by first | kernel_rfl | rfl), (by show Value.int .i64 ((s : Int) + 1) = _; simp), (by omega), (by omega), (by first | rfl | simp), (by first | omega | (simp; done) | (simp; omega)), F51⟩
            · simp [slot, intOf]; omega
          · skip
            have c48H := Lib.hid c48
            have b52 := F47.bx2 0 rfl
            have b53 := F47.bx2 1 rfl
            have b54 := F47.bx2 2 rfl
            have b55 := F47.bx2 5 rfl
            go_wp2_with fail
            clear b52 b53 b54 b55
            have F56 := ((F47.front 2 rfl rfl).set 1 (.int .i64 (min ((rnarF b k s).hi) (((inS b s (k : Int)).hi) - ((outS b s (k : Int)).lo))))).nf #[.int .i64 (rnarF b k s).lo, .int .i64 (min ((rnarF b k s).hi) (((inS b s (k : Int)).hi) - ((outS b s (k : Int)).lo)))] rfl
            clear F47
            refine (rloses_c _ _ _ _ b s (-1) _ ⟨(F56.at 7 rfl : Sl accEnc 6 lo hi _ (.slice aa b.accs.length ak) b.accs), (F56.at 6 rfl : Sl mvEnc 4 lo hi _ (.slice ma b.mvs.length mk) b.mvs)⟩ HOK.out (by first | omega | (simp; omega)) hs8).mono ?_
            rintro e w59 ⟨rfl, hg57⟩
            have hg57s := hg57.size
            (try simp at hg57s)
            have F60 := F56.gn hg57
            clear F56
            clear hg57
            cases c61 : losesB b s (-1)
            · skip
              have c61H := Lib.hid c61
              have b62 := F60.bx2 0 rfl
              have b63 := F60.bx2 1 rfl
              have b64 := F60.bx2 2 rfl
              go_wp2_with fail
              clear b62 b63 b64
              have F65 := (F60.set 0 (.int .i64 (max ((rnarF b k s).lo) (((inS b s (k : Int)).lo) - ((outS b s (k : Int)).hi))))).nf #[.int .i64 (max ((rnarF b k s).lo) (((inS b s (k : Int)).lo) - ((outS b s (k : Int)).hi))), .int .i64 (min ((rnarF b k s).hi) (((inS b s (k : Int)).hi) - ((outS b s (k : Int)).lo)))] rfl
              clear F60
              have hN_ : rnarF b k (s + 1) = ⟨max ((rnarF b k s).lo) (((inS b s (k : Int)).lo) - ((outS b s (k : Int)).hi)), min ((rnarF b k s).hi) (((inS b s (k : Int)).hi) - ((outS b s (k : Int)).lo))⟩ := by rw [rnarF, if_neg (by omega)]; simp [rst1, rst2, c42, c48, c61]
              have hlo_ : max ((rnarF b k s).lo) (((inS b s (k : Int)).lo) - ((outS b s (k : Int)).hi)) = (rnarF b k (s + 1)).lo := by rw [hN_]
              have hhi_ : min ((rnarF b k s).hi) (((inS b s (k : Int)).hi) - ((outS b s (k : Int)).lo)) = (rnarF b k (s + 1)).hi := by rw [hN_]
              have F67 := (F65.nf #[.int .i64 (rnarF b k (s + 1)).lo, .int .i64 (rnarF b k (s + 1)).hi] (by rw [hlo_, hhi_]))
              clear F65
              clear hN_ hlo_ hhi_
              have F68 : Bun w [rbox w8.heap.size 40 #[.int .i64 (rnarF b k (s + 1)).lo, .int .i64 (rnarF b k (s + 1)).hi], rsl spEnc 2 lo_s hi_s (.slice (some ⟨x10, o11, none⟩) (spansL b).length sc) (spansL b), rbox (w.heap.size + 1) 40 #[.int .i64 0, .int .i64 0], rbox w.heap.size 25 #[.slice aa b.accs.length ak, .slice ma b.mvs.length mk], rsl mvEnc 4 lo hi (.slice ma b.mvs.length mk) b.mvs, rsl accEnc 6 lo hi (.slice aa b.accs.length ak) b.accs] _ := F67.pick [0, 3, 4, 5, 6, 7] (by decide) rfl
              clear F67
              (first | refine ⟨by kernel_rfl, ?_, ?_⟩ | refine ⟨rfl, ?_, ?_⟩ | refine ⟨?_, ?_⟩)
              · rw [HI17.out]; exact ⟨s + 1, (by first | kernel_rfl | rfl), (by first | kernel_rfl | rfl), (by first | kernel_rfl | rfl), (by first | kernel_rfl | rfl), (by show Value.int .i64 ((s : Int) + 1) = _; simp), (by omega), (by omega), (by first | rfl | simp), (by first | omega | (simp; done) | (simp; omega)), F68⟩
              · simp [slot, intOf]; omega
            · skip
              have c61H := Lib.hid c61
              go_wp2_with fail
              have hN_ : rnarF b k (s + 1) = ⟨(rnarF b k s).lo, min ((rnarF b k s).hi) (((inS b s (k : Int)).hi) - ((outS b s (k : Int)).lo))⟩ := by rw [rnarF, if_neg (by omega)]; simp [rst1, rst2, c42, c48, c61]
              have hlo_ : (rnarF b k s).lo = (rnarF b k (s + 1)).lo := by rw [hN_]
              have hhi_ : min ((rnarF b k s).hi) (((inS b s (k : Int)).hi) - ((outS b s (k : Int)).lo)) = (rnarF b k (s + 1)).hi := by rw [hN_]
              have F70 := (F60.nf #[.int .i64 (rnarF b k (s + 1)).lo, .int .i64 (rnarF b k (s + 1)).hi] (by rw [hlo_, hhi_]))
              clear F60
              clear hN_ hlo_ hhi_
              have F71 : Bun w [rbox w8.heap.size 40 #[.int .i64 (rnarF b k (s + 1)).lo, .int .i64 (rnarF b k (s + 1)).hi], rsl spEnc 2 lo_s hi_s (.slice (some ⟨x10, o11, none⟩) (spansL b).length sc) (spansL b), rbox (w.heap.size + 1) 40 #[.int .i64 0, .int .i64 0], rbox w.heap.size 25 #[.slice aa b.accs.length ak, .slice ma b.mvs.length mk], rsl mvEnc 4 lo hi (.slice ma b.mvs.length mk) b.mvs, rsl accEnc 6 lo hi (.slice aa b.accs.length ak) b.accs] _ := F70.pick [0, 3, 4, 5, 6, 7] (by decide) rfl
              clear F70
              (first | refine ⟨by kernel_rfl, ?_, ?_⟩ | refine ⟨rfl, ?_, ?_⟩ | refine ⟨?_, ?_⟩)
              · rw [HI17.out]; exact ⟨s + 1, (by first | kernel_rfl | rfl), (by first | kernel_rfl | rfl), (by first | kernel_rfl | rfl), (by first | kernel_rfl | rfl), (by show Value.int .i64 ((s : Int) + 1) = _; simp), (by omega), (by omega), (by first | rfl | simp), (by first | omega | (simp; done) | (simp; omega)), F71⟩
              · simp [slot, intOf]; omega
        · skip
          have c42H := Lib.hid c42
          have hle_ := en_le c42
          have b72 := F41.bx2 0 rfl
          have b73 := F41.bx2 1 rfl
          have b74 := F41.bx2 2 rfl
          have b75 := F41.bx2 5 rfl
          go_wp2_with fail
          clear b72 b73 b74 b75
          have F76 := ((F41.front 2 rfl rfl).set 0 (.int .i64 (max ((rnarF b k s).lo) (((outS b s (k : Int)).lo) - ((inS b s (k : Int)).hi))))).nf #[.int .i64 (max ((rnarF b k s).lo) (((outS b s (k : Int)).lo) - ((inS b s (k : Int)).hi))), .int .i64 (rnarF b k s).hi] rfl
          clear F41
          refine (rloses_c _ _ _ _ b s (-1) _ ⟨(F76.at 7 rfl : Sl accEnc 6 lo hi _ (.slice aa b.accs.length ak) b.accs), (F76.at 6 rfl : Sl mvEnc 4 lo hi _ (.slice ma b.mvs.length mk) b.mvs)⟩ HOK.out (by first | omega | (simp; omega)) hs8).mono ?_
          rintro e w79 ⟨rfl, hg77⟩
          have hg77s := hg77.size
          (try simp at hg77s)
          have F80 := F76.gn hg77
          clear F76
          clear hg77
          cases c81 : losesB b s (-1)
          · skip
            have c81H := Lib.hid c81
            have b82 := F80.bx2 0 rfl
            have b83 := F80.bx2 1 rfl
            have b84 := F80.bx2 2 rfl
            have b85 := F80.bx2 5 rfl
            go_wp2_with fail
            clear b82 b83 b84 b85
            have F86 := (F80.set 1 (.int .i64 (min ((rnarF b k s).hi) (((outS b s (k : Int)).hi) - ((inS b s (k : Int)).lo))))).nf #[.int .i64 (max ((rnarF b k s).lo) (((outS b s (k : Int)).lo) - ((inS b s (k : Int)).hi))), .int .i64 (min ((rnarF b k s).hi) (((outS b s (k : Int)).hi) - ((inS b s (k : Int)).lo)))] rfl
            clear F80
            refine (rleaves_c _ _ _ _ b s k _ ⟨(F86.at 7 rfl : Sl accEnc 6 lo hi _ (.slice aa b.accs.length ak) b.accs), (F86.at 6 rfl : Sl mvEnc 4 lo hi _ (.slice ma b.mvs.length mk) b.mvs)⟩ (by first | omega | (simp; omega)) HOK.out hs8 hk).mono ?_
            rintro e w89 ⟨rfl, hg87⟩
            have hg87s := hg87.size
            (try simp at hg87s)
            have F90 := F86.gn hg87
            clear F86
            clear hg87
            go_wp2_with fail
            have hN_ : rnarF b k (s + 1) = ⟨max ((rnarF b k s).lo) (((outS b s (k : Int)).lo) - ((inS b s (k : Int)).hi)), min ((rnarF b k s).hi) (((outS b s (k : Int)).hi) - ((inS b s (k : Int)).lo))⟩ := by rw [rnarF, if_neg (by omega)]; simp [rst1, rst2, c42, hle_, c81]
            have hlo_ : max ((rnarF b k s).lo) (((outS b s (k : Int)).lo) - ((inS b s (k : Int)).hi)) = (rnarF b k (s + 1)).lo := by rw [hN_]
            have hhi_ : min ((rnarF b k s).hi) (((outS b s (k : Int)).hi) - ((inS b s (k : Int)).lo)) = (rnarF b k (s + 1)).hi := by rw [hN_]
            have F92 := (F90.nf #[.int .i64 (rnarF b k (s + 1)).lo, .int .i64 (rnarF b k (s + 1)).hi] (by rw [hlo_, hhi_]))
            clear F90
            clear hN_ hlo_ hhi_
            have F93 : Bun w [rbox w8.heap.size 40 #[.int .i64 (rnarF b k (s + 1)).lo, .int .i64 (rnarF b k (s + 1)).hi], rsl spEnc 2 lo_s hi_s (.slice (some ⟨x10, o11, none⟩) (spansL b).length sc) (spansL b), rbox (w.heap.size + 1) 40 #[.int .i64 0, .int .i64 0], rbox w.heap.size 25 #[.slice aa b.accs.length ak, .slice ma b.mvs.length mk], rsl mvEnc 4 lo hi (.slice ma b.mvs.length mk) b.mvs, rsl accEnc 6 lo hi (.slice aa b.accs.length ak) b.accs] _ := F92.pick [0, 3, 4, 5, 6, 7] (by decide) rfl
            clear F92
            (first | refine ⟨by kernel_rfl, ?_, ?_⟩ | refine ⟨rfl, ?_, ?_⟩ | refine ⟨?_, ?_⟩)
            · rw [HI17.out]; exact ⟨s + 1, (by first | kernel_rfl | rfl), (by first | kernel_rfl | rfl), (by first | kernel_rfl | rfl), (by first | kernel_rfl | rfl), (by show Value.int .i64 ((s : Int) + 1) = _; simp), (by omega), (by omega), (by first | rfl | simp), (by first | omega | (simp; done) | (simp; omega)), F93⟩
            · simp [slot, intOf]; omega
          · skip
            have c81H := Lib.hid c81
            have b94 := F80.bx2 5 rfl
            go_wp2_with fail
            clear b94
            refine (rleaves_c _ _ _ _ b s k _ ⟨(F80.at 7 rfl : Sl accEnc 6 lo hi _ (.slice aa b.accs.length ak) b.accs), (F80.at 6 rfl : Sl mvEnc 4 lo hi _ (.slice ma b.mvs.length mk) b.mvs)⟩ (by first | omega | (simp; omega)) HOK.out hs8 hk).mono ?_
            rintro e w97 ⟨rfl, hg95⟩
            have hg95s := hg95.size
            (try simp at hg95s)
            have F98 := F80.gn hg95
            clear F80
            clear hg95
            go_wp2_with fail
            have hN_ : rnarF b k (s + 1) = ⟨max ((rnarF b k s).lo) (((outS b s (k : Int)).lo) - ((inS b s (k : Int)).hi)), (rnarF b k s).hi⟩ := by rw [rnarF, if_neg (by omega)]; simp [rst1, rst2, c42, hle_, c81]
            have hlo_ : max ((rnarF b k s).lo) (((outS b s (k : Int)).lo) - ((inS b s (k : Int)).hi)) = (rnarF b k (s + 1)).lo := by rw [hN_]
            have hhi_ : (rnarF b k s).hi = (rnarF b k (s + 1)).hi := by rw [hN_]
            have F100 := (F98.nf #[.int .i64 (rnarF b k (s + 1)).lo, .int .i64 (rnarF b k (s + 1)).hi] (by rw [hlo_, hhi_]))
            clear F98
            clear hN_ hlo_ hhi_
            have F101 : Bun w [rbox w8.heap.size 40 #[.int .i64 (rnarF b k (s + 1)).lo, .int .i64 (rnarF b k (s + 1)).hi], rsl spEnc 2 lo_s hi_s (.slice (some ⟨x10, o11, none⟩) (spansL b).length sc) (spansL b), rbox (w.heap.size + 1) 40 #[.int .i64 0, .int .i64 0], rbox w.heap.size 25 #[.slice aa b.accs.length ak, .slice ma b.mvs.length mk], rsl mvEnc 4 lo hi (.slice ma b.mvs.length mk) b.mvs, rsl accEnc 6 lo hi (.slice aa b.accs.length ak) b.accs] _ := F100.pick [0, 3, 4, 5, 6, 7] (by decide) rfl
            clear F100
            (first | refine ⟨by kernel_rfl, ?_, ?_⟩ | refine ⟨rfl, ?_, ?_⟩ | refine ⟨?_, ?_⟩)
            · rw [HI17.out]; exact ⟨s + 1, (by first | kernel_rfl | rfl), (by first | kernel_rfl | rfl), (by first | kernel_rfl | rfl), (by first | kernel_rfl | rfl), (by show Value.int .i64 ((s : Int) + 1) = _; simp), (by omega), (by omega), (by first | rfl | simp), (by first | omega | (simp; done) | (simp; omega)), F101⟩
            · simp [slot, intOf]; omega
      intro hZ30
      refine ru_state 81 (fun t w_ => ∃ (yg8 : Nat) (yg9 : Nat), t 1 = .int .i64 (k : Int) ∧ t 2 = .pointer (some ⟨w.heap.size, 0, none⟩) ∧ t 4 = .pointer (some ⟨w.heap.size + 1, 0, none⟩) ∧ t 5 = .pointer (some ⟨w8.heap.size, 0, none⟩) ∧ t 6 = .int .i64 (s : Int) ∧ t 7 = .pointer (some ⟨yg8, 0, none⟩) ∧ t 8 = .pointer (some ⟨yg9, 0, none⟩) ∧ t 27 = .agg #[.int .i64 ((outS b s (k : Int)).lo), .int .i64 ((outS b s (k : Int)).hi)] ∧ w24.heap.size ≤ w_.heap.size ∧ Bun w [rbox yg8 40 #[.int .i64 ((inS b s (k : Int)).lo), .int .i64 ((inS b s (k : Int)).hi)], rbox yg9 40 #[.int .i64 0, .int .i64 0], rbox w8.heap.size 40 #[.int .i64 (rnarF b k s).lo, .int .i64 (rnarF b k s).hi], rsl spEnc 2 lo_s hi_s (.slice (some ⟨x10, o11, none⟩) (spansL b).length sc) (spansL b), rbox (w.heap.size + 1) 40 #[.int .i64 0, .int .i64 0], rbox w.heap.size 25 #[.slice aa b.accs.length ak, .slice ma b.mvs.length mk], rsl mvEnc 4 lo hi (.slice ma b.mvs.length mk) b.mvs, rsl accEnc 6 lo hi (.slice aa b.accs.length ak) b.accs] w_) #[true, true, true, true, true, true, true, true, true, true, true, false] 1 ?st102 ?nx102
      case st102 =>
        rintro t w103 ⟨yg8, yg9, e1, e2, e4, e5, e6, e7, e8, e27, hsz102, F104⟩
        clear F27
        rw [rng_rnar_n t, e1, e2, e4, e5, e6, e7, e8, e27]
        clear e1 e2 e4 e5 e6 e7 e8 e27
        have hws102 := F104.gb.size
        have yg8l := F104.ltAt 0 rfl yg8 rfl
        have yg8b := yg8l.2 rfl
        have yg9l := F104.ltAt 1 rfl yg9 rfl
        have yg9b := yg9l.2 rfl
        refine ru_one 11 rfl (by kernel_rfl) (fun K hK => ?_)
        have kb_ := F104.bx2 1 rfl
        go_simp
        clear kb_
        have F105 := (F104.front 1 rfl rfl).pt2 (.int .i64 ((outS b s (k : Int)).lo)) (.int .i64 ((outS b s (k : Int)).hi))
        clear F104
        refine ru_back_late hK (by kernel_rfl) ?_
        exact hZ30.out _ _ _ (by kernel_rfl) (by kernel_rfl) rfl ⟨yg8, yg9, (by kernel_rfl), (by kernel_rfl), (by kernel_rfl), (by kernel_rfl), (by kernel_rfl), (by kernel_rfl), (by kernel_rfl), (by first | omega | (simp; done) | (simp; omega)), F105⟩
      intro hZ102
      refine ru_state 81 (fun t w_ => ∃ (yg8 : Nat) (yg9 : Nat), t 1 = .int .i64 (k : Int) ∧ t 2 = .pointer (some ⟨w.heap.size, 0, none⟩) ∧ t 4 = .pointer (some ⟨w.heap.size + 1, 0, none⟩) ∧ t 5 = .pointer (some ⟨w8.heap.size, 0, none⟩) ∧ t 6 = .int .i64 (s : Int) ∧ t 7 = .pointer (some ⟨yg8, 0, none⟩) ∧ t 8 = .pointer (some ⟨yg9, 0, none⟩) ∧ t 23 = .agg #[.int .i64 ((inS b s (k : Int)).lo), .int .i64 ((inS b s (k : Int)).hi)] ∧ t 27 = .agg #[.int .i64 ((outS b s (k : Int)).lo), .int .i64 ((outS b s (k : Int)).hi)] ∧ w24.heap.size ≤ w_.heap.size ∧ Bun w [rbox yg9 40 #[.int .i64 0, .int .i64 0], rbox yg8 40 #[.int .i64 0, .int .i64 0], rbox w8.heap.size 40 #[.int .i64 (rnarF b k s).lo, .int .i64 (rnarF b k s).hi], rsl spEnc 2 lo_s hi_s (.slice (some ⟨x10, o11, none⟩) (spansL b).length sc) (spansL b), rbox (w.heap.size + 1) 40 #[.int .i64 0, .int .i64 0], rbox w.heap.size 25 #[.slice aa b.accs.length ak, .slice ma b.mvs.length mk], rsl mvEnc 4 lo hi (.slice ma b.mvs.length mk) b.mvs, rsl accEnc 6 lo hi (.slice aa b.accs.length ak) b.accs] w_) #[true, true, true, true, true, true, true, true, true, true, false, false] 2 ?st106 ?nx106
      case st106 =>
        rintro t w107 ⟨yg8, yg9, e1, e2, e4, e5, e6, e7, e8, e23, e27, hsz106, F108⟩
        clear F27
        rw [rng_rnar_n t, e1, e2, e4, e5, e6, e7, e8, e23, e27]
        clear e1 e2 e4 e5 e6 e7 e8 e23 e27
        have hws106 := F108.gb.size
        have yg9l := F108.ltAt 0 rfl yg9 rfl
        have yg9b := yg9l.2 rfl
        have yg8l := F108.ltAt 1 rfl yg8 rfl
        have yg8b := yg8l.2 rfl
        refine ru_one 10 rfl (by kernel_rfl) (fun K hK => ?_)
        have kb_ := F108.bx2 1 rfl
        go_simp
        clear kb_
        have F109 := (F108.front 1 rfl rfl).pt2 (.int .i64 ((inS b s (k : Int)).lo)) (.int .i64 ((inS b s (k : Int)).hi))
        clear F108
        refine ru_back hK (by exact ⟨F109.cl 5 0 rfl rfl, F109.cl 5 1 rfl rfl⟩) (fun _ => ?_)
        exact hZ102.out _ _ _ (by kernel_rfl) (by kernel_rfl) rfl ⟨yg8, yg9, (by kernel_rfl), (by kernel_rfl), (by kernel_rfl), (by kernel_rfl), (by kernel_rfl), (by kernel_rfl), (by kernel_rfl), (by kernel_rfl), (by first | omega | (simp; done) | (simp; omega)), F109⟩
      intro hZ106
      refine ru_state 81 (fun t w_ => ∃ (yg8 : Nat), t 1 = .int .i64 (k : Int) ∧ t 2 = .pointer (some ⟨w.heap.size, 0, none⟩) ∧ t 4 = .pointer (some ⟨w.heap.size + 1, 0, none⟩) ∧ t 5 = .pointer (some ⟨w8.heap.size, 0, none⟩) ∧ t 6 = .int .i64 (s : Int) ∧ t 7 = .pointer (some ⟨yg8, 0, none⟩) ∧ t 23 = .agg #[.int .i64 ((inS b s (k : Int)).lo), .int .i64 ((inS b s (k : Int)).hi)] ∧ t 27 = .agg #[.int .i64 ((outS b s (k : Int)).lo), .int .i64 ((outS b s (k : Int)).hi)] ∧ w24.heap.size ≤ w_.heap.size ∧ Bun w [rbox yg8 40 #[.int .i64 0, .int .i64 0], rbox w8.heap.size 40 #[.int .i64 (rnarF b k s).lo, .int .i64 (rnarF b k s).hi], rsl spEnc 2 lo_s hi_s (.slice (some ⟨x10, o11, none⟩) (spansL b).length sc) (spansL b), rbox (w.heap.size + 1) 40 #[.int .i64 0, .int .i64 0], rbox w.heap.size 25 #[.slice aa b.accs.length ak, .slice ma b.mvs.length mk], rsl mvEnc 4 lo hi (.slice ma b.mvs.length mk) b.mvs, rsl accEnc 6 lo hi (.slice aa b.accs.length ak) b.accs] w_) #[true, true, true, true, true, true, true, true, true, false, false, false] 3 ?st110 ?nx110
      case st110 =>
        rintro t w111 ⟨yg8, e1, e2, e4, e5, e6, e7, e23, e27, hsz110, F112⟩
        clear F27
        rw [rng_rnar_n t, e1, e2, e4, e5, e6, e7, e23, e27]
        clear e1 e2 e4 e5 e6 e7 e23 e27
        have hws110 := F112.gb.size
        have yg8l := F112.ltAt 0 rfl yg8 rfl
        have yg8b := yg8l.2 rfl
        refine ru_one 9 rfl (by kernel_rfl) (fun K hK => ?_)
        go_simp
        have F113 := F112.new 40 #[.int .i64 0, .int .i64 0] (n := w111.heap.size) (by simp)
        clear F112
        refine ru_back hK (by exact ⟨F113.cl 5 0 rfl rfl, F113.cl 5 1 rfl rfl⟩) (fun _ => ?_)
        exact hZ106.out _ _ _ (by kernel_rfl) (by kernel_rfl) rfl ⟨yg8, w111.heap.size, (by kernel_rfl), (by kernel_rfl), (by kernel_rfl), (by kernel_rfl), (by kernel_rfl), (by kernel_rfl), (by kernel_rfl), (by kernel_rfl), (by kernel_rfl), (by first | omega | (simp; done) | (simp; omega)), F113⟩
      intro hZ110
      refine ru_state 81 (fun t w_ => ∃ (yg9 : Nat), t 1 = .int .i64 (k : Int) ∧ t 2 = .pointer (some ⟨w.heap.size, 0, none⟩) ∧ t 4 = .pointer (some ⟨w.heap.size + 1, 0, none⟩) ∧ t 5 = .pointer (some ⟨w8.heap.size, 0, none⟩) ∧ t 6 = .int .i64 (s : Int) ∧ t 8 = .pointer (some ⟨yg9, 0, none⟩) ∧ t 23 = .agg #[.int .i64 ((inS b s (k : Int)).lo), .int .i64 ((inS b s (k : Int)).hi)] ∧ t 27 = .agg #[.int .i64 ((outS b s (k : Int)).lo), .int .i64 ((outS b s (k : Int)).hi)] ∧ w24.heap.size ≤ w_.heap.size ∧ Bun w [rbox yg9 40 #[.int .i64 0, .int .i64 0], rbox w8.heap.size 40 #[.int .i64 (rnarF b k s).lo, .int .i64 (rnarF b k s).hi], rsl spEnc 2 lo_s hi_s (.slice (some ⟨x10, o11, none⟩) (spansL b).length sc) (spansL b), rbox (w.heap.size + 1) 40 #[.int .i64 0, .int .i64 0], rbox w.heap.size 25 #[.slice aa b.accs.length ak, .slice ma b.mvs.length mk], rsl mvEnc 4 lo hi (.slice ma b.mvs.length mk) b.mvs, rsl accEnc 6 lo hi (.slice aa b.accs.length ak) b.accs] w_) #[true, true, true, true, true, true, true, true, false, true, false, false] 3 ?st114 ?nx114
      case st114 =>
        rintro t w115 ⟨yg9, e1, e2, e4, e5, e6, e8, e23, e27, hsz114, F116⟩
        clear F27
        rw [rng_rnar_n t, e1, e2, e4, e5, e6, e8, e23, e27]
        clear e1 e2 e4 e5 e6 e8 e23 e27
        have hws114 := F116.gb.size
        have yg9l := F116.ltAt 0 rfl yg9 rfl
        have yg9b := yg9l.2 rfl
        refine ru_one 8 rfl (by kernel_rfl) (fun K hK => ?_)
        go_simp
        have F117 := F116.new 40 #[.int .i64 0, .int .i64 0] (n := w115.heap.size) (by simp)
        clear F116
        refine ru_back hK (by exact ⟨F117.cl 5 0 rfl rfl, F117.cl 5 1 rfl rfl⟩) (fun _ => ?_)
        have F118 : Bun w [rbox yg9 40 #[.int .i64 0, .int .i64 0], rbox w115.heap.size 40 #[.int .i64 0, .int .i64 0], rbox w8.heap.size 40 #[.int .i64 (rnarF b k s).lo, .int .i64 (rnarF b k s).hi], rsl spEnc 2 lo_s hi_s (.slice (some ⟨x10, o11, none⟩) (spansL b).length sc) (spansL b), rbox (w.heap.size + 1) 40 #[.int .i64 0, .int .i64 0], rbox w.heap.size 25 #[.slice aa b.accs.length ak, .slice ma b.mvs.length mk], rsl mvEnc 4 lo hi (.slice ma b.mvs.length mk) b.mvs, rsl accEnc 6 lo hi (.slice aa b.accs.length ak) b.accs] _ := F117.pick [1, 0, 2, 3, 4, 5, 6, 7] (by decide) rfl
        clear F117
        exact hZ106.out _ _ _ (by kernel_rfl) (by kernel_rfl) rfl ⟨w115.heap.size, yg9, (by kernel_rfl), (by kernel_rfl), (by kernel_rfl), (by kernel_rfl), (by kernel_rfl), (by kernel_rfl), (by kernel_rfl), (by kernel_rfl), (by kernel_rfl), (by first | omega | (simp; done) | (simp; omega)), F118⟩
      intro hZ114
      refine ru_state 81 (fun t w_ => ∃ (yg8 : Nat) (yg9 : Nat), t 1 = .int .i64 (k : Int) ∧ t 2 = .pointer (some ⟨w.heap.size, 0, none⟩) ∧ t 4 = .pointer (some ⟨w.heap.size + 1, 0, none⟩) ∧ t 5 = .pointer (some ⟨w8.heap.size, 0, none⟩) ∧ t 6 = .int .i64 (s : Int) ∧ t 7 = .pointer (some ⟨yg8, 0, none⟩) ∧ t 8 = .pointer (some ⟨yg9, 0, none⟩) ∧ t 23 = .agg #[.int .i64 ((inS b s (k : Int)).lo), .int .i64 ((inS b s (k : Int)).hi)] ∧ t 24 = .agg #[.slice aa b.accs.length ak, .slice ma b.mvs.length mk] ∧ t 25 = .int .i64 (s : Int) ∧ t 26 = .int .i64 (k : Int) ∧ w24.heap.size ≤ w_.heap.size ∧ Bun w [rbox yg9 40 #[.int .i64 0, .int .i64 0], rbox yg8 40 #[.int .i64 0, .int .i64 0], rbox w8.heap.size 40 #[.int .i64 (rnarF b k s).lo, .int .i64 (rnarF b k s).hi], rsl spEnc 2 lo_s hi_s (.slice (some ⟨x10, o11, none⟩) (spansL b).length sc) (spansL b), rbox (w.heap.size + 1) 40 #[.int .i64 0, .int .i64 0], rbox w.heap.size 25 #[.slice aa b.accs.length ak, .slice ma b.mvs.length mk], rsl mvEnc 4 lo hi (.slice ma b.mvs.length mk) b.mvs, rsl accEnc 6 lo hi (.slice aa b.accs.length ak) b.accs] w_) #[true, true, true, true, true, true, true, false, true, true, false, false] 3 ?st119 ?nx119
      case st119 =>
        rintro t w120 ⟨yg8, yg9, e1, e2, e4, e5, e6, e7, e8, e23, e24, e25, e26, hsz119, F121⟩
        clear F27
        rw [rng_rnar_n t, e1, e2, e4, e5, e6, e7, e8, e23, e24, e25, e26]
        clear e1 e2 e4 e5 e6 e7 e8 e23 e24 e25 e26
        have hws119 := F121.gb.size
        have yg9l := F121.ltAt 0 rfl yg9 rfl
        have yg9b := yg9l.2 rfl
        have yg8l := F121.ltAt 1 rfl yg8 rfl
        have yg8b := yg8l.2 rfl
        refine ru_one 7 rfl (by kernel_rfl) (fun K hK => ?_)
        go_simp
        refine (rout_s _ _ _ _ b s (k : Int) _ ⟨(F121.at 7 rfl : Sl accEnc 6 lo hi _ (.slice aa b.accs.length ak) b.accs), (F121.at 6 rfl : Sl mvEnc 4 lo hi _ (.slice ma b.mvs.length mk) b.mvs)⟩ HOK.out (by first | omega | (simp; omega)) hs8).mono ?_
        rintro e w124 ⟨rfl, hg122⟩
        have hg122s := hg122.size
        (try simp at hg122s)
        have F125 := F121.gn hg122
        clear F121
        refine ru_back hK (by exact ⟨F125.cl 5 0 rfl rfl, F125.cl 5 1 rfl rfl⟩) (fun _ => ?_)
        exact hZ106.out _ _ _ (by kernel_rfl) (by kernel_rfl) rfl ⟨yg8, yg9, (by kernel_rfl), (by kernel_rfl), (by kernel_rfl), (by kernel_rfl), (by kernel_rfl), (by kernel_rfl), (by kernel_rfl), (by kernel_rfl), (by kernel_rfl), (by first | omega | (simp; done) | (simp; omega)), F125⟩
      intro hZ119
      refine ru_state 81 (fun t w_ => t 1 = .int .i64 (k : Int) ∧ t 2 = .pointer (some ⟨w.heap.size, 0, none⟩) ∧ t 4 = .pointer (some ⟨w.heap.size + 1, 0, none⟩) ∧ t 5 = .pointer (some ⟨w8.heap.size, 0, none⟩) ∧ t 6 = .int .i64 (s : Int) ∧ t 23 = .agg #[.int .i64 ((inS b s (k : Int)).lo), .int .i64 ((inS b s (k : Int)).hi)] ∧ t 27 = .agg #[.int .i64 ((outS b s (k : Int)).lo), .int .i64 ((outS b s (k : Int)).hi)] ∧ w24.heap.size ≤ w_.heap.size ∧ Bun w [rbox w8.heap.size 40 #[.int .i64 (rnarF b k s).lo, .int .i64 (rnarF b k s).hi], rsl spEnc 2 lo_s hi_s (.slice (some ⟨x10, o11, none⟩) (spansL b).length sc) (spansL b), rbox (w.heap.size + 1) 40 #[.int .i64 0, .int .i64 0], rbox w.heap.size 25 #[.slice aa b.accs.length ak, .slice ma b.mvs.length mk], rsl mvEnc 4 lo hi (.slice ma b.mvs.length mk) b.mvs, rsl accEnc 6 lo hi (.slice aa b.accs.length ak) b.accs] w_) #[true, true, true, true, true, true, true, true, false, false, false, false] 4 ?st126 ?nx126
      case st126 =>
        rintro t w127 ⟨e1, e2, e4, e5, e6, e23, e27, hsz126, F128⟩
        clear F27
        rw [rng_rnar_n t, e1, e2, e4, e5, e6, e23, e27]
        clear e1 e2 e4 e5 e6 e23 e27
        have hws126 := F128.gb.size
        refine ru_two 8 9 rfl rfl (by kernel_rfl) ?_ ?_
        · intro K hK
          go_simp
          have F129 := F128.new 40 #[.int .i64 0, .int .i64 0] (n := w127.heap.size) (by simp)
          clear F128
          refine ru_back hK (by exact ⟨F129.cl 4 0 rfl rfl, F129.cl 4 1 rfl rfl⟩) (fun _ => ?_)
          exact hZ110.out _ _ _ (by kernel_rfl) (by kernel_rfl) rfl ⟨w127.heap.size, (by kernel_rfl), (by kernel_rfl), (by kernel_rfl), (by kernel_rfl), (by kernel_rfl), (by kernel_rfl), (by kernel_rfl), (by kernel_rfl), (by first | omega | (simp; done) | (simp; omega)), F129⟩
        · intro K hK
          go_simp
          have F130 := F128.new 40 #[.int .i64 0, .int .i64 0] (n := w127.heap.size) (by simp)
          clear F128
          refine ru_back hK (by exact ⟨F130.cl 4 0 rfl rfl, F130.cl 4 1 rfl rfl⟩) (fun _ => ?_)
          exact hZ114.out _ _ _ (by kernel_rfl) (by kernel_rfl) rfl ⟨w127.heap.size, (by kernel_rfl), (by kernel_rfl), (by kernel_rfl), (by kernel_rfl), (by kernel_rfl), (by kernel_rfl), (by kernel_rfl), (by kernel_rfl), (by first | omega | (simp; done) | (simp; omega)), F130⟩
      intro hZ126
      refine ru_state 81 (fun t w_ => ∃ (yg8 : Nat), t 1 = .int .i64 (k : Int) ∧ t 2 = .pointer (some ⟨w.heap.size, 0, none⟩) ∧ t 4 = .pointer (some ⟨w.heap.size + 1, 0, none⟩) ∧ t 5 = .pointer (some ⟨w8.heap.size, 0, none⟩) ∧ t 6 = .int .i64 (s : Int) ∧ t 7 = .pointer (some ⟨yg8, 0, none⟩) ∧ t 23 = .agg #[.int .i64 ((inS b s (k : Int)).lo), .int .i64 ((inS b s (k : Int)).hi)] ∧ t 24 = .agg #[.slice aa b.accs.length ak, .slice ma b.mvs.length mk] ∧ t 25 = .int .i64 (s : Int) ∧ t 26 = .int .i64 (k : Int) ∧ w24.heap.size ≤ w_.heap.size ∧ Bun w [rbox yg8 40 #[.int .i64 0, .int .i64 0], rbox w8.heap.size 40 #[.int .i64 (rnarF b k s).lo, .int .i64 (rnarF b k s).hi], rsl spEnc 2 lo_s hi_s (.slice (some ⟨x10, o11, none⟩) (spansL b).length sc) (spansL b), rbox (w.heap.size + 1) 40 #[.int .i64 0, .int .i64 0], rbox w.heap.size 25 #[.slice aa b.accs.length ak, .slice ma b.mvs.length mk], rsl mvEnc 4 lo hi (.slice ma b.mvs.length mk) b.mvs, rsl accEnc 6 lo hi (.slice aa b.accs.length ak) b.accs] w_) #[true, true, true, true, true, true, true, false, true, false, false, false] 4 ?st131 ?nx131
      case st131 =>
        rintro t w132 ⟨yg8, e1, e2, e4, e5, e6, e7, e23, e24, e25, e26, hsz131, F133⟩
        clear F27
        rw [rng_rnar_n t, e1, e2, e4, e5, e6, e7, e23, e24, e25, e26]
        clear e1 e2 e4 e5 e6 e7 e23 e24 e25 e26
        have hws131 := F133.gb.size
        have yg8l := F133.ltAt 0 rfl yg8 rfl
        have yg8b := yg8l.2 rfl
        refine ru_two 7 9 rfl rfl (by kernel_rfl) ?_ ?_
        · intro K hK
          go_simp
          refine (rout_s _ _ _ _ b s (k : Int) _ ⟨(F133.at 6 rfl : Sl accEnc 6 lo hi _ (.slice aa b.accs.length ak) b.accs), (F133.at 5 rfl : Sl mvEnc 4 lo hi _ (.slice ma b.mvs.length mk) b.mvs)⟩ HOK.out (by first | omega | (simp; omega)) hs8).mono ?_
          rintro e w136 ⟨rfl, hg134⟩
          have hg134s := hg134.size
          (try simp at hg134s)
          have F137 := F133.gn hg134
          clear F133
          refine ru_back hK (by exact ⟨F137.cl 4 0 rfl rfl, F137.cl 4 1 rfl rfl⟩) (fun _ => ?_)
          exact hZ110.out _ _ _ (by kernel_rfl) (by kernel_rfl) rfl ⟨yg8, (by kernel_rfl), (by kernel_rfl), (by kernel_rfl), (by kernel_rfl), (by kernel_rfl), (by kernel_rfl), (by kernel_rfl), (by kernel_rfl), (by first | omega | (simp; done) | (simp; omega)), F137⟩
        · intro K hK
          go_simp
          have F138 := F133.new 40 #[.int .i64 0, .int .i64 0] (n := w132.heap.size) (by simp)
          clear F133
          refine ru_back hK (by exact ⟨F138.cl 5 0 rfl rfl, F138.cl 5 1 rfl rfl⟩) (fun _ => ?_)
          exact hZ119.out _ _ _ (by kernel_rfl) (by kernel_rfl) rfl ⟨yg8, w132.heap.size, (by kernel_rfl), (by kernel_rfl), (by kernel_rfl), (by kernel_rfl), (by kernel_rfl), (by kernel_rfl), (by kernel_rfl), (by kernel_rfl), (by kernel_rfl), (by kernel_rfl), (by kernel_rfl), (by first | omega | (simp; done) | (simp; omega)), F138⟩
      intro hZ131
      refine ru_state 81 (fun t w_ => ∃ (yg9 : Nat), t 1 = .int .i64 (k : Int) ∧ t 2 = .pointer (some ⟨w.heap.size, 0, none⟩) ∧ t 4 = .pointer (some ⟨w.heap.size + 1, 0, none⟩) ∧ t 5 = .pointer (some ⟨w8.heap.size, 0, none⟩) ∧ t 6 = .int .i64 (s : Int) ∧ t 8 = .pointer (some ⟨yg9, 0, none⟩) ∧ t 23 = .agg #[.int .i64 ((inS b s (k : Int)).lo), .int .i64 ((inS b s (k : Int)).hi)] ∧ t 24 = .agg #[.slice aa b.accs.length ak, .slice ma b.mvs.length mk] ∧ t 25 = .int .i64 (s : Int) ∧ t 26 = .int .i64 (k : Int) ∧ w24.heap.size ≤ w_.heap.size ∧ Bun w [rbox yg9 40 #[.int .i64 0, .int .i64 0], rbox w8.heap.size 40 #[.int .i64 (rnarF b k s).lo, .int .i64 (rnarF b k s).hi], rsl spEnc 2 lo_s hi_s (.slice (some ⟨x10, o11, none⟩) (spansL b).length sc) (spansL b), rbox (w.heap.size + 1) 40 #[.int .i64 0, .int .i64 0], rbox w.heap.size 25 #[.slice aa b.accs.length ak, .slice ma b.mvs.length mk], rsl mvEnc 4 lo hi (.slice ma b.mvs.length mk) b.mvs, rsl accEnc 6 lo hi (.slice aa b.accs.length ak) b.accs] w_) #[true, true, true, true, true, true, true, false, false, true, false, false] 4 ?st139 ?nx139
      case st139 =>
        rintro t w140 ⟨yg9, e1, e2, e4, e5, e6, e8, e23, e24, e25, e26, hsz139, F141⟩
        clear F27
        rw [rng_rnar_n t, e1, e2, e4, e5, e6, e8, e23, e24, e25, e26]
        clear e1 e2 e4 e5 e6 e8 e23 e24 e25 e26
        have hws139 := F141.gb.size
        have yg9l := F141.ltAt 0 rfl yg9 rfl
        have yg9b := yg9l.2 rfl
        refine ru_two 7 8 rfl rfl (by kernel_rfl) ?_ ?_
        · intro K hK
          go_simp
          refine (rout_s _ _ _ _ b s (k : Int) _ ⟨(F141.at 6 rfl : Sl accEnc 6 lo hi _ (.slice aa b.accs.length ak) b.accs), (F141.at 5 rfl : Sl mvEnc 4 lo hi _ (.slice ma b.mvs.length mk) b.mvs)⟩ HOK.out (by first | omega | (simp; omega)) hs8).mono ?_
          rintro e w144 ⟨rfl, hg142⟩
          have hg142s := hg142.size
          (try simp at hg142s)
          have F145 := F141.gn hg142
          clear F141
          refine ru_back hK (by exact ⟨F145.cl 4 0 rfl rfl, F145.cl 4 1 rfl rfl⟩) (fun _ => ?_)
          exact hZ114.out _ _ _ (by kernel_rfl) (by kernel_rfl) rfl ⟨yg9, (by kernel_rfl), (by kernel_rfl), (by kernel_rfl), (by kernel_rfl), (by kernel_rfl), (by kernel_rfl), (by kernel_rfl), (by kernel_rfl), (by first | omega | (simp; done) | (simp; omega)), F145⟩
        · intro K hK
          go_simp
          have F146 := F141.new 40 #[.int .i64 0, .int .i64 0] (n := w140.heap.size) (by simp)
          clear F141
          refine ru_back hK (by exact ⟨F146.cl 5 0 rfl rfl, F146.cl 5 1 rfl rfl⟩) (fun _ => ?_)
          have F147 : Bun w [rbox yg9 40 #[.int .i64 0, .int .i64 0], rbox w140.heap.size 40 #[.int .i64 0, .int .i64 0], rbox w8.heap.size 40 #[.int .i64 (rnarF b k s).lo, .int .i64 (rnarF b k s).hi], rsl spEnc 2 lo_s hi_s (.slice (some ⟨x10, o11, none⟩) (spansL b).length sc) (spansL b), rbox (w.heap.size + 1) 40 #[.int .i64 0, .int .i64 0], rbox w.heap.size 25 #[.slice aa b.accs.length ak, .slice ma b.mvs.length mk], rsl mvEnc 4 lo hi (.slice ma b.mvs.length mk) b.mvs, rsl accEnc 6 lo hi (.slice aa b.accs.length ak) b.accs] _ := F146.pick [1, 0, 2, 3, 4, 5, 6, 7] (by decide) rfl
          clear F146
          exact hZ119.out _ _ _ (by kernel_rfl) (by kernel_rfl) rfl ⟨w140.heap.size, yg9, (by kernel_rfl), (by kernel_rfl), (by kernel_rfl), (by kernel_rfl), (by kernel_rfl), (by kernel_rfl), (by kernel_rfl), (by kernel_rfl), (by kernel_rfl), (by kernel_rfl), (by kernel_rfl), (by first | omega | (simp; done) | (simp; omega)), F147⟩
      intro hZ139
      refine ru_state 81 (fun t w_ => ∃ (yg8 : Nat) (yg9 : Nat), t 1 = .int .i64 (k : Int) ∧ t 2 = .pointer (some ⟨w.heap.size, 0, none⟩) ∧ t 4 = .pointer (some ⟨w.heap.size + 1, 0, none⟩) ∧ t 5 = .pointer (some ⟨w8.heap.size, 0, none⟩) ∧ t 6 = .int .i64 (s : Int) ∧ t 7 = .pointer (some ⟨yg8, 0, none⟩) ∧ t 8 = .pointer (some ⟨yg9, 0, none⟩) ∧ t 20 = .agg #[.slice aa b.accs.length ak, .slice ma b.mvs.length mk] ∧ t 21 = .int .i64 (s : Int) ∧ t 22 = .int .i64 (k : Int) ∧ t 24 = .agg #[.slice aa b.accs.length ak, .slice ma b.mvs.length mk] ∧ t 25 = .int .i64 (s : Int) ∧ t 26 = .int .i64 (k : Int) ∧ w24.heap.size ≤ w_.heap.size ∧ Bun w [rbox yg9 40 #[.int .i64 0, .int .i64 0], rbox yg8 40 #[.int .i64 0, .int .i64 0], rbox w8.heap.size 40 #[.int .i64 (rnarF b k s).lo, .int .i64 (rnarF b k s).hi], rsl spEnc 2 lo_s hi_s (.slice (some ⟨x10, o11, none⟩) (spansL b).length sc) (spansL b), rbox (w.heap.size + 1) 40 #[.int .i64 0, .int .i64 0], rbox w.heap.size 25 #[.slice aa b.accs.length ak, .slice ma b.mvs.length mk], rsl mvEnc 4 lo hi (.slice ma b.mvs.length mk) b.mvs, rsl accEnc 6 lo hi (.slice aa b.accs.length ak) b.accs] w_) #[true, true, true, false, true, true, true, false, true, true, false, false] 4 ?st148 ?nx148
      case st148 =>
        rintro t w149 ⟨yg8, yg9, e1, e2, e4, e5, e6, e7, e8, e20, e21, e22, e24, e25, e26, hsz148, F150⟩
        clear F27
        rw [rng_rnar_n t, e1, e2, e4, e5, e6, e7, e8, e20, e21, e22, e24, e25, e26]
        clear e1 e2 e4 e5 e6 e7 e8 e20 e21 e22 e24 e25 e26
        have hws148 := F150.gb.size
        have yg9l := F150.ltAt 0 rfl yg9 rfl
        have yg9b := yg9l.2 rfl
        have yg8l := F150.ltAt 1 rfl yg8 rfl
        have yg8b := yg8l.2 rfl
        refine ru_one 3 rfl (by kernel_rfl) (fun K hK => ?_)
        go_simp
        refine (rin_s _ _ _ _ b s (k : Int) _ ⟨(F150.at 7 rfl : Sl accEnc 6 lo hi _ (.slice aa b.accs.length ak) b.accs), (F150.at 6 rfl : Sl mvEnc 4 lo hi _ (.slice ma b.mvs.length mk) b.mvs)⟩ HOK.out (by first | omega | (simp; omega)) hs8).mono ?_
        rintro e w153 ⟨rfl, hg151⟩
        have hg151s := hg151.size
        (try simp at hg151s)
        have F154 := F150.gn hg151
        clear F150
        refine ru_back hK (by exact ⟨F154.cl 5 0 rfl rfl, F154.cl 5 1 rfl rfl⟩) (fun _ => ?_)
        exact hZ119.out _ _ _ (by kernel_rfl) (by kernel_rfl) rfl ⟨yg8, yg9, (by kernel_rfl), (by kernel_rfl), (by kernel_rfl), (by kernel_rfl), (by kernel_rfl), (by kernel_rfl), (by kernel_rfl), (by kernel_rfl), (by kernel_rfl), (by kernel_rfl), (by kernel_rfl), (by first | omega | (simp; done) | (simp; omega)), F154⟩
      intro hZ148
      refine ru_state 81 (fun t w_ => t 1 = .int .i64 (k : Int) ∧ t 2 = .pointer (some ⟨w.heap.size, 0, none⟩) ∧ t 4 = .pointer (some ⟨w.heap.size + 1, 0, none⟩) ∧ t 5 = .pointer (some ⟨w8.heap.size, 0, none⟩) ∧ t 6 = .int .i64 (s : Int) ∧ t 23 = .agg #[.int .i64 ((inS b s (k : Int)).lo), .int .i64 ((inS b s (k : Int)).hi)] ∧ t 24 = .agg #[.slice aa b.accs.length ak, .slice ma b.mvs.length mk] ∧ t 25 = .int .i64 (s : Int) ∧ t 26 = .int .i64 (k : Int) ∧ w24.heap.size ≤ w_.heap.size ∧ Bun w [rbox w8.heap.size 40 #[.int .i64 (rnarF b k s).lo, .int .i64 (rnarF b k s).hi], rsl spEnc 2 lo_s hi_s (.slice (some ⟨x10, o11, none⟩) (spansL b).length sc) (spansL b), rbox (w.heap.size + 1) 40 #[.int .i64 0, .int .i64 0], rbox w.heap.size 25 #[.slice aa b.accs.length ak, .slice ma b.mvs.length mk], rsl mvEnc 4 lo hi (.slice ma b.mvs.length mk) b.mvs, rsl accEnc 6 lo hi (.slice aa b.accs.length ak) b.accs] w_) #[true, true, true, true, true, true, true, false, false, false, false, false] 5 ?st155 ?nx155
      case st155 =>
        rintro t w156 ⟨e1, e2, e4, e5, e6, e23, e24, e25, e26, hsz155, F157⟩
        clear F27
        rw [rng_rnar_n t, e1, e2, e4, e5, e6, e23, e24, e25, e26]
        clear e1 e2 e4 e5 e6 e23 e24 e25 e26
        have hws155 := F157.gb.size
        refine ru_three 7 8 9 rfl rfl rfl (by kernel_rfl) ?_ ?_ ?_
        · intro K hK
          go_simp
          refine (rout_s _ _ _ _ b s (k : Int) _ ⟨(F157.at 5 rfl : Sl accEnc 6 lo hi _ (.slice aa b.accs.length ak) b.accs), (F157.at 4 rfl : Sl mvEnc 4 lo hi _ (.slice ma b.mvs.length mk) b.mvs)⟩ HOK.out (by first | omega | (simp; omega)) hs8).mono ?_
          rintro e w160 ⟨rfl, hg158⟩
          have hg158s := hg158.size
          (try simp at hg158s)
          have F161 := F157.gn hg158
          clear F157
          refine ru_back hK (by exact ⟨F161.cl 3 0 rfl rfl, F161.cl 3 1 rfl rfl⟩) (fun _ => ?_)
          exact hZ126.out _ _ _ (by kernel_rfl) (by kernel_rfl) rfl ⟨(by kernel_rfl), (by kernel_rfl), (by kernel_rfl), (by kernel_rfl), (by kernel_rfl), (by kernel_rfl), (by kernel_rfl), (by first | omega | (simp; done) | (simp; omega)), F161⟩
        · intro K hK
          go_simp
          have F162 := F157.new 40 #[.int .i64 0, .int .i64 0] (n := w156.heap.size) (by simp)
          clear F157
          refine ru_back hK (by exact ⟨F162.cl 4 0 rfl rfl, F162.cl 4 1 rfl rfl⟩) (fun _ => ?_)
          exact hZ131.out _ _ _ (by kernel_rfl) (by kernel_rfl) rfl ⟨w156.heap.size, (by kernel_rfl), (by kernel_rfl), (by kernel_rfl), (by kernel_rfl), (by kernel_rfl), (by kernel_rfl), (by kernel_rfl), (by kernel_rfl), (by kernel_rfl), (by kernel_rfl), (by first | omega | (simp; done) | (simp; omega)), F162⟩
        · intro K hK
          go_simp
          have F163 := F157.new 40 #[.int .i64 0, .int .i64 0] (n := w156.heap.size) (by simp)
          clear F157
          refine ru_back hK (by exact ⟨F163.cl 4 0 rfl rfl, F163.cl 4 1 rfl rfl⟩) (fun _ => ?_)
          exact hZ139.out _ _ _ (by kernel_rfl) (by kernel_rfl) rfl ⟨w156.heap.size, (by kernel_rfl), (by kernel_rfl), (by kernel_rfl), (by kernel_rfl), (by kernel_rfl), (by kernel_rfl), (by kernel_rfl), (by kernel_rfl), (by kernel_rfl), (by kernel_rfl), (by first | omega | (simp; done) | (simp; omega)), F163⟩
      intro hZ155
      refine ru_state 81 (fun t w_ => ∃ (yg8 : Nat), t 1 = .int .i64 (k : Int) ∧ t 2 = .pointer (some ⟨w.heap.size, 0, none⟩) ∧ t 4 = .pointer (some ⟨w.heap.size + 1, 0, none⟩) ∧ t 5 = .pointer (some ⟨w8.heap.size, 0, none⟩) ∧ t 6 = .int .i64 (s : Int) ∧ t 7 = .pointer (some ⟨yg8, 0, none⟩) ∧ t 20 = .agg #[.slice aa b.accs.length ak, .slice ma b.mvs.length mk] ∧ t 21 = .int .i64 (s : Int) ∧ t 22 = .int .i64 (k : Int) ∧ t 24 = .agg #[.slice aa b.accs.length ak, .slice ma b.mvs.length mk] ∧ t 25 = .int .i64 (s : Int) ∧ t 26 = .int .i64 (k : Int) ∧ w24.heap.size ≤ w_.heap.size ∧ Bun w [rbox yg8 40 #[.int .i64 0, .int .i64 0], rbox w8.heap.size 40 #[.int .i64 (rnarF b k s).lo, .int .i64 (rnarF b k s).hi], rsl spEnc 2 lo_s hi_s (.slice (some ⟨x10, o11, none⟩) (spansL b).length sc) (spansL b), rbox (w.heap.size + 1) 40 #[.int .i64 0, .int .i64 0], rbox w.heap.size 25 #[.slice aa b.accs.length ak, .slice ma b.mvs.length mk], rsl mvEnc 4 lo hi (.slice ma b.mvs.length mk) b.mvs, rsl accEnc 6 lo hi (.slice aa b.accs.length ak) b.accs] w_) #[true, true, true, false, true, true, true, false, true, false, false, false] 5 ?st164 ?nx164
      case st164 =>
        rintro t w165 ⟨yg8, e1, e2, e4, e5, e6, e7, e20, e21, e22, e24, e25, e26, hsz164, F166⟩
        clear F27
        rw [rng_rnar_n t, e1, e2, e4, e5, e6, e7, e20, e21, e22, e24, e25, e26]
        clear e1 e2 e4 e5 e6 e7 e20 e21 e22 e24 e25 e26
        have hws164 := F166.gb.size
        have yg8l := F166.ltAt 0 rfl yg8 rfl
        have yg8b := yg8l.2 rfl
        refine ru_two 3 9 rfl rfl (by kernel_rfl) ?_ ?_
        · intro K hK
          go_simp
          refine (rin_s _ _ _ _ b s (k : Int) _ ⟨(F166.at 6 rfl : Sl accEnc 6 lo hi _ (.slice aa b.accs.length ak) b.accs), (F166.at 5 rfl : Sl mvEnc 4 lo hi _ (.slice ma b.mvs.length mk) b.mvs)⟩ HOK.out (by first | omega | (simp; omega)) hs8).mono ?_
          rintro e w169 ⟨rfl, hg167⟩
          have hg167s := hg167.size
          (try simp at hg167s)
          have F170 := F166.gn hg167
          clear F166
          refine ru_back hK (by exact ⟨F170.cl 4 0 rfl rfl, F170.cl 4 1 rfl rfl⟩) (fun _ => ?_)
          exact hZ131.out _ _ _ (by kernel_rfl) (by kernel_rfl) rfl ⟨yg8, (by kernel_rfl), (by kernel_rfl), (by kernel_rfl), (by kernel_rfl), (by kernel_rfl), (by kernel_rfl), (by kernel_rfl), (by kernel_rfl), (by kernel_rfl), (by kernel_rfl), (by first | omega | (simp; done) | (simp; omega)), F170⟩
        · intro K hK
          go_simp
          have F171 := F166.new 40 #[.int .i64 0, .int .i64 0] (n := w165.heap.size) (by simp)
          clear F166
          refine ru_back hK (by exact ⟨F171.cl 5 0 rfl rfl, F171.cl 5 1 rfl rfl⟩) (fun _ => ?_)
          exact hZ148.out _ _ _ (by kernel_rfl) (by kernel_rfl) rfl ⟨yg8, w165.heap.size, (by kernel_rfl), (by kernel_rfl), (by kernel_rfl), (by kernel_rfl), (by kernel_rfl), (by kernel_rfl), (by kernel_rfl), (by kernel_rfl), (by kernel_rfl), (by kernel_rfl), (by kernel_rfl), (by kernel_rfl), (by kernel_rfl), (by first | omega | (simp; done) | (simp; omega)), F171⟩
      intro hZ164
      refine ru_state 81 (fun t w_ => ∃ (yg9 : Nat), t 1 = .int .i64 (k : Int) ∧ t 2 = .pointer (some ⟨w.heap.size, 0, none⟩) ∧ t 4 = .pointer (some ⟨w.heap.size + 1, 0, none⟩) ∧ t 5 = .pointer (some ⟨w8.heap.size, 0, none⟩) ∧ t 6 = .int .i64 (s : Int) ∧ t 8 = .pointer (some ⟨yg9, 0, none⟩) ∧ t 20 = .agg #[.slice aa b.accs.length ak, .slice ma b.mvs.length mk] ∧ t 21 = .int .i64 (s : Int) ∧ t 22 = .int .i64 (k : Int) ∧ t 24 = .agg #[.slice aa b.accs.length ak, .slice ma b.mvs.length mk] ∧ t 25 = .int .i64 (s : Int) ∧ t 26 = .int .i64 (k : Int) ∧ w24.heap.size ≤ w_.heap.size ∧ Bun w [rbox yg9 40 #[.int .i64 0, .int .i64 0], rbox w8.heap.size 40 #[.int .i64 (rnarF b k s).lo, .int .i64 (rnarF b k s).hi], rsl spEnc 2 lo_s hi_s (.slice (some ⟨x10, o11, none⟩) (spansL b).length sc) (spansL b), rbox (w.heap.size + 1) 40 #[.int .i64 0, .int .i64 0], rbox w.heap.size 25 #[.slice aa b.accs.length ak, .slice ma b.mvs.length mk], rsl mvEnc 4 lo hi (.slice ma b.mvs.length mk) b.mvs, rsl accEnc 6 lo hi (.slice aa b.accs.length ak) b.accs] w_) #[true, true, true, false, true, true, true, false, false, true, false, false] 5 ?st172 ?nx172
      case st172 =>
        rintro t w173 ⟨yg9, e1, e2, e4, e5, e6, e8, e20, e21, e22, e24, e25, e26, hsz172, F174⟩
        clear F27
        rw [rng_rnar_n t, e1, e2, e4, e5, e6, e8, e20, e21, e22, e24, e25, e26]
        clear e1 e2 e4 e5 e6 e8 e20 e21 e22 e24 e25 e26
        have hws172 := F174.gb.size
        have yg9l := F174.ltAt 0 rfl yg9 rfl
        have yg9b := yg9l.2 rfl
        refine ru_two 3 8 rfl rfl (by kernel_rfl) ?_ ?_
        · intro K hK
          go_simp
          refine (rin_s _ _ _ _ b s (k : Int) _ ⟨(F174.at 6 rfl : Sl accEnc 6 lo hi _ (.slice aa b.accs.length ak) b.accs), (F174.at 5 rfl : Sl mvEnc 4 lo hi _ (.slice ma b.mvs.length mk) b.mvs)⟩ HOK.out (by first | omega | (simp; omega)) hs8).mono ?_
          rintro e w177 ⟨rfl, hg175⟩
          have hg175s := hg175.size
          (try simp at hg175s)
          have F178 := F174.gn hg175
          clear F174
          refine ru_back hK (by exact ⟨F178.cl 4 0 rfl rfl, F178.cl 4 1 rfl rfl⟩) (fun _ => ?_)
          exact hZ139.out _ _ _ (by kernel_rfl) (by kernel_rfl) rfl ⟨yg9, (by kernel_rfl), (by kernel_rfl), (by kernel_rfl), (by kernel_rfl), (by kernel_rfl), (by kernel_rfl), (by kernel_rfl), (by kernel_rfl), (by kernel_rfl), (by kernel_rfl), (by first | omega | (simp; done) | (simp; omega)), F178⟩
        · intro K hK
          go_simp
          have F179 := F174.new 40 #[.int .i64 0, .int .i64 0] (n := w173.heap.size) (by simp)
          clear F174
          refine ru_back hK (by exact ⟨F179.cl 5 0 rfl rfl, F179.cl 5 1 rfl rfl⟩) (fun _ => ?_)
          have F180 : Bun w [rbox yg9 40 #[.int .i64 0, .int .i64 0], rbox w173.heap.size 40 #[.int .i64 0, .int .i64 0], rbox w8.heap.size 40 #[.int .i64 (rnarF b k s).lo, .int .i64 (rnarF b k s).hi], rsl spEnc 2 lo_s hi_s (.slice (some ⟨x10, o11, none⟩) (spansL b).length sc) (spansL b), rbox (w.heap.size + 1) 40 #[.int .i64 0, .int .i64 0], rbox w.heap.size 25 #[.slice aa b.accs.length ak, .slice ma b.mvs.length mk], rsl mvEnc 4 lo hi (.slice ma b.mvs.length mk) b.mvs, rsl accEnc 6 lo hi (.slice aa b.accs.length ak) b.accs] _ := F179.pick [1, 0, 2, 3, 4, 5, 6, 7] (by decide) rfl
          clear F179
          exact hZ148.out _ _ _ (by kernel_rfl) (by kernel_rfl) rfl ⟨w173.heap.size, yg9, (by kernel_rfl), (by kernel_rfl), (by kernel_rfl), (by kernel_rfl), (by kernel_rfl), (by kernel_rfl), (by kernel_rfl), (by kernel_rfl), (by kernel_rfl), (by kernel_rfl), (by kernel_rfl), (by kernel_rfl), (by kernel_rfl), (by first | omega | (simp; done) | (simp; omega)), F180⟩
      intro hZ172
      refine ru_three 3 8 9 rfl rfl rfl (by kernel_rfl) ?_ ?_ ?_
      · intro K hK
        go_simp
        refine (rin_s _ _ _ _ b s (k : Int) _ ⟨(F27.at 5 rfl : Sl accEnc 6 lo hi _ (.slice aa b.accs.length ak) b.accs), (F27.at 4 rfl : Sl mvEnc 4 lo hi _ (.slice ma b.mvs.length mk) b.mvs)⟩ HOK.out (by first | omega | (simp; omega)) hs8).mono ?_
        rintro e w183 ⟨rfl, hg181⟩
        have hg181s := hg181.size
        (try simp at hg181s)
        have F184 := F27.gn hg181
        clear F27
        refine ru_back hK (by exact ⟨F184.cl 3 0 rfl rfl, F184.cl 3 1 rfl rfl⟩) (fun _ => ?_)
        exact hZ155.out _ _ _ (by kernel_rfl) (by kernel_rfl) rfl ⟨(by kernel_rfl), (by kernel_rfl), (by kernel_rfl), (by kernel_rfl), (by kernel_rfl), (by kernel_rfl), (by kernel_rfl), (by kernel_rfl), (by kernel_rfl), (by first | omega | (simp; done) | (simp; omega)), F184⟩
      · intro K hK
        go_simp
        have F185 := F27.new 40 #[.int .i64 0, .int .i64 0] (n := wd29.heap.size) (by simp)
        clear F27
        refine ru_back hK (by exact ⟨F185.cl 4 0 rfl rfl, F185.cl 4 1 rfl rfl⟩) (fun _ => ?_)
        exact hZ164.out _ _ _ (by kernel_rfl) (by kernel_rfl) rfl ⟨wd29.heap.size, (by kernel_rfl), (by kernel_rfl), (by kernel_rfl), (by kernel_rfl), (by kernel_rfl), (by kernel_rfl), (by kernel_rfl), (by kernel_rfl), (by kernel_rfl), (by kernel_rfl), (by kernel_rfl), (by kernel_rfl), (by first | omega | (simp; done) | (simp; omega)), F185⟩
      · intro K hK
        go_simp
        have F186 := F27.new 40 #[.int .i64 0, .int .i64 0] (n := wd29.heap.size) (by simp)
        clear F27
        refine ru_back hK (by exact ⟨F186.cl 4 0 rfl rfl, F186.cl 4 1 rfl rfl⟩) (fun _ => ?_)
        exact hZ172.out _ _ _ (by kernel_rfl) (by kernel_rfl) rfl ⟨wd29.heap.size, (by kernel_rfl), (by kernel_rfl), (by kernel_rfl), (by kernel_rfl), (by kernel_rfl), (by kernel_rfl), (by kernel_rfl), (by kernel_rfl), (by kernel_rfl), (by kernel_rfl), (by kernel_rfl), (by kernel_rfl), (by first | omega | (simp; done) | (simp; omega)), F186⟩
    · skip
      have c26H := Lib.hid c26
      have c26a : decide ((s : Int) < (N : Int)) = false := dec_f c26
      obtain rfl : N = s := by omega
      have b187 := F25.bx2 0 rfl
      have b188 := F25.bx2 2 rfl
      go_wp2_with fail
      clear b187 b188
      have F189 := (F25.front 2 rfl rfl).pt2 (.int .i64 ((rnarF b k N).lo)) (.int .i64 ((rnarF b k N).hi))
      clear F25
      have kb190 := F189.bx2 0 rfl
      go_wp2_with fail
      exact bodyPost_ret (v := .agg #[.int .i64 ((rnarF b k N).lo), .int .i64 ((rnarF b k N).hi)]) (by simp [results, Try.results98, go_sem, kb190]) rfl (⟨rfl, F189.gb⟩)
  case atStart1 =>
    rw [HI17.out]
    exact ⟨1, (by first | kernel_rfl | rfl), (by first | kernel_rfl | rfl), (by first | kernel_rfl | rfl), (by first | kernel_rfl | rfl), rfl, Nat.le_refl _, hp1, rfl, (by first | exact Nat.le_refl _ | omega | (simp; done) | (simp; omega)), F16⟩

end Go.Proofs.Ytfifldbinnkdmaa
