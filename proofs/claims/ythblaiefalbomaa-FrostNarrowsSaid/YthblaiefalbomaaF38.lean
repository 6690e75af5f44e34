/- frost: what is known better. -/
import Derived.Test.YthblaiefalbomaaF37
import Derived.Test.YthblaiefalbomaaF36
import Derived.Test.YthblaiefalbomaaF32
import Derived.Test.YthblaiefalbomaaF27
import Derived.Test.YthblaiefalbomaaF16
set_option linter.unusedVariables false
set_option linter.unusedSimpArgs false
set_option linter.unnecessarySimpa false
namespace Go.Proofs.Ythblaiefalbomaa
open Go.RowKit
set_option maxRecDepth 100000

theorem runs_sub {l : Fro} {x y : Ice} {wide nar : List Wea} (hL : LawOk l) (hF : Falls l.cov) (hx : IceK x 0 0) (hy : IceK y 0 0) (hoy : okI y) (hdw : ∀ d ∈ wide, WeaOk d) (hdn : ∀ d ∈ nar, WeaOk d) (hn : wide.length ≤ 400) (hs : subI y x) (hd : subDs nar wide) : ∀ k : Nat, k ≤ wide.length → subI (stI l y nar k) (stI l x wide k)
  | 0, _ => hs
  | k + 1, hk => by
    have h1 := List.getElem?_eq_getElem (l := wide) (i := k) (by omega)
    have h2 := List.getElem?_eq_getElem (l := nar) (i := k) (by have := hd.1; omega)
    rw [stI_succ h1, stI_succ h2]
    exact aft_sub hL hF (stI_K hL hx hdw hn k (by omega)) (hdw _ (List.mem_of_getElem? h1)) (stI_K hL hy hdn (by have := hd.1; omega) k (by have := hd.1; omega))
      (stI_ok hL hF hy hdn (by have := hd.1; omega) hoy k (by have := hd.1; omega)) (hdn _ (List.mem_of_getElem? h2)) (runs_sub hL hF hx hy hoy hdw hdn hn hs hd k (by omega)) (hd.2 k _ _ h2 h1)
theorem insideB_of {a b : Ice} (h : subI a b) : insideB a b = true := by
  obtain ⟨⟨⟨p1, p2⟩, q1, q2⟩, ⟨r1, r2⟩, u1, u2⟩ := h
  unfold insideB inS
  simp only [Bool.and_eq_true, decide_eq_true_eq]
  omega
theorem brs_sub {l : Fro} {x y : Ice} {k m k' m' : Int} (hL : LawOk l) (hx : IceK x k m) (hy : IceK y k' m') (hs : subI y x) : (brs l x).lo ≤ (brs l y).lo ∧ (brs l y).hi ≤ (brs l x).hi := by
  obtain ⟨⟨⟨p1, p2⟩, q1, q2⟩, ⟨r1, r2⟩, u1, u2⟩ := hs
  have hw := hL.white
  have h1 := dn_mono (n := x.wh.lo) (n' := y.wh.lo) (p := l.white.lo) (p' := l.white.lo) (by have := hx.wh; omega) q1 (by omega) (Int.le_refl _)
  have h2 := upp_mono (n := y.wh.hi) (n' := x.wh.hi) (p := l.white.hi) (p' := l.white.hi) (by have := hy.wh; omega) q2 (by omega) (Int.le_refl _)
  unfold brs
  simp only
  omega
theorem sure_sub {l : Fro} {need : Int} {x y : Ice} {k m k' m' : Int} (hL : LawOk l) (hx : IceK x k m) (hy : IceK y k' m') (hs : subI y x) (h : sureB l need x = true) : sureB l need y = true := by
  have h1 := brs_sub hL hx hy hs
  have h2 := hy.we
  have h3 := hs.2.1
  unfold sureB at *
  simp only [Bool.and_eq_true, decide_eq_true_eq] at *
  omega
theorem perh_sub {l : Fro} {need : Int} {x y : Ice} {k m k' m' : Int} (hL : LawOk l) (hx : IceK x k m) (hy : IceK y k' m') (hs : subI y x) (h : perhB l need y = true) : perhB l need x = true := by
  have h1 := brs_sub hL hx hy hs
  have h2 := hx.we
  have h3 := hs.2.1
  unfold perhB at *
  simp only [Bool.and_eq_true, decide_eq_true_eq] at *
  omega
theorem fstP_bd (p : Nat → Bool) : ∀ n : Nat, 0 ≤ fstP p n ∧ fstP p n ≤ n
  | 0 => by simp [fstP]
  | n + 1 => by
    have := fstP_bd p n
    have e : fstP p (n + 1) = if fstP p n = 0 then (if p n = true then (n : Int) + 1 else 0) else fstP p n := rfl
    rw [e]
    split
    · split <;> omega
    · omega
theorem fstP_imp {p q : Nat → Bool} : ∀ n : Nat, (∀ j, j < n → p j = true → q j = true) → fstP p n = 0 ∨ (0 < fstP q n ∧ fstP q n ≤ fstP p n)
  | 0, _ => .inl rfl
  | n + 1, h => by
    have ih := fstP_imp (p := p) (q := q) n fun j hj => h j (by omega)
    have b1 := fstP_bd p n
    have b2 := fstP_bd q n
    rw [fstP, fstP]
    by_cases h1 : fstP p n = 0
    · rw [if_pos h1]
      by_cases h2 : p n = true
      · rw [if_pos h2, if_pos (h n (by omega) h2)]
        refine .inr ?_
        split
        · omega
        · omega
      · rw [if_neg h2]; exact .inl rfl
    · rw [if_neg h1]
      refine .inr ?_
      rcases ih with ih | ih
      · exact absurd ih h1
      · rw [if_neg (by omega)]; exact ih
/-- The first days on which ice bears, where more is known. -/
theorem ready_sub {l : Fro} {x y : Ice} {wide nar : List Wea} {need : Int} (hL : LawOk l) (hF : Falls l.cov) (hx : IceK x 0 0) (hy : IceK y 0 0) (hoy : okI y) (hdw : ∀ d ∈ wide, WeaOk d) (hdn : ∀ d ∈ nar, WeaOk d) (hn : wide.length ≤ 400) (hs : subI y x) (hd : subDs nar wide)
    (e1 : readyE l x wide need = 0) (e2 : readyE l y nar need = 0) : (readyS l x wide need = 0 ∨ (0 < readyS l y nar need ∧ readyS l y nar need ≤ readyS l x wide need)) ∧ (readyP l y nar need = 0 ∨ (0 < readyP l x wide need ∧ readyP l x wide need ≤ readyP l y nar need)) := by
  have hr := runs_sub hL hF hx hy hoy hdw hdn hn hs hd
  have hlen := hd.1
  have kx := stI_K hL hx hdw hn
  have ky := stI_K hL hy hdn (by omega)
  rw [readyS, readyS, readyP, readyP, if_pos e1, if_pos e1, if_pos e2, if_pos e2, hlen]
  exact ⟨fstP_imp _ fun j hj h => sure_sub hL (kx (j + 1) (by omega)) (ky (j + 1) (by omega)) (hr (j + 1) (by omega)) h, fstP_imp _ fun j hj h => perh_sub hL (kx (j + 1) (by omega)) (ky (j + 1) (by omega)) (hr (j + 1) (by omega)) h⟩
theorem readyE_ok {l : Fro} {x : Ice} {dl : List Wea} {need : Int} (h0 : allE l x dl = 0) (hn : 0 ≤ need ∧ need ≤ 5000) : readyE l x dl need = 0 := by rw [readyE, if_neg (not_not_intro h0), if_neg (by omega)]
theorem ready_ok (lo hi : Nat) (v : Value) (l : Fro) (x : Ice) (lo2 hi2 : Nat) (vd : Value) (dl : List Wea) (need : Int) (w : World) (hl : Sl covEnc 3 lo hi w v l.cov) (h2 : hi ≤ w.heap.size) (hl2 : Sl weaEnc 6 lo2 hi2 w vd dl) (h22 : hi2 ≤ w.heap.size) (h0 : allE l x dl = 0) (hn : 0 ≤ need ∧ need ≤ 5000) :
    Calls Try.prog 36 #[.agg (froC l v), .agg (iceC x), vd, .int .i64 need] w (Ret (.tuple #[.int .i64 (readyS l x dl need), .int .i64 (readyP l x dl need), .int .i64 0]) w) := by
  have h := ready_c lo hi v l x lo2 hi2 vd dl need w hl h2 hl2 h22
  rw [readyE_ok h0 hn] at h
  exact h
theorem in_yes {a b : Sp} (h : b.lo ≤ a.lo ∧ a.hi ≤ b.hi) (w : World) : Calls Try.prog 54 #[.agg #[.int .i64 a.lo, .int .i64 a.hi], .agg #[.int .i64 b.lo, .int .i64 b.hi]] w (Ret (.bool true) w) := by
  have h1 := in_c a b w
  rw [show inS a b = true by unfold inS; simp only [Bool.and_eq_true, decide_eq_true_eq]; exact h] at h1
  exact h1
theorem inside_yes {a b : Ice} (h : subI a b) (w : World) : Calls Try.prog 43 #[.agg (iceC a), .agg (iceC b)] w (Ret (.bool true) w) := by
  have h1 := insideI_c a b w
  rw [insideB_of h] at h1
  exact h1
end Go.Proofs.Ythblaiefalbomaa
