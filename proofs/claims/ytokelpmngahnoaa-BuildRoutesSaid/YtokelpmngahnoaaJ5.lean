/- build: working hours, one after the other. -/
import Derived.Test.YtokelpmngahnoaaJ0
set_option linter.unusedVariables false
set_option linter.unusedSimpArgs false
set_option linter.unnecessarySimpa false
namespace Go.Proofs.Ytokelpmngahnoaa
open Go.RowKit
/-- The hours from b on, among n, of which f is so. -/
def hsL (f : Nat → Bool) (b n : Nat) : List Nat := (List.range' b n).filter f
/-- How many hours from b below h. -/
def cntH (f : Nat → Bool) (b h : Nat) : Nat := (hsL f b (h - b)).length
theorem cntH_same (f : Nat → Bool) (b : Nat) : cntH f b b = 0 := by simp [cntH, hsL]
theorem cntH_succ {f : Nat → Bool} {b h : Nat} (hb : b ≤ h) : cntH f b (h + 1) = cntH f b h + if f h = true then 1 else 0 := by
  unfold cntH hsL
  rw [show h + 1 - b = (h - b) + 1 by omega, List.range'_concat, List.filter_append, List.length_append]
  rw [show b + 1 * (h - b) = h by omega]
  by_cases hf : f h = true
  · rw [if_pos hf]; simp [hf]
  · rw [if_neg hf]; simp [hf]
theorem cntH_idle {f : Nat → Bool} {b h : Nat} (hb : b ≤ h) : ∀ n : Nat, (∀ x, h ≤ x → x < h + n → f x = false) → cntH f b (h + n) = cntH f b h
  | 0, _ => rfl
  | n + 1, hf => by
    rw [← Nat.add_assoc, cntH_succ (by omega), if_neg (by rw [hf (h + n) (by omega) (by omega)]; decide), cntH_idle hb n (fun x h1 h2 => hf x h1 (by omega))]
    rfl
theorem cntH_idle' {f : Nat → Bool} {b h h' : Nat} (hb : b ≤ h) (hh : h ≤ h') (hf : ∀ x, h ≤ x → x < h' → f x = false) : cntH f b h' = cntH f b h := by
  have := cntH_idle hb (h' - h) (fun x h1 h2 => hf x h1 (by omega))
  rwa [show h + (h' - h) = h' by omega] at this
theorem hsL_split (f : Nat → Bool) (b m n : Nat) : hsL f b (m + n) = hsL f b m ++ hsL f (b + m) n := by
  unfold hsL
  rw [← List.filter_append]
  congr 1
  have := List.range'_append (s := b) (m := m) (n := n) (step := 1)
  rw [Nat.one_mul] at this
  exact this.symm
/-- The hour that comes next is the one that has its number. -/
theorem hsL_at {f : Nat → Bool} {b h e : Nat} (hb : b ≤ h) (he : h < e) (hf : f h = true) : (hsL f b (e - b))[cntH f b h]? = some h := by
  unfold cntH
  rw [show e - b = (h - b) + (e - h) by omega, hsL_split, List.getElem?_append_right (Nat.le_refl _)]
  rw [Nat.sub_self, show b + (h - b) = h by omega, show e - h = (e - h - 1) + 1 by omega]
  unfold hsL
  rw [List.range'_succ, List.filter_cons, if_pos hf]
  rfl
/-- The hour behind n working hours, as an element of the list of them. -/
theorem doneN_hs {f : Nat → Bool} {past : Int} : ∀ (k h n : Nat), 1 ≤ n → doneN f past k h n = match (hsL f h k)[n - 1]? with | some x => (x : Int) + 1 | none => past
  | 0, h, n, hn => by rw [doneN]; rfl
  | k + 1, h, n, hn => by
    rw [doneN]
    have e : hsL f h (k + 1) = if f h = true then h :: hsL f (h + 1) k else hsL f (h + 1) k := by
      unfold hsL
      rw [List.range'_succ, List.filter_cons]
    rw [e]
    by_cases hf : f h = true
    · rw [if_pos hf, if_pos hf]
      by_cases h1 : n = 1
      · subst h1; rfl
      · rw [if_neg h1, doneN_hs k (h + 1) (n - 1) (by omega)]
        rw [show n - 1 = (n - 1 - 1) + 1 by omega, List.getElem?_cons_succ]
        rfl
    · rw [if_neg hf, if_neg hf, doneN_hs k (h + 1) n hn]
theorem doneN_yes {f : Nat → Bool} {past : Int} {k h n x : Nat} (hn : 1 ≤ n) (hx : (hsL f h k)[n - 1]? = some x) : doneN f past k h n = (x : Int) + 1 := by rw [doneN_hs k h n hn, hx]
theorem doneN_no {f : Nat → Bool} {past : Int} {k h n : Nat} (hn : (hsL f h k).length < n) : doneN f past k h n = past := by
  rw [doneN_hs k h n (by omega), List.getElem?_eq_none (by omega)]
/-- The task before, on the same machine; -1 if there is none. -/
def Cs.bef (c : Cs) (m : Int) : Nat → Int
  | 0 => -1
  | k + 1 => if c.m k = m then (k : Int) else c.bef m k
theorem Cs.bef_bd (c : Cs) (m : Int) : ∀ k : Nat, -1 ≤ c.bef m k ∧ c.bef m k < k
  | 0 => by rw [Cs.bef]; omega
  | k + 1 => by
    have := c.bef_bd m k
    rw [Cs.bef]
    split <;> omega
theorem Cs.last_bef (c : Cs) (P : List (Int × Int)) (m : Int) : ∀ k : Nat, c.last P m k = if 0 ≤ c.bef m k then enAt P (c.bef m k).toNat else 0
  | 0 => by rw [Cs.last, Cs.bef]; rfl
  | k + 1 => by
    rw [Cs.last, Cs.bef]
    by_cases h : c.m k = m
    · rw [if_pos h, if_pos h, if_pos (by omega), Int.toNat_natCast]
    · rw [if_neg h, if_neg h, c.last_bef P m k]
/-- The hours that a machine works, from b on. -/
def Cs.hs (c : Cs) (m : Int) (b : Nat) : List Nat := hsL (c.wh m) b (24 * c.nd - b)
/-- A day on which it does not work, the rest of a day behind its shift: no working hour. -/
theorem Cs.idle (c : Cs) {m : Int} {d x : Nat} (h1 : 24 * d ≤ x) (h2 : x < 24 * (d + 1)) (h : c.wk m d = false ∨ c.sh m ≤ ((x - 24 * d : Nat) : Int)) : c.wh m x = false := by
  have e1 : x / 24 = d := by omega
  have e2 : x % 24 = x - 24 * d := by omega
  unfold Cs.wh
  rw [e1, e2]
  rcases h with h | h
  · rw [h]; rfl
  · rw [Bool.and_eq_false_iff]; right; simp; omega
theorem Cs.busy (c : Cs) {m : Int} {d x : Nat} (h1 : 24 * d ≤ x) (h2 : x < 24 * (d + 1)) (h : c.wk m d = true) (h3 : ((x - 24 * d : Nat) : Int) < c.sh m) : c.wh m x = true := by
  have e1 : x / 24 = d := by omega
  have e2 : x % 24 = x - 24 * d := by omega
  unfold Cs.wh
  rw [e1, e2, h, Bool.true_and]
  simpa using h3
theorem Cs.fin_yes (c : Cs) {m b n : Int} {k x : Nat} (hb : 0 ≤ b) (h1 : ¬ c.past ≤ b) (h2 : n = ((k + 1 : Nat) : Int)) (hx : (c.hs m b.toNat)[k]? = some x) : c.fin m b n = (x : Int) + 1 := by
  rw [Cs.fin, if_neg h1, if_neg (by omega)]
  refine doneN_yes (by omega) ?_
  rw [h2, Int.toNat_natCast]
  exact hx
theorem Cs.fin_no (c : Cs) {m b n : Int} (h1 : ¬ c.past ≤ b) (h2 : ((c.hs m b.toNat).length : Int) < n) : c.fin m b n = c.past := by
  rw [Cs.fin, if_neg h1, if_neg (by omega)]
  unfold Cs.hs at h2
  exact doneN_no (by omega)
theorem Cs.fin_now (c : Cs) {m b n : Int} (h : n = 0 ∨ c.past ≤ b) (h1 : b ≤ c.past) : c.fin m b n = b := by
  rw [Cs.fin]
  split
  · omega
  · rw [if_pos (by omega)]
end Go.Proofs.Ytokelpmngahnoaa
