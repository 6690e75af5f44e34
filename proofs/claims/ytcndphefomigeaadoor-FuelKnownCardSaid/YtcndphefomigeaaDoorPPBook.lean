/- Books with a truth, made of numbers: the plain side. -/
import Derived.Test.YtcndphefomigeaaDoorPG7
set_option linter.unusedVariables false
set_option linter.unusedSimpArgs false
set_option linter.unnecessarySimpa false
namespace Go.Proofs.YtcndphefomigeaaDoor
open Go.RowKit

def nms : List ByteArray := [⟨#[114, 97, 99, 107]⟩, ⟨#[99, 97, 109, 112]⟩, ⟨#[103, 114, 111, 117, 110, 100]⟩, ⟨#[116, 114, 117, 99, 107]⟩, ⟨#[109, 105, 110, 101]⟩, ⟨#[97]⟩, ⟨#[97, 98, 99, 100, 101, 102, 103, 104]⟩, ⟨#[122]⟩]
def nmAt (k : Nat) : ByteArray := nms.getD k ByteArray.empty

theorem ga_app {l : List Acc} {x : Acc} {i : Nat} (h : i < l.length + 1) : ga (l ++ [x]) i = if i < l.length then ga l i else x := by
  unfold ga
  by_cases h1 : i < l.length
  · rw [if_pos h1]; simp [h1, List.getElem?_append_left]
  · rw [if_neg h1, show i = l.length by omega]; simp
theorem gm_app {l : List Mv} {x : Mv} {i : Nat} (h : i < l.length + 1) : gm (l ++ [x]) i = if i < l.length then gm l i else x := by
  unfold gm
  by_cases h1 : i < l.length
  · rw [if_pos h1]; simp [h1, List.getElem?_append_left]
  · rw [if_neg h1, show i = l.length by omega]; simp
theorem gi_app {l : List Int} {x : Int} {i : Nat} (h : i < l.length + 1) : gi (l ++ [x]) i = if i < l.length then gi l i else x := by
  unfold gi
  by_cases h1 : i < l.length
  · rw [if_pos h1]; simp [h1, List.getElem?_append_left]
  · rw [if_neg h1, show i = l.length by omega]; simp
theorem gi_set {l : List Int} {i k : Nat} {x : Int} (hi : i < l.length) : gi (l.set i x) k = if k = i then x else gi l k := by
  unfold gi
  by_cases h : k = i
  · subst h; simp [hi]
  · rw [if_neg h]; simp [List.getElem?_set_ne (Ne.symm h)]
theorem ga_set {l : List Acc} {i k : Nat} {x : Acc} (hi : i < l.length) : ga (l.set i x) k = if k = i then x else ga l k := by
  unfold ga
  by_cases h : k = i
  · subst h; simp [hi]
  · rw [if_neg h]; simp [List.getElem?_set_ne (Ne.symm h)]

structure AccR (W L : Int) (a : Acc) (k : Nat) (o : Int) : Prop where
  name : a.name = nmAt k
  kind : a.kind = 1 ∨ a.kind = 2
  ob : 0 ≤ o ∧ o ≤ L
  op : (0 ≤ a.op.lo ∧ a.op.lo ≤ o) ∧ o ≤ a.op.hi ∧ a.op.hi ≤ o + W
structure PhA (W L : Int) (A : List Acc) (O : List Int) : Prop where
  len : A.length = O.length
  one : ∀ i, i < A.length → AccR W L (ga A i) i (gi O i)
theorem PhA.nil (W L : Int) : PhA W L [] [] := ⟨rfl, fun i h => by simp at h⟩
theorem PhA.step {W L : Int} {A : List Acc} {O : List Int} (h : PhA W L A O) {kd n a c : Int} (hk : kd = 1 ∨ kd = 2) (hn : 0 ≤ n ∧ n ≤ L) (hs : (0 ≤ a ∧ a ≤ n) ∧ n ≤ c ∧ c ≤ n + W) :
    PhA W L (A ++ [⟨nmAt A.length, kd, ⟨a, c⟩, ⟨0, 0⟩⟩]) (O ++ [n]) := by
  have hl := h.len
  refine ⟨by simp [hl], fun i hi => ?_⟩
  rw [ga_app (by simpa using hi), gi_app (by simp at hi; omega), ← hl]
  by_cases h1 : i < A.length
  · rw [if_pos h1, if_pos h1]; exact h.one i h1
  · rw [if_neg h1, if_neg h1]
    have : i = A.length := by simp at hi; omega
    subst this
    exact ⟨rfl, hk, hn, hs⟩

/-- What account i has after j moves. -/
def balF (O : List Int) (M : List Mv) (V : List Int) (i : Nat) : Nat → Int
  | 0 => gi O i
  | j + 1 => balF O M V i j + (if (gm M j).to = (i : Int) then gi V j else 0) - (if (gm M j).fr = (i : Int) then gi V j else 0)
theorem balF_app {O : List Int} {M : List Mv} {V : List Int} {m : Mv} {v : Int} {i : Nat} (hl : M.length = V.length) : ∀ j, j ≤ M.length → balF O (M ++ [m]) (V ++ [v]) i j = balF O M V i j := by
  intro j
  induction j with
  | zero => intro _; rfl
  | succ j ih =>
    intro hj
    unfold balF
    have e1 : gm (M ++ [m]) j = gm M j := by rw [gm_app (by omega), if_pos (by omega)]
    have e2 : gi (V ++ [v]) j = gi V j := by rw [gi_app (by omega), if_pos (by omega)]
    rw [ih (by omega), e1, e2]
theorem balF_last {O : List Int} {M : List Mv} {V : List Int} {m : Mv} {v : Int} {i : Nat} (hl : M.length = V.length) :
    balF O (M ++ [m]) (V ++ [v]) i (M ++ [m]).length = balF O M V i M.length + (if m.to = (i : Int) then v else 0) - (if m.fr = (i : Int) then v else 0) := by
  have e1 : gm (M ++ [m]) M.length = m := by rw [gm_app (by omega), if_neg (by omega)]
  have e2 : gi (V ++ [v]) M.length = v := by rw [gi_app (by omega), if_neg (by omega)]
  rw [List.length_append, List.length_singleton, balF, balF_app hl _ (Nat.le_refl _), e1, e2]
def sumL : List Int → Int
  | [] => 0
  | x :: l => x + sumL l
theorem sumL_set : ∀ (l : List Int) (i : Nat) (x : Int), i < l.length → sumL (l.set i x) = sumL l - gi l i + x := by
  intro l
  induction l with
  | nil => intro i x h; simp at h
  | cons y l ih =>
    intro i x h
    cases i with
    | zero => simp [sumL, gi]; omega
    | succ i =>
      simp only [List.set_cons_succ, sumL]
      rw [ih i x (by simpa using h)]
      have : gi (y :: l) (i + 1) = gi l i := by simp [gi]
      rw [this]
      omega
theorem sumL_pos : ∀ (l : List Int), (∀ i, i < l.length → 0 ≤ gi l i) → 0 ≤ sumL l ∧ ∀ i, i < l.length → gi l i ≤ sumL l := by
  intro l
  induction l with
  | nil => intro _; exact ⟨by simp [sumL], fun i h => by simp at h⟩
  | cons y l ih =>
    intro h
    have h1 : 0 ≤ y := by have := h 0 (by simp); simpa [gi] using this
    obtain ⟨h2, h3⟩ := ih (fun i hi => by have := h (i + 1) (by simpa using hi); simpa [gi] using this)
    refine ⟨by simp only [sumL]; omega, fun i hi => ?_⟩
    cases i with
    | zero => simp [gi, sumL]; omega
    | succ i =>
      have := h3 i (by simpa using hi)
      have e : gi (y :: l) (i + 1) = gi l i := by simp [gi]
      rw [e]
      simp only [sumL]
      omega

structure MvR (n : Nat) (W S : Int) (m : Mv) (v : Int) : Prop where
  frb : 0 ≤ m.fr ∧ m.fr < n
  tob : 0 ≤ m.to ∧ m.to < n
  ne : m.fr ≠ m.to
  vb : 0 ≤ v ∧ v ≤ S
  li : (0 ≤ m.li.lo ∧ m.li.lo ≤ v) ∧ v ≤ m.li.hi ∧ m.li.hi ≤ v + W
structure PhM (n : Nat) (W S : Int) (O : List Int) (M : List Mv) (V H : List Int) : Prop where
  len : M.length = V.length
  hlen : H.length = O.length
  on : O.length = n
  one : ∀ j, j < M.length → MvR n W S (gm M j) (gi V j)
  bal : ∀ i, i < n → gi H i = balF O M V i M.length ∧ 0 ≤ gi H i
  sum : sumL H = sumL O
theorem PhM.bd {n : Nat} {W S : Int} {O : List Int} {M : List Mv} {V H : List Int} (h : PhM n W S O M V H) (hS : sumL O ≤ S) {i : Nat} (hi : i < n) : 0 ≤ gi H i ∧ gi H i ≤ S := by
  have h1 := (sumL_pos H (fun i hi => (h.bal i (by have := h.hlen; have := h.on; omega)).2)).2 i (by have := h.hlen; have := h.on; omega)
  have := h.sum
  exact ⟨(h.bal i hi).2, by omega⟩
theorem PhM.step {n : Nat} {W S : Int} {O : List Int} {M : List Mv} {V H : List Int} (h : PhM n W S O M V H) (hS : sumL O ≤ S) {i k : Nat} (hi : i < n) (hk : k < n) (hik : i ≠ k) {v a c : Int} (hv : 0 ≤ v ∧ v ≤ gi H i)
    (hs : (0 ≤ a ∧ a ≤ v) ∧ v ≤ c ∧ c ≤ v + W) : PhM n W S O (M ++ [⟨i, k, ⟨a, c⟩⟩]) (V ++ [v]) ((H.set i (gi H i - v)).set k (gi H k + v)) := by
  have hl := h.len
  have hb := h.bd hS hi
  have hH : H.length = n := by rw [h.hlen, h.on]
  refine ⟨by simp [hl], by simp [h.hlen], h.on, fun j hj => ?_, fun q hq => ?_, ?_⟩
  · rw [gm_app (by simpa using hj), gi_app (by simp at hj; omega), ← hl]
    by_cases h1 : j < M.length
    · rw [if_pos h1, if_pos h1]; exact h.one j h1
    · rw [if_neg h1, if_neg h1]
      exact ⟨⟨by show (0 : Int) ≤ i; omega, by show (i : Int) < n; omega⟩, ⟨by show (0 : Int) ≤ k; omega, by show (k : Int) < n; omega⟩, by show (i : Int) ≠ k; omega, ⟨hv.1, by omega⟩, hs⟩
  · rw [balF_last hl, gi_set (by simp; omega), gi_set (by omega)]
    have hq' := h.bal q hq
    dsimp only
    by_cases e1 : q = k
    · subst e1
      have : gi H q = balF O M V q M.length := hq'.1
      refine ⟨?_, ?_⟩ <;> (repeat' split) <;> omega
    · have : gi H q = balF O M V q M.length := hq'.1
      by_cases e2 : q = i
      · subst e2
        refine ⟨?_, ?_⟩ <;> (repeat' split) <;> omega
      · refine ⟨?_, ?_⟩ <;> (repeat' split) <;> omega
  · rw [sumL_set _ _ _ (by simp; omega), sumL_set _ _ _ (by omega), gi_set (by omega), if_neg (fun e => hik e.symm), h.sum]
    omega

/-- Closed up to account k: what is there in the end. -/
structure PhC (W : Int) (A : List Acc) (H : List Int) (A' : List Acc) (C : List Int) (k : Nat) : Prop where
  len : A'.length = A.length
  clen : C.length = k
  same : ∀ i, i < A.length → (ga A' i).name = (ga A i).name ∧ (ga A' i).kind = (ga A i).kind ∧ (ga A' i).op = (ga A i).op
  cl : ∀ i, i < k → ((0 ≤ (ga A' i).cl.lo ∧ (ga A' i).cl.lo ≤ gi C i) ∧ gi C i ≤ (ga A' i).cl.hi ∧ (ga A' i).cl.hi ≤ gi C i + W) ∧ (0 ≤ gi C i ∧ gi C i ≤ gi H i) ∧ ((ga A i).kind = 2 → gi C i = gi H i)
theorem PhC.step {W : Int} {A : List Acc} {H : List Int} {A' : List Acc} {C : List Int} {k : Nat} (h : PhC W A H A' C k) (hk : k < A.length) {n a c : Int} (hn : 0 ≤ n ∧ n ≤ gi H k) (hg : (ga A k).kind = 2 → n = gi H k) (hs : (0 ≤ a ∧ a ≤ n) ∧ n ≤ c ∧ c ≤ n + W) :
    PhC W A H (A'.set k { ga A' k with cl := ⟨a, c⟩ }) (C ++ [n]) (k + 1) := by
  have hl := h.len
  have hc := h.clen
  refine ⟨by simp [hl], by simp [hc], fun i hi => ?_, fun i hi => ?_⟩
  · rw [ga_set (by omega)]
    by_cases e : i = k
    · subst e; rw [if_pos rfl]; exact h.same i hi
    · rw [if_neg e]; exact h.same i hi
  · rw [ga_set (by omega), gi_app (by omega), hc]
    by_cases e : i = k
    · subst e; rw [if_pos rfl, if_neg (by omega)]; exact ⟨hs, hn, hg⟩
    · rw [if_neg e, if_pos (by omega)]; exact h.cl i (by omega)
end Go.Proofs.YtcndphefomigeaaDoor
