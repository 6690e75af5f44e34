/- FuelDays: the plain law: days that truly last, more litres, less cold. -/
import Derived.Test.YtfifldbinnkdmaaKit5
set_option linter.unusedVariables false
set_option linter.unusedSimpArgs false
set_option linter.unnecessarySimpa false
namespace Go.Proofs.Ytfifldbinnkdmaa
open Go.RowKit

theorem spanErr_nil {a b lo hi : Int} (h1 : lo ≤ a) (h2 : a ≤ b) (h3 : b ≤ hi) : spanErr a b lo hi = 0 := by
  unfold spanErr
  rw [inB_mk h1 (by omega), inB_mk (by omega) h3]
  simp
  omega
theorem bnErr_zero {l : List Bn} (h : BnOk l) {i : Nat} (hi : i < l.length) : bnErr l i = 0 := by
  have h1 := h.one i hi
  unfold bnErr
  rw [if_pos (inB_mk h1.1.1 h1.1.2), if_neg (fun hh => by have := h.inc i hh.1 hi; omega)]
  exact spanErr_nil h1.2.1 h1.2.2.1 h1.2.2.2
theorem bnFrom_zero {l : List Bn} (h : BnOk l) : ∀ f k, k + f ≤ l.length → bnFrom l f k = 0 := by
  intro f
  induction f with
  | zero => intro k _; rfl
  | succ f ih => intro k hk; rw [bnFrom_step (bnErr_zero h (by omega))]; exact ih _ (by omega)
theorem bnE_zero {l : List Bn} (h : BnOk l) : bnE l = 0 := by
  have := h.n0
  have := h.n12
  unfold bnE
  rw [if_neg (by omega), if_neg (by omega)]
  exact bnFrom_zero h _ _ (by omega)
theorem clF_zero {l : List Sp} : ∀ f k, (∀ i, k ≤ i → i < k + f → -1000 ≤ (sp l i).lo ∧ (sp l i).lo ≤ (sp l i).hi ∧ (sp l i).hi ≤ 1000) → clF l f k = 0 := by
  intro f
  induction f with
  | zero => intro k _; rfl
  | succ f ih =>
    intro k hk
    have h1 := hk k (Nat.le_refl _) (by omega)
    unfold clF
    rw [if_pos (spanErr_nil h1.1 h1.2.1 h1.2.2)]
    exact ih _ fun i h2 h3 => hk i (by omega) (by omega)
theorem lastsE_zero {s : Sp} {b : List Bn} {c : List Sp} (hs : 0 ≤ s.lo ∧ s.lo ≤ s.hi ∧ s.hi ≤ 1000000000) (hb : BnOk b) (hn : c.length ≤ 400) (hc : ∀ i, i < c.length → -1000 ≤ (sp c i).lo ∧ (sp c i).lo ≤ (sp c i).hi ∧ (sp c i).hi ≤ 1000) : lastsE s b c = 0 := by
  unfold lastsE
  rw [if_pos (show spE s = 0 from spanErr_nil hs.1 hs.2.1 hs.2.2), if_pos (bnE_zero hb), if_neg (by omega)]
  exact clF_zero _ _ fun i _ h => hc i (by omega)
theorem lastsV_ok {s : Sp} {b : List Bn} {c : List Sp} (h : lastsE s b c = 0) : lastsV s b c = .tuple #[.agg #[.int .i64 (dayO s b c c.length).lo, .int .i64 (dayO s b c c.length).hi], .int .i64 0] := by
  rw [lastsV, if_pos h, Sp.v]

theorem brnF_has {l : List Bn} {f : Nat} : ∀ k j, f ≤ j → j < f + k → (brnF l f k).lo ≤ (bn l j).li.lo ∧ (bn l j).li.hi ≤ (brnF l f k).hi := by
  intro k
  induction k with
  | zero => intro j h1 h2; omega
  | succ k ih =>
    intro j h1 h2
    simp only [brnF]
    rcases Nat.lt_or_ge j (f + k) with h3 | h3
    · have := ih j h1 h3
      omega
    · obtain rfl : j = f + k := by omega
      omega
theorem brn_has {l : List Bn} {c : Sp} {x : Int} (h1 : c.lo ≤ x) (h2 : x ≤ c.hi) : (brn l c).lo ≤ (bn l (pl l x)).li.lo ∧ (bn l (pl l x)).li.hi ≤ (brn l c).hi := by
  have a := pl_mono (l := l) h1 l.length
  have b := pl_mono (l := l) h2 l.length
  exact brnF_has _ _ a (by unfold pl at *; omega)
theorem rise_mono {l : List Bn} {e : Int} (h : BnInv true l e) : ∀ j i, i ≤ j → j < l.length → (bn l i).li.lo ≤ (bn l j).li.lo ∧ (bn l i).li.hi ≤ (bn l j).li.hi := by
  intro j
  induction j with
  | zero => intro i hi _; obtain rfl : i = 0 := by omega
            exact ⟨Int.le_refl _, Int.le_refl _⟩
  | succ j ih =>
    intro i hi hj
    rcases Nat.lt_or_ge i (j + 1) with h1 | h1
    · have a := ih i (by omega) (by omega)
      have b := h.rise rfl (j + 1) (by omega) hj
      simp only [Nat.add_sub_cancel] at b
      omega
    · obtain rfl : i = j + 1 := by omega
      exact ⟨Int.le_refl _, Int.le_refl _⟩
theorem brnF_rise {l : List Bn} {e : Int} (h : BnInv true l e) {f : Nat} : ∀ k, 0 < k → f + k ≤ l.length → brnF l f k = ⟨(bn l f).li.lo, (bn l (f + k - 1)).li.hi⟩ := by
  intro k
  induction k with
  | zero => intro h; omega
  | succ k ih =>
    intro _ hk
    rcases Nat.eq_zero_or_pos k with rfl | h0
    · simp [brnF]
    · have a := rise_mono h (f + k) f (by omega) (by omega)
      have b := rise_mono h (f + k) (f + k - 1) (by omega) (by omega)
      simp only [brnF]
      rw [ih h0 (by omega)]
      simp only [Sp.mk.injEq]
      rw [show f + (k + 1) - 1 = f + k by omega]
      omega
theorem brn_rise {l : List Bn} {e : Int} (h : BnInv true l e) (h0 : 0 < l.length) {c : Sp} (hc : c.lo ≤ c.hi) : brn l c = ⟨(bn l (pl l c.lo)).li.lo, (bn l (pl l c.hi)).li.hi⟩ := by
  have a := pl_mono (l := l) hc l.length
  have b := pl_lt (l := l) c.hi h0
  have a' : pl l c.lo ≤ pl l c.hi := a
  rw [brn, brnF_rise h _ (by omega) (by omega)]
  rw [show pl l c.lo + (pl l c.hi + 1 - pl l c.lo) - 1 = pl l c.hi by omega]
theorem brn_less {l : List Bn} {e : Int} (h : BnInv true l e) (h0 : 0 < l.length) {c c' : Sp} (hc : c.lo ≤ c.hi) (hc' : c'.lo ≤ c'.hi) (h1 : c'.lo ≤ c.lo) (h2 : c'.hi ≤ c.hi) : (brn l c').lo ≤ (brn l c).lo ∧ (brn l c').hi ≤ (brn l c).hi := by
  rw [brn_rise h h0 hc, brn_rise h h0 hc']
  exact ⟨(rise_mono h _ _ (pl_mono h1 _) (pl_lt _ h0)).1, (rise_mono h _ _ (pl_mono h2 _) (pl_lt _ h0)).2⟩
theorem dayS_less {l : List Bn} {e : Int} (h : BnInv true l e) (h0 : 0 < l.length) {c c' : List Sp} : ∀ k, (∀ i, i < k → ((sp c i).lo ≤ (sp c i).hi ∧ (sp c' i).lo ≤ (sp c' i).hi) ∧ (sp c' i).lo ≤ (sp c i).lo ∧ (sp c' i).hi ≤ (sp c i).hi) →
    (dayS l c' k).lo ≤ (dayS l c k).lo ∧ (dayS l c' k).hi ≤ (dayS l c k).hi := by
  intro k
  induction k with
  | zero => intro _; exact ⟨Int.le_refl _, Int.le_refl _⟩
  | succ k ih =>
    intro hk
    have a := ih fun i hi => hk i (by omega)
    have b := hk k (by omega)
    have d := brn_less h h0 b.1.1 b.1.2 b.2.1 b.2.2
    simp only [dayS]
    omega
theorem dayO_le (s : Sp) (b : List Bn) (c : List Sp) : ∀ k : Nat, (0 ≤ (dayO s b c k).lo ∧ (dayO s b c k).lo ≤ k) ∧ 0 ≤ (dayO s b c k).hi ∧ (dayO s b c k).hi ≤ k := by
  intro k
  induction k with
  | zero => simp [dayO]
  | succ k ih =>
    simp only [dayO]
    split <;> split <;> omega
theorem dayO_mono {s s' : Sp} {b : List Bn} {c c' : List Sp} (h1 : s.lo ≤ s'.lo) (h2 : s.hi ≤ s'.hi) : ∀ n : Nat, (∀ k, k ≤ n → (dayS b c' k).lo ≤ (dayS b c k).lo ∧ (dayS b c' k).hi ≤ (dayS b c k).hi) →
    (dayO s b c n).lo ≤ (dayO s' b c' n).lo ∧ (dayO s b c n).hi ≤ (dayO s' b c' n).hi := by
  intro n
  induction n with
  | zero => intro _; exact ⟨Int.le_refl _, Int.le_refl _⟩
  | succ n ih =>
    intro hk
    have a := ih fun k h => hk k (by omega)
    have d := hk (n + 1) (Nat.le_refl _)
    have e := dayO_le s b c n
    have e' := dayO_le s' b c' n
    simp only [dayO]
    split <;> split <;> split <;> split <;> omega

/-- Behind i days: z litres are left, they have lasted d days. -/
structure DayI (s : Sp) (b : List Bn) (c : List Sp) (lf : Int) (i : Nat) (z d : Int) : Prop where
  bd : 0 ≤ lf - z ∧ lf - z ≤ 60 * i
  lo : (dayS b c i).lo ≤ lf - z
  hi : lf - z ≤ (dayS b c i).hi
  dl : (dayO s b c i).lo ≤ d
  dh : d ≤ (dayO s b c i).hi
  d0 : 0 ≤ d ∧ d ≤ i
theorem DayI.start (s : Sp) (b : List Bn) (c : List Sp) (lf : Int) : DayI s b c lf 0 lf 0 := by
  constructor <;> simp [dayS, dayO]
theorem DayI.yes {s : Sp} {b : List Bn} {c : List Sp} {lf : Int} {i : Nat} {z d r : Int} (h : DayI s b c lf i z d) (h1 : s.lo ≤ lf) (h2 : lf ≤ s.hi) (hr : (brn b (sp c i)).lo ≤ r ∧ r ≤ (brn b (sp c i)).hi) (hr2 : 0 ≤ r ∧ r ≤ 60) (hz : 0 ≤ z - r) :
    DayI s b c lf (i + 1) (z - r) (i + 1 : Nat) := by
  have a := h.bd
  have a1 := h.lo
  have a2 := h.hi
  have a3 := (dayO_le s b c (i + 1)).1.2
  refine ⟨by omega, by simp only [dayS]; omega, by simp only [dayS]; omega, a3, ?_, by omega⟩
  simp only [dayO]
  rw [if_pos (by simp only [dayS]; omega)]
  exact Int.le_refl _
theorem DayI.no {s : Sp} {b : List Bn} {c : List Sp} {lf : Int} {i : Nat} {z d r : Int} (h : DayI s b c lf i z d) (h1 : s.lo ≤ lf) (h2 : lf ≤ s.hi) (hr : (brn b (sp c i)).lo ≤ r ∧ r ≤ (brn b (sp c i)).hi) (hr2 : 0 ≤ r ∧ r ≤ 60) (hz : ¬ 0 ≤ z - r) :
    DayI s b c lf (i + 1) (z - r) d := by
  have a := h.bd
  have a1 := h.lo
  have a2 := h.hi
  have a3 := h.dl
  have a4 := h.dh
  have a5 := h.d0
  refine ⟨by omega, by simp only [dayS]; omega, by simp only [dayS]; omega, ?_, ?_, by omega⟩
  · simp only [dayO]
    rw [if_neg (by simp only [dayS]; omega)]
    exact a3
  · simp only [dayO]
    split
    · omega
    · exact a4
end Go.Proofs.Ytfifldbinnkdmaa
