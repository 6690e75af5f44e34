/- build: what is known lies the later, the longer tasks take, and the less machines work. -/
import Derived.Test.YtokelpmngahnoaaJ0
set_option linter.unusedVariables false
set_option linter.unusedSimpArgs false
set_option linter.unnecessarySimpa false
namespace Go.Proofs.Ytokelpmngahnoaa
open Go.RowKit
/-- In the one case nothing takes longer, and machines work whenever they do in the other one. -/
structure CsLe (c d : Cs) : Prop where
  nd : c.nd = d.nd
  ho : ∀ i, 0 ≤ c.ho i ∧ c.ho i ≤ d.ho i
  wa : ∀ i, 0 ≤ c.wa i ∧ c.wa i ≤ d.wa i
  fr : ∀ i, 0 ≤ c.fr i ∧ c.fr i ≤ d.fr i
  m : ∀ i, c.m i = d.m i
  af : ∀ i, c.af i = d.af i
  aok : ∀ i, ∀ a ∈ c.af i, 0 ≤ a ∧ a < i
  sh : ∀ m, c.sh m = d.sh m
  wk : ∀ m h, d.wk m h = true → c.wk m h = true
theorem doneN_mono {f g : Nat → Bool} {past : Int} (hfg : ∀ h, g h = true → f h = true) : ∀ (k h n h' k' n' : Nat), h + k = h' + k' → ((h + k : Nat) : Int) < past → h ≤ h' → 1 ≤ n → n ≤ n' → doneN f past k h n ≤ doneN g past k' h' n'
  | 0, h, n, h', k', n', e, hp, hh, hn, hn' => by
    obtain rfl : k' = 0 := by omega
    rw [doneN, doneN]
    exact Int.le_refl _
  | k + 1, h, n, h', k', n', e, hp, hh, hn, hn' => by
    have hb := doneN_bd (f := g) (past := past) k' h' n' (by omega)
    rw [doneN]
    by_cases hlt : h < h'
    · split
      · split
        · omega
        · exact doneN_mono hfg k (h + 1) (n - 1) h' k' n' (by omega) (by omega) (by omega) (by omega) (by omega)
      · exact doneN_mono hfg k (h + 1) n h' k' n' (by omega) (by omega) (by omega) hn hn'
    · obtain rfl : h = h' := by omega
      obtain rfl : k' = k + 1 := by omega
      rw [doneN]
      by_cases hg : g h = true
      · rw [if_pos (hfg h hg), if_pos hg]
        by_cases h1 : n = 1
        · rw [if_pos h1]
          split
          · exact Int.le_refl _
          · have := doneN_bd (f := g) (past := past) k (h + 1) (n' - 1) (by omega)
            omega
        · rw [if_neg h1, if_neg (by omega)]
          exact doneN_mono hfg k (h + 1) (n - 1) (h + 1) k (n' - 1) rfl (by omega) (Nat.le_refl _) (by omega) (by omega)
      · rw [if_neg hg]
        split
        · split
          · have := doneN_bd (f := g) (past := past) k (h + 1) n' (by omega)
            omega
          · exact doneN_mono hfg k (h + 1) (n - 1) (h + 1) k n' rfl (by omega) (Nat.le_refl _) (by omega) (by omega)
        · exact doneN_mono hfg k (h + 1) n (h + 1) k n' rfl (by omega) (Nat.le_refl _) hn hn'
section
variable {c d : Cs} (h : CsLe c d)
include h
theorem CsLe.past : c.past = d.past := by unfold Cs.past; rw [h.nd]
theorem CsLe.wh (m : Int) (x : Nat) (hx : d.wh m x = true) : c.wh m x = true := by
  unfold Cs.wh at hx ⊢
  rw [Bool.and_eq_true] at hx ⊢
  exact ⟨h.wk m _ hx.1, by rw [h.sh]; exact hx.2⟩
theorem CsLe.fin {m b b' n n' : Int} (hb : 0 ≤ b) (hbb : b ≤ b') (hb' : b' ≤ d.past) (hn : 0 ≤ n) (hnn : n ≤ n') : c.fin m b n ≤ d.fin m b' n' := by
  have hp := h.past
  have h1 := c.fin_bd (m := m) (n := n) hb (by omega)
  have h2 := d.fin_bd (m := m) (n := n') (by omega : 0 ≤ b') hb'
  by_cases hlt : d.past ≤ b'
  · omega
  · by_cases h0 : n = 0
    · have : c.fin m b n = b := by unfold Cs.fin; rw [if_neg (by omega), if_pos h0]
      omega
    · unfold Cs.fin
      rw [if_neg (by omega), if_neg h0, if_neg hlt, if_neg (by omega)]
      have hcd := h.nd
      have hpd : d.past = 24 * (d.nd : Int) + 1 := rfl
      rw [hp, hcd]
      exact doneN_mono (fun x hx => h.wh m x hx) _ _ _ _ _ _ (by omega) (by omega) (by omega) (by omega) (by omega)
theorem CsLe.last {P P' : List (Int × Int)} (m : Int) : ∀ k : Nat, (∀ i, i < k → enAt P i ≤ enAt P' i) → c.last P m k ≤ d.last P' m k
  | 0, _ => Int.le_refl _
  | k + 1, hP => by
    rw [Cs.last, Cs.last, h.m]
    split
    · exact hP k (by omega)
    · exact CsLe.last m k (fun i hi => hP i (by omega))
theorem CsLe.aft {P P' : List (Int × Int)} {n : Nat} (hP : ∀ i, i < n → enAt P i ≤ enAt P' i) : ∀ (l : List Int) (b b' : Int), (∀ a ∈ l, 0 ≤ a ∧ a < n) → b ≤ b' → c.aft P b l ≤ d.aft P' b' l
  | [], b, b', _, hb => hb
  | a :: l, b, b', hl, hb => by
    have h1 := hl a (.head _)
    have h2 := hP a.toNat (by omega)
    have h3 := h.wa a.toNat
    have := CsLe.aft hP l (max b (enAt P a.toNat + c.wa a.toNat)) (max b' (enAt P' a.toNat + d.wa a.toNat)) (fun x hx => hl x (.tail _ hx)) (by omega)
    unfold Cs.aft at this ⊢
    rw [List.foldl_cons, List.foldl_cons]
    exact this
theorem CsLe.bgn {i : Nat} (hP : ∀ k, k < i → enAt (c.plan i) k ≤ enAt (d.plan i) k) : c.bgn (c.plan i) i ≤ d.bgn (d.plan i) i := by
  have h1 := CsLe.last h (P := c.plan i) (P' := d.plan i) (c.m i) i hP
  have h2 := h.fr i
  have h3 := h.past
  have h4 := CsLe.aft h hP (c.af i) (max (c.fr i) (c.last (c.plan i) (c.m i) i)) (max (d.fr i) (d.last (d.plan i) (c.m i) i)) (h.aok i) (by omega)
  unfold Cs.bgn
  rw [← h.m, ← h.af]
  omega
theorem CsLe.plan : ∀ (n k : Nat), k < n → bgAt (c.plan n) k ≤ bgAt (d.plan n) k ∧ enAt (c.plan n) k ≤ enAt (d.plan n) k
  | 0, k, hk => by omega
  | n + 1, k, hk => by
    rcases Nat.lt_or_ge k n with h1 | h1
    · have := CsLe.plan n k h1
      rw [c.bg_le (n := n + 1) hk, d.bg_le (n := n + 1) hk, c.en_le (n := n + 1) hk, d.en_le (n := n + 1) hk, ← c.bg_le h1, ← d.bg_le h1, ← c.en_le h1, ← d.en_le h1]
      exact this
    · obtain rfl : k = n := by omega
      have hb := CsLe.bgn h (i := k) (fun j hj => (CsLe.plan k j hj).2)
      rw [c.bg_new, d.bg_new, c.en_new, d.en_new, ← h.m]
      have h2 := c.bgn_bd (fun i => (h.fr i).1) (c.plan k) k
      have h3 := d.bgn_bd (fun i => Int.le_trans (h.fr i).1 (h.fr i).2) (d.plan k) k
      exact ⟨hb, CsLe.fin h h2.1 hb h3.2 (h.ho k).1 (h.ho k).2⟩
theorem CsLe.opn : ∀ n : Nat, c.opn n ≤ d.opn n
  | 0 => Int.le_refl _
  | n + 1 => by
    have h1 := CsLe.opn n
    have h2 := (CsLe.plan h (n + 1) n (by omega)).2
    have h3 := h.wa n
    have h4 := h.past
    rw [Cs.opn, Cs.opn]
    omega
end
theorem wk_never {x : Mch} {d d' : Wea} (hc : d.cold.lo ≤ d'.cold.lo ∧ d'.cold.lo ≤ d'.cold.hi ∧ d'.cold.hi ≤ d.cold.hi) (hm : x.mild ≤ x.hard) (h : wkB false (wkV x d') = true) : wkB false (wkV x d) = true := by
  unfold wkB wkV at *
  simp only [Bool.false_eq_true, if_false, Bool.not_eq_true', decide_eq_false_iff_not] at *
  revert h
  repeat' split
  all_goals omega
theorem wk_sure {x : Mch} {d d' : Wea} (hc : d.cold.lo ≤ d'.cold.lo ∧ d'.cold.lo ≤ d'.cold.hi ∧ d'.cold.hi ≤ d.cold.hi) (h : wkB true (wkV x d) = true) : wkB true (wkV x d') = true := by
  unfold wkB wkV at *
  simp only [if_true, decide_eq_true_eq] at *
  revert h
  repeat' split
  all_goals omega
/-- Tasks, and days, within others. -/
def subS (a b : Sp) : Prop := b.lo ≤ a.lo ∧ a.lo ≤ a.hi ∧ a.hi ≤ b.hi
def subT (a b : Tsk) : Prop := a.m = b.m ∧ subS a.ho b.ho ∧ subS a.wa b.wa ∧ subS a.fr b.fr ∧ a.af = b.af
def subTs (a b : List Tsk) : Prop := a.length = b.length ∧ ∀ (i : Nat) (x y : Tsk), a[i]? = some x → b[i]? = some y → subT x y
def subDs (a b : List Wea) : Prop := a.length = b.length ∧ ∀ (i : Nat) (x y : Wea), a[i]? = some x → b[i]? = some y → subS x.cold y.cold
theorem subTs.at_ {a b : List Tsk} (h : subTs a b) (i : Nat) : subT (tk a i) (tk b i) := by
  rcases Nat.lt_or_ge i a.length with h1 | h1
  · have ha := List.getElem?_eq_getElem h1
    have hb := List.getElem?_eq_getElem (l := b) (i := i) (by rw [← h.1]; exact h1)
    rw [tk_get ha, tk_get hb]
    exact h.2 i _ _ ha hb
  · unfold tk
    rw [List.getD_eq_getElem?_getD, List.getD_eq_getElem?_getD, List.getElem?_eq_none h1, List.getElem?_eq_none (by rw [← h.1]; exact h1)]
    refine ⟨rfl, ?_, ?_, ?_, rfl⟩ <;> exact ⟨Int.le_refl _, Int.le_refl _, Int.le_refl _⟩
theorem subDs.at_ {a b : List Wea} (h : subDs a b) (i : Nat) : subS (dy a i).cold (dy b i).cold := by
  rcases Nat.lt_or_ge i a.length with h1 | h1
  · have ha := List.getElem?_eq_getElem h1
    have hb := List.getElem?_eq_getElem (l := b) (i := i) (by rw [← h.1]; exact h1)
    rw [dy_get ha, dy_get hb]
    exact h.2 i _ _ ha hb
  · unfold dy
    rw [List.getD_eq_getElem?_getD, List.getD_eq_getElem?_getD, List.getElem?_eq_none h1, List.getElem?_eq_none (by rw [← h.1]; exact h1)]
    exact ⟨Int.le_refl _, Int.le_refl _, Int.le_refl _⟩
theorem mc_ok {ms : List Mch} {ts : List Tsk} (h : JobOk ms ts) (i : Nat) : (mc ms i).mild ≤ (mc ms i).hard := by
  rcases hi : ms[i]? with _ | x
  · unfold mc; rw [List.getD_eq_getElem?_getD, hi]; exact Int.le_refl _
  · rw [mc_get hi]; exact (h.mo x (List.mem_of_getElem? hi)).mild.2.1
theorem tk_aok {ms : List Mch} {ts : List Tsk} (h : JobOk ms ts) (i : Nat) : ∀ a ∈ (tk ts i).af, 0 ≤ a ∧ a < i := by
  rcases hi : ts[i]? with _ | t
  · unfold tk; rw [List.getD_eq_getElem?_getD, hi]; exact fun a ha => by simp at ha
  · rw [tk_get hi]; exact (h.to_ i t hi).af
/-- The best case of the wider job is no later than that of the narrower one; the worst case the other way round. -/
theorem narrow_best {ms : List Mch} {ts ts' : List Tsk} {dl dl' : List Wea} (h : JobOk ms ts) (ht : subTs ts' ts) (hd : subDs dl' dl) : CsLe (caseOf false ms ts dl) (caseOf false ms ts' dl') := by
  have hk := fun i => tk_ok h i
  refine ⟨hd.1.symm, fun i => ?_, fun i => ?_, fun i => ?_, fun i => (ht.at_ i).1.symm, fun i => (ht.at_ i).2.2.2.2.symm, fun i => tk_aok h i, fun _ => rfl, fun m x hx => ?_⟩
  · have := hk i; have := (ht.at_ i).2.1.1
    show 0 ≤ (tk ts i).ho.lo ∧ (tk ts i).ho.lo ≤ (tk ts' i).ho.lo
    omega
  · have := hk i; have := (ht.at_ i).2.2.1.1
    show 0 ≤ (tk ts i).wa.lo ∧ (tk ts i).wa.lo ≤ (tk ts' i).wa.lo
    omega
  · have := hk i; have := (ht.at_ i).2.2.2.1.1
    show 0 ≤ (tk ts i).fr.lo ∧ (tk ts i).fr.lo ≤ (tk ts' i).fr.lo
    omega
  · have h1 := hd.at_ x
    exact wk_never ⟨h1.1, h1.2.1, h1.2.2⟩ (mc_ok h _) hx
theorem narrow_worst {ms : List Mch} {ts ts' : List Tsk} {dl dl' : List Wea} (h : JobOk ms ts) (ht : subTs ts' ts) (hd : subDs dl' dl) : CsLe (caseOf true ms ts' dl') (caseOf true ms ts dl) := by
  have hk := fun i => tk_ok h i
  refine ⟨hd.1, fun i => ?_, fun i => ?_, fun i => ?_, fun i => (ht.at_ i).1, fun i => (ht.at_ i).2.2.2.2, fun i a ha => ?_, fun _ => rfl, fun m x hx => ?_⟩
  · have := hk i; have := (ht.at_ i).2.1
    show 0 ≤ (tk ts' i).ho.hi ∧ (tk ts' i).ho.hi ≤ (tk ts i).ho.hi
    unfold subS at this
    omega
  · have := hk i; have := (ht.at_ i).2.2.1
    show 0 ≤ (tk ts' i).wa.hi ∧ (tk ts' i).wa.hi ≤ (tk ts i).wa.hi
    unfold subS at this
    omega
  · have := hk i; have := (ht.at_ i).2.2.2.1
    show 0 ≤ (tk ts' i).fr.hi ∧ (tk ts' i).fr.hi ≤ (tk ts i).fr.hi
    unfold subS at this
    omega
  · have e := (ht.at_ i).2.2.2.2
    have ha' : a ∈ (tk ts' i).af := ha
    rw [e] at ha'
    exact tk_aok h i a ha'
  · have h1 := hd.at_ x
    exact wk_sure ⟨h1.1, h1.2.1, h1.2.2⟩ hx
end Go.Proofs.Ytokelpmngahnoaa
