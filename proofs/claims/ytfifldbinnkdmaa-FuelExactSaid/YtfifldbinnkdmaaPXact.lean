/- What all truths of a small book have, and the ends of what is known; in plain numbers. -/
import Derived.Test.YtfifldbinnkdmaaKE
import Derived.Test.YtfifldbinnkdmaaNums
set_option linter.unusedVariables false
set_option linter.unusedSimpArgs false
set_option linter.unnecessarySimpa false
namespace Go.Proofs.Ytfifldbinnkdmaa
open Go.RowKit

theorem gDl {α : Type} {l m : List α} {k : Nat} {d : α} (h : k < l.length) : (l ++ m).getD k d = l.getD k d := by simp [List.getElem?_append_left h]
theorem gDr {α : Type} {l m : List α} {k : Nat} {d : α} (h : l.length ≤ k) : (l ++ m).getD k d = m.getD (k - l.length) d := by simp [List.getElem?_append_right h]
/-- Numbers of a round and of the one ahead of it: those before place j are of the later round. -/
def mixF (N : Nat) (f : Nat → Nat → Int) (p j : Nat) : List Int := (List.range N).map fun k => if k < j then f k (p + 1) else f k p
theorem mixF_len (N : Nat) (f : Nat → Nat → Int) (p j : Nat) : (mixF N f p j).length = N := by simp [mixF]
theorem mixF_at {N : Nat} {f : Nat → Nat → Int} {p j : Nat} (h : j < N) : (mixF N f p j)[j]? = some (f j p) := by simp [mixF, h]
theorem mixF_zero {N : Nat} {f : Nat → Nat → Int} {p j : Nat} (h : j < N) : (mixF N f p 0)[j]? = some (f j p) := by simp [mixF, h]
theorem mixF_set {N : Nat} {f : Nat → Nat → Int} {p j : Nat} (h : j < N) : (mixF N f p j).set j (f j (p + 1)) = mixF N f p (j + 1) := by
  refine List.ext_getElem (by rw [List.length_set, mixF_len, mixF_len]) fun k h1 h2 => ?_
  rw [List.getElem_set]
  simp only [mixF, List.getElem_map, List.getElem_range]
  by_cases e : j = k
  · subst e; simp
  · rw [if_neg e]
    have e1 : (k < j) = (k < j + 1) := by apply propext; omega
    simp only [e1]
theorem mixF_next {N : Nat} {f : Nat → Nat → Int} {p : Nat} : mixF N f p N = mixF N f (p + 1) 0 := by
  refine List.ext_getElem (by rw [mixF_len, mixF_len]) fun k h1 h2 => ?_
  rw [mixF_len] at h1
  simp [mixF, h1]
def trZ : TrV := ⟨none, 0, none, 0, none, 0, [], [], [], 0, 0, 0, 0, 0, 0⟩
def gt (T : List TrV) (i : Nat) : TrV := T.getD i trZ
theorem gt_at {T : List TrV} {i : Nat} (h : i < T.length) : T[i]? = some (gt T i) := by simp [gt, h]
theorem gt_mem {T : List TrV} {i : Nat} (h : i < T.length) : gt T i ∈ T := List.mem_of_getElem? (gt_at h)
def nT (b : Bok) (t : TrV) : List Int := numsL b t.O t.C t.V
def nN (b : Bok) (T : List TrV) (i k : Nat) : Int := gi (nT b (gt T i)) k
def loF (b : Bok) (T : List TrV) (k : Nat) : Nat → Int
  | 0 => nN b T 0 k
  | i + 1 => min (loF b T k i) (nN b T (i + 1) k)
def hiF (b : Bok) (T : List TrV) (k : Nat) : Nat → Int
  | 0 => nN b T 0 k
  | i + 1 => max (hiF b T k i) (nN b T (i + 1) k)
theorem loF_is {b : Bok} {T : List TrV} {k : Nat} : ∀ p, (∃ i, i ≤ p ∧ nN b T i k = loF b T k p) ∧ ∀ i, i ≤ p → loF b T k p ≤ nN b T i k
  | 0 => ⟨⟨0, Nat.le_refl _, rfl⟩, fun i hi => by have e : i = 0 := by omega
                                                  subst e; exact Int.le_refl _⟩
  | p + 1 => by
    obtain ⟨⟨i, h1, h2⟩, h3⟩ := loF_is (b := b) (T := T) (k := k) p
    refine ⟨?_, fun j hj => ?_⟩
    · simp only [loF]
      by_cases c : loF b T k p ≤ nN b T (p + 1) k
      · exact ⟨i, by omega, by rw [h2]; omega⟩
      · exact ⟨p + 1, Nat.le_refl _, by omega⟩
    · simp only [loF]
      by_cases c : j ≤ p
      · have := h3 j c; omega
      · have e : j = p + 1 := by omega
        subst e; omega
theorem hiF_is {b : Bok} {T : List TrV} {k : Nat} : ∀ p, (∃ i, i ≤ p ∧ nN b T i k = hiF b T k p) ∧ ∀ i, i ≤ p → nN b T i k ≤ hiF b T k p
  | 0 => ⟨⟨0, Nat.le_refl _, rfl⟩, fun i hi => by have e : i = 0 := by omega
                                                  subst e; exact Int.le_refl _⟩
  | p + 1 => by
    obtain ⟨⟨i, h1, h2⟩, h3⟩ := hiF_is (b := b) (T := T) (k := k) p
    refine ⟨?_, fun j hj => ?_⟩
    · simp only [hiF]
      by_cases c : nN b T (p + 1) k ≤ hiF b T k p
      · exact ⟨i, by omega, by rw [h2]; omega⟩
      · exact ⟨p + 1, Nat.le_refl _, by omega⟩
    · simp only [hiF]
      by_cases c : j ≤ p
      · have := h3 j c; omega
      · have e : j = p + 1 := by omega
        subst e; omega
/-- How many numbers a truth has. -/
def nM (b : Bok) : Nat := b.accs.length + 1 + b.accs.length + b.accs.length + b.mvs.length
theorem nT_len {b : Bok} {O C V : List Int} (h : O.length = b.accs.length ∧ C.length = b.accs.length ∧ V.length = b.mvs.length) : (numsL b O C V).length = nM b := by
  simp [numsL, lsM_len, nM, h.1, h.2.1, h.2.2]
  omega
theorem first_lo {b : Bok} {T : List TrV} (h : (nT b (gt T 0)).length = nM b) : nT b (gt T 0) = mixF (nM b) (loF b T) 0 0 := by
  refine List.ext_getElem (by rw [mixF_len, h]) fun k h1 h2 => ?_
  simp [mixF, loF, nN, gi, h1]
theorem first_hi {b : Bok} {T : List TrV} (h : (nT b (gt T 0)).length = nM b) : nT b (gt T 0) = mixF (nM b) (hiF b T) 0 0 := by
  refine List.ext_getElem (by rw [mixF_len, h]) fun k h1 h2 => ?_
  simp [mixF, hiF, nN, gi, h1]
theorem dueL_at {b : Bok} {i : Nat} (h : i < b.accs.length) : (lossL b)[i]? = some (lossA b i) := by simp [lossL, h]
theorem dueL_l (b : Bok) : (lossL b).length = b.accs.length := by simp [lossL]
/-- The ends that are due: of losses, of the total, of the refined book. -/
def dueL (b fb : Bok) : List Sp := lossL b ++ [lossT b] ++ spansL fb
theorem dueL_len {b fb : Bok} (h : fb.accs.length = b.accs.length ∧ fb.mvs.length = b.mvs.length) : (dueL b fb).length = nM b := by
  simp only [dueL, List.length_append, dueL_l, spansL_len', nM, List.length_cons, List.length_nil, h.1, h.2]
  omega
section
variable {b : Bok} {O C V : List Int}
theorem num_l (h : BokOk b) {k : Nat} (hk : k < b.accs.length) : gi (numsL b O C V) k = losA b O C V k := by
  have hl := lsM_len b O C V b.mvs.length
  have e := lsM_los (O := O) (C := C) (V := V) h.mv b.mvs.length (Nat.le_refl _) k hk
  unfold numsL gi
  rw [List.append_assoc, List.append_assoc, List.append_assoc, gDl (by omega)]
  exact e
theorem sumN_eq {f g : Nat → Int} : ∀ n, (∀ k, k < n → f k = g k) → sumN f n = sumN g n
  | 0, _ => rfl
  | n + 1, h => by simp only [sumN]; rw [sumN_eq n fun k hk => h k (by omega), h n (by omega)]
theorem num_t (h : BokOk b) : gi (numsL b O C V) b.accs.length = sumN (losA b O C V) b.accs.length := by
  have hl := lsM_len b O C V b.mvs.length
  have e := lsM_los (O := O) (C := C) (V := V) h.mv b.mvs.length (Nat.le_refl _)
  have e2 : sumN (fun k => gi (lsM b O C V b.mvs.length) k) b.accs.length = sumN (losA b O C V) b.accs.length := sumN_eq _ e
  rw [← e2]
  unfold numsL gi
  rw [List.append_assoc, List.append_assoc, List.append_assoc, gDr (by omega), hl]
  simp
variable (hl : O.length = b.accs.length ∧ C.length = b.accs.length ∧ V.length = b.mvs.length)
include hl
theorem num_o {k : Nat} (hk : k < b.accs.length) : gi (numsL b O C V) (b.accs.length + 1 + k) = gi O k := by
  have h1 := lsM_len b O C V b.mvs.length
  unfold numsL gi
  rw [List.append_assoc, List.append_assoc, gDr (by simp; omega), gDl (by simp; omega)]
  simp [h1]
theorem num_c {k : Nat} (hk : k < b.accs.length) : gi (numsL b O C V) (b.accs.length + 1 + b.accs.length + k) = gi C k := by
  have h1 := lsM_len b O C V b.mvs.length
  unfold numsL gi
  rw [List.append_assoc, gDr (by simp; omega), gDl (by simp; omega)]
  simp [h1, hl.1]
  congr 2
  omega
theorem num_v {k : Nat} (hk : k < b.mvs.length) : gi (numsL b O C V) (b.accs.length + 1 + b.accs.length + b.accs.length + k) = gi V k := by
  have h1 := lsM_len b O C V b.mvs.length
  unfold numsL gi
  rw [gDr (by simp; omega)]
  simp [h1, hl.1, hl.2.1]
  congr 2
  omega
end
theorem due_l {b fb : Bok} {k : Nat} (hk : k < b.accs.length) : gs (dueL b fb) k = lossA b k := by
  unfold dueL gs
  rw [List.append_assoc, gDl (by rw [dueL_l]; exact hk)]
  rw [List.getD_eq_getElem?_getD, dueL_at hk]
  rfl
theorem due_t {b fb : Bok} : gs (dueL b fb) b.accs.length = lossT b := by
  unfold dueL gs
  rw [gDl (by rw [List.length_append, dueL_l]; simp), gDr (by rw [dueL_l]; exact Nat.le_refl _), dueL_l]
  simp
theorem due_s {b fb : Bok} (k : Nat) : gs (dueL b fb) (b.accs.length + 1 + k) = gs (spansL fb) k := by
  unfold dueL gs
  rw [gDr (by rw [List.length_append, dueL_l]; simp), List.length_append, dueL_l]
  congr 1
  simp
theorem Ends.like {P Q : Int → Prop} {s : Sp} (h : Ends P s) (e : ∀ v, Q v ↔ P v) : Ends Q s :=
  ⟨(e _).2 h.1, (e _).2 h.2.1, fun v hv => h.2.2 v ((e v).1 hv)⟩
/-- Each of these ends is that of a truth. -/
theorem due_ends {b : Bok} (hok : BokOk b) (hc : Calm b) {k : Nat} (hk : k < nM b) : Ends (fun v => ∃ O C V, TruL b O C V ∧ gi (numsL b O C V) k = v) (gs (dueL b (refB b)) k) := by
  have hn := ref_nar (b := b)
  rcases Nat.lt_trichotomy k b.accs.length with c | c | c
  · rw [due_l c]
    refine (ends_loss hok hc c).like fun v => ?_
    constructor <;> rintro ⟨O, C, V, h1, h2⟩ <;> refine ⟨O, C, V, h1, ?_⟩
    · rw [← h2, num_l hok c]
    · rw [num_l hok c]; exact h2
  · subst c
    rw [due_t]
    refine (ends_tot hok hc).like fun v => ?_
    constructor <;> rintro ⟨O, C, V, h1, h2⟩ <;> refine ⟨O, C, V, h1, ?_⟩
    · rw [← h2, num_t hok]
    · rw [num_t hok]; exact h2
  · obtain ⟨j, rfl⟩ : ∃ j, k = b.accs.length + 1 + j := ⟨k - b.accs.length - 1, by omega⟩
    rw [due_s]
    unfold nM at hk
    have hn1 := hn.n
    have hn2 := hn.m
    rcases Nat.lt_or_ge j b.accs.length with d | d
    · rw [gs_op (by omega), ga_ref d]
      refine (ends_op hok hc d).like fun v => ?_
      constructor <;> rintro ⟨O, C, V, h1, h2⟩ <;> refine ⟨O, C, V, h1, ?_⟩
      · rw [← h2, num_o h1.1 d]
      · rw [num_o h1.1 d]; exact h2
    · rcases Nat.lt_or_ge j (b.accs.length + b.accs.length) with f | f
      · obtain ⟨i, rfl⟩ : ∃ i, j = b.accs.length + i := ⟨j - b.accs.length, by omega⟩
        have e : gs (spansL (refB b)) (b.accs.length + i) = narC b i := by
          have e1 := gs_cl (b := refB b) (i := i) (by omega)
          rw [hn1] at e1
          rw [e1, ga_ref (by omega)]
        rw [e]
        refine (ends_cl hok hc (by omega)).like fun v => ?_
        constructor <;> rintro ⟨O, C, V, h1, h2⟩ <;> refine ⟨O, C, V, h1, ?_⟩
        · rw [← h2, ← Nat.add_assoc, num_c h1.1 (by omega)]
        · rw [← Nat.add_assoc, num_c h1.1 (by omega)]; exact h2
      · obtain ⟨i, rfl⟩ : ∃ i, j = b.accs.length + b.accs.length + i := ⟨j - b.accs.length - b.accs.length, by omega⟩
        have e : gs (spansL (refB b)) (b.accs.length + b.accs.length + i) = narL b i := by
          have e1 := gs_li (b := refB b) (k := i) (by omega)
          rw [hn1] at e1
          rw [e1, gm_ref (by omega)]
        rw [e]
        refine (ends_li hok hc (by omega)).like fun v => ?_
        constructor <;> rintro ⟨O, C, V, h1, h2⟩ <;> refine ⟨O, C, V, h1, ?_⟩
        · rw [← h2, show b.accs.length + 1 + (b.accs.length + b.accs.length + i) = b.accs.length + 1 + b.accs.length + b.accs.length + i by omega, num_v h1.1 (by omega)]
        · rw [show b.accs.length + 1 + (b.accs.length + b.accs.length + i) = b.accs.length + 1 + b.accs.length + b.accs.length + i by omega, num_v h1.1 (by omega)]; exact h2
section
variable {b : Bok} {T : List TrV} (hok : BokOk b) (hc : Calm b) (hT : TruS b (sizeC (spansL b)) T)
include hok hc hT
theorem trus_pos : 0 < T.length := by
  obtain ⟨O, C, V, h⟩ := some_truth hok hc
  obtain ⟨t, ht, _⟩ := hT.done (Nat.le_refl _) h
  exact List.length_pos_of_mem ht
theorem due_is {k : Nat} (hk : k < nM b) : gs (dueL b (refB b)) k = ⟨loF b T k (T.length - 1), hiF b T k (T.length - 1)⟩ := by
  have h0 := trus_pos hok hc hT
  obtain ⟨e1, e2, e3⟩ := due_ends hok hc hk
  have at_ : ∀ v, (∃ O C V, TruL b O C V ∧ gi (numsL b O C V) k = v) → ∃ i, i ≤ T.length - 1 ∧ nN b T i k = v := by
    rintro v ⟨O, C, V, h1, h2⟩
    obtain ⟨t, ht, rfl, rfl, rfl⟩ := hT.done (Nat.le_refl _) h1
    obtain ⟨i, hi, rfl⟩ := List.getElem_of_mem ht
    refine ⟨i, by omega, ?_⟩
    rw [← h2]
    simp [nN, nT, gt, hi]
  have in_ : ∀ i, i ≤ T.length - 1 → (gs (dueL b (refB b)) k).lo ≤ nN b T i k ∧ nN b T i k ≤ (gs (dueL b (refB b)) k).hi := fun i hi =>
    e3 _ ⟨_, _, _, hT.one _ (gt_mem (show i < T.length by omega)), rfl⟩
  obtain ⟨⟨i1, a1, a2⟩, a3⟩ := loF_is (b := b) (T := T) (k := k) (T.length - 1)
  obtain ⟨⟨j1, b1, b2⟩, b3⟩ := hiF_is (b := b) (T := T) (k := k) (T.length - 1)
  obtain ⟨i, p1, p2⟩ := at_ _ e1
  obtain ⟨j, q1, q2⟩ := at_ _ e2
  have r1 := a3 i p1
  have r2 := in_ i1 a1
  have r3 := b3 j q1
  have r4 := in_ j1 b1
  have l1 : (gs (dueL b (refB b)) k).lo = loF b T k (T.length - 1) := by omega
  have l2 : (gs (dueL b (refB b)) k).hi = hiF b T k (T.length - 1) := by omega
  rw [← l1, ← l2]
end
theorem trus_none {b : Bok} {T : List TrV} {i : Nat} (hc : ¬ Calm b) (hT : TruS b i T) : T = [] := by
  cases T with
  | nil => rfl
  | cons t T =>
    exfalso
    exact hc (calm_iff.1 (calm_tru (hT.one t (.head _)).2 _))
end Go.Proofs.Ytfifldbinnkdmaa
