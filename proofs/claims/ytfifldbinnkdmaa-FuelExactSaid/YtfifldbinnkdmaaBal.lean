/- What accounts lose in a truth, in plain numbers. -/
import Derived.Test.YtfifldbinnkdmaaCheck
import Derived.Test.YtfifldbinnkdmaaPBook
import Derived.Test.YtfifldbinnkdmaaRef1
set_option linter.unusedVariables false
set_option linter.unusedSimpArgs false
set_option linter.unnecessarySimpa false
namespace Go.Proofs.Ytfifldbinnkdmaa
open Go.RowKit

def truA (b : Bok) (O C : List Int) (i : Nat) : Prop := ((ga b.accs i).op.lo ≤ gi O i ∧ gi O i ≤ (ga b.accs i).op.hi) ∧ (ga b.accs i).cl.lo ≤ gi C i ∧ gi C i ≤ (ga b.accs i).cl.hi
def truM (b : Bok) (V : List Int) (k : Nat) : Prop := (gm b.mvs k).li.lo ≤ gi V k ∧ gi V k ≤ (gm b.mvs k).li.hi
/-- The first accounts' litres that are gone, the other ones 0. -/
def lsA (O C : List Int) (n i : Nat) : List Int := (List.range n).map fun j => if j < i then gi O j - gi C j else 0
def addAt (l : List Int) (i : Nat) (d : Int) : List Int := l.set i (gi l i + d)
def lsM (b : Bok) (O C V : List Int) : Nat → List Int
  | 0 => lsA O C b.accs.length b.accs.length
  | k + 1 => addAt (addAt (lsM b O C V k) (gm b.mvs k).fr.toNat (-(gi V k))) (gm b.mvs k).to.toNat (gi V k)
def badA (b : Bok) (L : List Int) (i : Nat) : Prop := gi L i < 0 ∨ (0 < gi L i ∧ (ga b.accs i).kind = 2)
open Classical in
noncomputable def balE (b : Bok) (O C V : List Int) : Int :=
  if ¬ checkE b = 0 then checkE b else if ¬ (O.length = b.accs.length ∧ C.length = b.accs.length ∧ V.length = b.mvs.length) then 3 else
    if ¬ ((∀ i, i < b.accs.length → truA b O C i) ∧ ∀ k, k < b.mvs.length → truM b V k) then 2 else if ¬ (∀ i, i < b.accs.length → ¬ badA b (lsM b O C V b.mvs.length) i) then 12 else 0
noncomputable def balL (b : Bok) (O C V : List Int) : List Int := if balE b O C V = 0 then lsM b O C V b.mvs.length else []
/-- What Balance hands back. -/
def BalPost (b : Bok) (O C V : List Int) (w : World) : Ending → World → Prop := fun e w' => ∃ v, e = .returned (.tuple #[v, .int .i64 (balE b O C V)]) ∧ Ints w.heap.size w'.heap.size w' v (balL b O C V) ∧ w.grownBy w' none

theorem lsA_len (O C : List Int) (n i : Nat) : (lsA O C n i).length = n := by simp [lsA]
theorem lsA_zero (O C : List Int) (n : Nat) : lsA O C n 0 = List.replicate n 0 := by
  refine List.ext_getElem (by simp [lsA]) fun j h1 h2 => ?_
  simp [lsA]
theorem lsA_set {O C : List Int} {n i : Nat} (h : i < n) : (lsA O C n i).set i (gi O i - gi C i) = lsA O C n (i + 1) := by
  refine List.ext_getElem (by simp [lsA]) fun j h1 h2 => ?_
  rw [List.getElem_set]
  simp only [lsA, List.getElem_map, List.getElem_range]
  by_cases e : i = j
  · subst e; rw [if_pos rfl, if_pos (by omega)]
  · rw [if_neg e]
    by_cases h3 : j < i
    · rw [if_pos h3, if_pos (by omega)]
    · rw [if_neg h3, if_neg (by omega)]
theorem gi_lsA {O C : List Int} {n i j : Nat} (h : j < n) : gi (lsA O C n i) j = if j < i then gi O j - gi C j else 0 := by
  simp [gi, lsA, h]
theorem addAt_len (l : List Int) (i : Nat) (d : Int) : (addAt l i d).length = l.length := by simp [addAt]
theorem lsM_len (b : Bok) (O C V : List Int) : ∀ k, (lsM b O C V k).length = b.accs.length
  | 0 => lsA_len _ _ _ _
  | k + 1 => by rw [lsM, addAt_len, addAt_len, lsM_len b O C V k]
theorem gi_addAt {l : List Int} {i j : Nat} {d : Int} (h : i < l.length) : gi (addAt l i d) j = if j = i then gi l i + d else gi l j := gi_set h
theorem balE_check {b : Bok} {O C V : List Int} (h : ¬ checkE b = 0) : balE b O C V = checkE b := by rw [balE, if_pos h]
theorem balE_len {b : Bok} {O C V : List Int} (h : checkE b = 0) (h1 : ¬ (O.length = b.accs.length ∧ C.length = b.accs.length ∧ V.length = b.mvs.length)) : balE b O C V = 3 := by rw [balE, if_neg (not_not_intro h), if_pos h1]
theorem balE_rngA {b : Bok} {O C V : List Int} (h : checkE b = 0) (h1 : O.length = b.accs.length ∧ C.length = b.accs.length ∧ V.length = b.mvs.length) {i : Nat} (hi : i < b.accs.length) (h2 : ¬ truA b O C i) : balE b O C V = 2 := by
  rw [balE, if_neg (not_not_intro h), if_neg (not_not_intro h1), if_pos (fun h3 => h2 (h3.1 i hi))]
theorem balE_rngM {b : Bok} {O C V : List Int} (h : checkE b = 0) (h1 : O.length = b.accs.length ∧ C.length = b.accs.length ∧ V.length = b.mvs.length) {i : Nat} (hi : i < b.mvs.length) (h2 : ¬ truM b V i) : balE b O C V = 2 := by
  rw [balE, if_neg (not_not_intro h), if_neg (not_not_intro h1), if_pos (fun h3 => h2 (h3.2 i hi))]
theorem balE_bad {b : Bok} {O C V : List Int} (h : checkE b = 0) (h1 : O.length = b.accs.length ∧ C.length = b.accs.length ∧ V.length = b.mvs.length) (hA : ∀ i, i < b.accs.length → truA b O C i) (hM : ∀ k, k < b.mvs.length → truM b V k)
    {i : Nat} (hi : i < b.accs.length) (h2 : badA b (lsM b O C V b.mvs.length) i) : balE b O C V = 12 := by
  rw [balE, if_neg (not_not_intro h), if_neg (not_not_intro h1), if_neg (not_not_intro ⟨hA, hM⟩), if_pos (fun h3 => h3 i hi h2)]
theorem balE_ok {b : Bok} {O C V : List Int} (h : checkE b = 0) (h1 : O.length = b.accs.length ∧ C.length = b.accs.length ∧ V.length = b.mvs.length) (hA : ∀ i, i < b.accs.length → truA b O C i) (hM : ∀ k, k < b.mvs.length → truM b V k)
    (h2 : ∀ i, i < b.accs.length → ¬ badA b (lsM b O C V b.mvs.length) i) : balE b O C V = 0 := by
  rw [balE, if_neg (not_not_intro h), if_neg (not_not_intro h1), if_neg (not_not_intro ⟨hA, hM⟩), if_neg (not_not_intro h2)]
theorem balL_ok {b : Bok} {O C V : List Int} (h : balE b O C V = 0) : balL b O C V = lsM b O C V b.mvs.length := by rw [balL, if_pos h]
theorem balL_no {b : Bok} {O C V : List Int} (h : ¬ balE b O C V = 0) : balL b O C V = [] := by rw [balL, if_neg h]
theorem checked_bok {b : Bok} (h : checkE b = 0) : BokOk b := by
  refine formed_bok ?_
  unfold checkE at h
  split at h
  · assumption
  · exact h
theorem BalPost.no {b : Bok} {O C V : List Int} {w w' : World} {x : Int} (hx : balE b O C V = x) (h0 : ¬ x = 0) (hg : w.grownBy w' none) : BalPost b O C V w (.returned (.tuple #[.slice none 0 0, .int .i64 x])) w' :=
  ⟨_, by rw [hx], by rw [balL_no (by rw [hx]; exact h0)]; exact Sl.of_nil _ _, hg⟩
theorem BalPost.yes {b : Bok} {O C V : List Int} {w w' : World} {v : Value} (hx : balE b O C V = 0) (ho : Own intEnc 3 1 w.heap.size w' v (lsM b O C V b.mvs.length)) (hg : w.grownBy w' none) : BalPost b O C V w (.returned (.tuple #[v, .int .i64 0])) w' :=
  ⟨_, by rw [hx], by rw [balL_ok hx]; exact ho.sl (fun _ => rfl), hg⟩
theorem inB_not {n lo hi : Int} (h : inB n lo hi = false) : ¬ (lo ≤ n ∧ n ≤ hi) := by simpa [inB] using h
/-- The same, where only the first moves are known to be right. -/
theorem lsM_bdk {b : Bok} {O C V : List Int} (hb : BokOk b) (hA : ∀ i, i < b.accs.length → truA b O C i) {k : Nat} (hM : ∀ q, q < k + 1 → truM b V q) (hk : k < b.mvs.length) {j : Nat} (hj : j < b.accs.length) :
    -40000000000 ≤ gi (lsM b O C V k) j ∧ gi (lsM b O C V k) j ≤ 40000000000 := by
  have key : ∀ m, m ≤ k → ∀ j, j < b.accs.length → -(1000000000 * ((m : Int) + 1)) ≤ gi (lsM b O C V m) j ∧ gi (lsM b O C V m) j ≤ 1000000000 * ((m : Int) + 1) := by
    intro m
    induction m with
    | zero =>
      intro _ j hj
      rw [lsM, gi_lsA hj, if_pos hj]
      obtain ⟨⟨h1, h2⟩, h3, h4⟩ := hA j hj
      have h5 := (hb.acc j hj).op
      have h6 := (hb.acc j hj).cl
      omega
    | succ m ih =>
      intro hm j hj
      have h1 := (hb.mv m (by omega))
      have h2 := hM m (by omega)
      have h3 := h1.li
      unfold truM at h2
      have hf := h1.fr
      have ht := h1.to
      have hl := lsM_len b O C V m
      have ih := ih (by omega)
      have ihf := ih (gm b.mvs m).fr.toNat (by omega)
      have iht := ih (gm b.mvs m).to.toNat (by omega)
      have ihj := ih j hj
      have hne := h1.ne
      rw [lsM, gi_addAt (by rw [addAt_len]; omega), gi_addAt (by omega), gi_addAt (by omega)]
      push_cast
      split <;> split <;> omega
  have h := key k (Nat.le_refl _) j hj
  have := hb.m30
  omega
theorem mid_bdk {b : Bok} {O C V : List Int} (hb : BokOk b) (hA : ∀ i, i < b.accs.length → truA b O C i) {k : Nat} (hM : ∀ q, q < k + 1 → truM b V q) (hk : k < b.mvs.length) {j : Nat} (hj : j < b.accs.length) :
    -50000000000 ≤ gi (addAt (lsM b O C V k) (gm b.mvs k).fr.toNat (-(gi V k))) j ∧ gi (addAt (lsM b O C V k) (gm b.mvs k).fr.toNat (-(gi V k))) j ≤ 50000000000 := by
  have h1 := (hb.mv k hk)
  have h2 := hM k (by omega)
  have h3 := h1.li
  unfold truM at h2
  have hf := h1.fr
  have hl := lsM_len b O C V k
  have ihf := lsM_bdk hb hA hM hk (j := (gm b.mvs k).fr.toNat) (by omega)
  have ihj := lsM_bdk hb hA hM hk hj
  rw [gi_addAt (by omega)]
  split <;> omega
theorem gi_at {l : List Int} {i : Nat} (h : i < l.length) : l[i]? = some (gi l i) := by rw [gi_get h]; exact List.getElem?_eq_getElem h
theorem ga_at {l : List Acc} {i : Nat} (h : i < l.length) : l[i]? = some (ga l i) := by rw [ga_get h]; exact List.getElem?_eq_getElem h
theorem gm_at {l : List Mv} {i : Nat} (h : i < l.length) : l[i]? = some (gm l i) := by rw [gm_get h]; exact List.getElem?_eq_getElem h
/-- All numbers of a truth, all spans of a book. -/
def gs (l : List Sp) (i : Nat) : Sp := l.getD i ⟨0, 0⟩
theorem gs_at {l : List Sp} {i : Nat} (h : i < l.length) : l[i]? = some (gs l i) := by simp [gs, h]
def allIn (b : Bok) (N : List Int) (q : Nat) : Prop := (gs (spansL b) q).lo ≤ gi N q ∧ gi N q ≤ (gs (spansL b) q).hi
theorem spansL_len' (b : Bok) : (spansL b).length = b.accs.length + b.accs.length + b.mvs.length := by
  unfold spansL
  rw [List.length_append, List.length_append, spansA_len (Nat.le_refl _), spansA_len (Nat.le_refl _), spansM_len (Nat.le_refl _)]
theorem getD_l {α : Type} {a b : List α} {d : α} {i : Nat} (h : i < a.length) : (a ++ b).getD i d = a.getD i d := by
  rw [List.getD_eq_getElem?_getD, List.getElem?_append_left h, ← List.getD_eq_getElem?_getD]
theorem getD_r {α : Type} {a b : List α} {d : α} {i n : Nat} (h : a.length = n) : (a ++ b).getD (n + i) d = b.getD i d := by
  subst h
  rw [List.getD_eq_getElem?_getD, List.getElem?_append_right (by omega), Nat.add_sub_cancel_left, ← List.getD_eq_getElem?_getD]
theorem gs_spA {f : Acc → Sp} {l : List Acc} {i : Nat} (h : i < l.length) : (spansA f l l.length).getD i ⟨0, 0⟩ = f (ga l i) := by
  unfold spansA
  rw [List.take_length, List.getD_eq_getElem?_getD, List.getElem?_map, ga_at h]
  rfl
theorem gs_op {b : Bok} {i : Nat} (h : i < b.accs.length) : gs (spansL b) i = (ga b.accs i).op := by
  have h1 := spansA_len (f := fun x => x.op) (l := b.accs) (Nat.le_refl _)
  unfold gs spansL
  rw [getD_l (by rw [List.length_append]; omega), getD_l (by omega), gs_spA h]
theorem gs_cl {b : Bok} {i : Nat} (h : i < b.accs.length) : gs (spansL b) (b.accs.length + i) = (ga b.accs i).cl := by
  have h1 := spansA_len (f := fun x => x.op) (l := b.accs) (Nat.le_refl _)
  have h2 := spansA_len (f := fun x => x.cl) (l := b.accs) (Nat.le_refl _)
  unfold gs spansL
  rw [getD_l (by rw [List.length_append]; omega), getD_r h1, gs_spA h]
theorem gs_li {b : Bok} {k : Nat} (h : k < b.mvs.length) : gs (spansL b) (b.accs.length + b.accs.length + k) = (gm b.mvs k).li := by
  have h1 := spansA_len (f := fun x => x.op) (l := b.accs) (Nat.le_refl _)
  have h2 := spansA_len (f := fun x => x.cl) (l := b.accs) (Nat.le_refl _)
  unfold gs spansL
  rw [getD_r (by rw [List.length_append]; omega)]
  unfold spansM
  rw [List.take_length, List.getD_eq_getElem?_getD, List.getElem?_map, gm_at h]
  rfl
theorem gi_o {O C V : List Int} {i : Nat} (h : i < O.length) : gi (O ++ C ++ V) i = gi O i := by
  unfold gi
  rw [getD_l (by rw [List.length_append]; omega), getD_l h]
theorem gi_c {O C V : List Int} {i : Nat} (h : i < C.length) : gi (O ++ C ++ V) (O.length + i) = gi C i := by
  unfold gi
  rw [getD_l (by rw [List.length_append]; omega), getD_r rfl]
theorem gi_v {O C V : List Int} {i : Nat} : gi (O ++ C ++ V) (O.length + C.length + i) = gi V i := by
  unfold gi
  rw [getD_r (by rw [List.length_append])]
theorem all_tru {b : Bok} {O C V N : List Int} (hN : O ++ C ++ V = N) (hl : O.length = b.accs.length ∧ C.length = b.accs.length ∧ V.length = b.mvs.length) (h : ∀ q, q < (spansL b).length → allIn b N q) :
    (∀ i, i < b.accs.length → truA b O C i) ∧ ∀ k, k < b.mvs.length → truM b V k := by
  subst hN
  have hs := spansL_len' b
  obtain ⟨h1, h2, h3⟩ := hl
  refine ⟨fun i hi => ?_, fun k hk => ?_⟩
  · have a1 := h i (by omega)
    have a2 := h (b.accs.length + i) (by omega)
    unfold allIn at a1 a2
    rw [gs_op hi, gi_o (by omega)] at a1
    rw [gs_cl hi, ← h1, gi_c (by omega)] at a2
    exact ⟨a1, a2⟩
  · have a1 := h (b.accs.length + b.accs.length + k) (by omega)
    unfold allIn at a1
    rw [gs_li hk, show b.accs.length + b.accs.length + k = O.length + C.length + k by omega, gi_v] at a1
    exact a1
theorem tru_all {b : Bok} {O C V N : List Int} (hN : O ++ C ++ V = N) (hl : O.length = b.accs.length ∧ C.length = b.accs.length ∧ V.length = b.mvs.length) (h : (∀ i, i < b.accs.length → truA b O C i) ∧ ∀ k, k < b.mvs.length → truM b V k) {q : Nat} (hq : q < (spansL b).length) : allIn b N q := by
  subst hN
  have hs := spansL_len' b
  obtain ⟨h1, h2, h3⟩ := hl
  unfold allIn
  rcases Nat.lt_or_ge q b.accs.length with h4 | h4
  · rw [gs_op h4, gi_o (by omega)]
    exact (h.1 q h4).1
  · obtain ⟨i, rfl⟩ : ∃ i, q = b.accs.length + i := ⟨q - b.accs.length, by omega⟩
    rcases Nat.lt_or_ge i b.accs.length with h5 | h5
    · rw [gs_cl h5, ← h1, gi_c (by omega)]
      exact (h.1 i h5).2
    · obtain ⟨k, rfl⟩ : ∃ k, i = b.accs.length + k := ⟨i - b.accs.length, by omega⟩
      rw [← Nat.add_assoc, gs_li (by omega), show b.accs.length + b.accs.length + k = O.length + C.length + k by omega, gi_v]
      exact h.2 k (by omega)
theorem balE_rng {b : Bok} {O C V N : List Int} (h : checkE b = 0) (h1 : O.length = b.accs.length ∧ C.length = b.accs.length ∧ V.length = b.mvs.length) (hN : O ++ C ++ V = N) {q : Nat} (hq : q < (spansL b).length) (h2 : ¬ allIn b N q) : balE b O C V = 2 := by
  rw [balE, if_neg (not_not_intro h), if_neg (not_not_intro h1), if_pos (fun h3 => h2 (tru_all hN h1 h3 hq))]
theorem rspans_s (lo hi : Nat) (va vm : Value) (b : Bok) (w : World) (hb : HasB lo hi w va vm b) (hok : BokOk b) (h2 : hi ≤ w.heap.size) :
    Calls Try.prog 84 #[.agg #[va, vm]] w (fun e w' => ∃ (a : Option Addr) (c lo hi : Nat), e = .returned (.slice a (spansL b).length c) ∧ (w.heap.size ≤ lo ∧ hi ≤ w'.heap.size) ∧ Sl spEnc 2 lo hi w' (.slice a (spansL b).length c) (spansL b) ∧ w.grownBy w' none) := by
  refine (rspans_c lo hi va vm b w hb hok h2).mono ?_
  rintro e w' ⟨v, rfl, hs, hg⟩
  obtain ⟨a, c, rfl⟩ := hs.any
  exact ⟨a, c, _, _, rfl, ⟨Nat.le_refl _, Nat.le_refl _⟩, hs, hg⟩
end Go.Proofs.Ytfifldbinnkdmaa
