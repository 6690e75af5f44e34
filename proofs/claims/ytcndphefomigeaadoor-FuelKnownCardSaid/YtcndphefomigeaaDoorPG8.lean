/- The reference's cuts: spans, sets, accounts that may lose. -/
import Derived.Test.YtcndphefomigeaaDoorPG7
import Derived.Test.YtcndphefomigeaaDoorPMarks
import Derived.Deep.QuietTactic
import Derived.BigQuiet
import Derived.Test.YtcndphefomigeaaDoorPCheck
import Derived.Test.YtcndphefomigeaaDoorPPBook
set_option linter.unusedVariables false
set_option linter.unusedSimpArgs false
set_option linter.unnecessarySimpa false
namespace Go.Proofs.YtcndphefomigeaaDoor
open Go.RowKit Go.Shelf
set_option maxRecDepth 100000

end Go.Proofs.YtcndphefomigeaaDoor
/- What accounts lose in a truth, in plain numbers. -/
namespace Go.Proofs.YtcndphefomigeaaDoor
open Go.RowKit

def truA (b : Bok) (O C : List Int) (i : Nat) : Prop := ((ga b.accs i).op.lo ≤ gi O i ∧ gi O i ≤ (ga b.accs i).op.hi) ∧ (ga b.accs i).cl.lo ≤ gi C i ∧ gi C i ≤ (ga b.accs i).cl.hi
def truM (b : Bok) (V : List Int) (k : Nat) : Prop := (gm b.mvs k).li.lo ≤ gi V k ∧ gi V k ≤ (gm b.mvs k).li.hi
/-- The first accounts' litres that are gone, the other ones 0. -/
def lsA (O C : List Int) (n i : Nat) : List Int := (List.range n).map fun j => if j < i then gi O j - gi C j else 0
def addAt (l : List Int) (i : Nat) (d : Int) : List Int := l.set i (gi l i + d)
def lsM (b : Bok) (O C V : List Int) : Nat → List Int
  | 0 => lsA O C b.accs.length b.accs.length
  | k + 1 => addAt (addAt (lsM b O C V k) (gm b.mvs k).fr.toNat (-(gi V k))) (gm b.mvs k).to.toNat (gi V k)
def badA (b : Bok) (L : List Int) (i : Nat) : Prop := gi L i < 0 ∨ (0 < gi L i ∧ (ga b.accs i).kind = 2)
open Classical in
noncomputable def balE (b : Bok) (O C V : List Int) : Int :=
  if ¬ checkE b = 0 then checkE b else if ¬ (O.length = b.accs.length ∧ C.length = b.accs.length ∧ V.length = b.mvs.length) then 3 else
    if ¬ ((∀ i, i < b.accs.length → truA b O C i) ∧ ∀ k, k < b.mvs.length → truM b V k) then 2 else if ¬ (∀ i, i < b.accs.length → ¬ badA b (lsM b O C V b.mvs.length) i) then 12 else 0
noncomputable def balL (b : Bok) (O C V : List Int) : List Int := if balE b O C V = 0 then lsM b O C V b.mvs.length else []
/-- What Balance hands back. -/
def BalPost (b : Bok) (O C V : List Int) (w : World) : Ending → World → Prop := fun e w' => ∃ v, e = .returned (.tuple #[v, .int .i64 (balE b O C V)]) ∧ Ints w.heap.size w'.heap.size w' v (balL b O C V) ∧ w.grownBy w' none

theorem lsA_len (O C : List Int) (n i : Nat) : (lsA O C n i).length = n := by simp [lsA]
theorem lsA_zero (O C : List Int) (n : Nat) : lsA O C n 0 = List.replicate n 0 := by
  refine List.ext_getElem (by simp [lsA]) fun j h1 h2 => ?_
  simp [lsA]
theorem lsA_set {O C : List Int} {n i : Nat} (h : i < n) : (lsA O C n i).set i (gi O i - gi C i) = lsA O C n (i + 1) := by
  refine List.ext_getElem (by simp [lsA]) fun j h1 h2 => ?_
  rw [List.getElem_set]
  simp only [lsA, List.getElem_map, List.getElem_range]
  by_cases e : i = j
  · subst e; rw [if_pos rfl, if_pos (by omega)]
  · rw [if_neg e]
    by_cases h3 : j < i
    · rw [if_pos h3, if_pos (by omega)]
    · rw [if_neg h3, if_neg (by omega)]
theorem gi_lsA {O C : List Int} {n i j : Nat} (h : j < n) : gi (lsA O C n i) j = if j < i then gi O j - gi C j else 0 := by
  simp [gi, lsA, h]
theorem addAt_len (l : List Int) (i : Nat) (d : Int) : (addAt l i d).length = l.length := by simp [addAt]
theorem lsM_len (b : Bok) (O C V : List Int) : ∀ k, (lsM b O C V k).length = b.accs.length
  | 0 => lsA_len _ _ _ _
  | k + 1 => by rw [lsM, addAt_len, addAt_len, lsM_len b O C V k]
theorem gi_addAt {l : List Int} {i j : Nat} {d : Int} (h : i < l.length) : gi (addAt l i d) j = if j = i then gi l i + d else gi l j := gi_set h
theorem balE_check {b : Bok} {O C V : List Int} (h : ¬ checkE b = 0) : balE b O C V = checkE b := by rw [balE, if_pos h]
theorem balE_len {b : Bok} {O C V : List Int} (h : checkE b = 0) (h1 : ¬ (O.length = b.accs.length ∧ C.length = b.accs.length ∧ V.length = b.mvs.length)) : balE b O C V = 3 := by rw [balE, if_neg (not_not_intro h), if_pos h1]
theorem balE_rngA {b : Bok} {O C V : List Int} (h : checkE b = 0) (h1 : O.length = b.accs.length ∧ C.length = b.accs.length ∧ V.length = b.mvs.length) {i : Nat} (hi : i < b.accs.length) (h2 : ¬ truA b O C i) : balE b O C V = 2 := by
  rw [balE, if_neg (not_not_intro h), if_neg (not_not_intro h1), if_pos (fun h3 => h2 (h3.1 i hi))]
theorem balE_rngM {b : Bok} {O C V : List Int} (h : checkE b = 0) (h1 : O.length = b.accs.length ∧ C.length = b.accs.length ∧ V.length = b.mvs.length) {i : Nat} (hi : i < b.mvs.length) (h2 : ¬ truM b V i) : balE b O C V = 2 := by
  rw [balE, if_neg (not_not_intro h), if_neg (not_not_intro h1), if_pos (fun h3 => h2 (h3.2 i hi))]
theorem balE_bad {b : Bok} {O C V : List Int} (h : checkE b = 0) (h1 : O.length = b.accs.length ∧ C.length = b.accs.length ∧ V.length = b.mvs.length) (hA : ∀ i, i < b.accs.length → truA b O C i) (hM : ∀ k, k < b.mvs.length → truM b V k)
    {i : Nat} (hi : i < b.accs.length) (h2 : badA b (lsM b O C V b.mvs.length) i) : balE b O C V = 12 := by
  rw [balE, if_neg (not_not_intro h), if_neg (not_not_intro h1), if_neg (not_not_intro ⟨hA, hM⟩), if_pos (fun h3 => h3 i hi h2)]
theorem balE_ok {b : Bok} {O C V : List Int} (h : checkE b = 0) (h1 : O.length = b.accs.length ∧ C.length = b.accs.length ∧ V.length = b.mvs.length) (hA : ∀ i, i < b.accs.length → truA b O C i) (hM : ∀ k, k < b.mvs.length → truM b V k)
    (h2 : ∀ i, i < b.accs.length → ¬ badA b (lsM b O C V b.mvs.length) i) : balE b O C V = 0 := by
  rw [balE, if_neg (not_not_intro h), if_neg (not_not_intro h1), if_neg (not_not_intro ⟨hA, hM⟩), if_neg (not_not_intro h2)]
theorem balL_ok {b : Bok} {O C V : List Int} (h : balE b O C V = 0) : balL b O C V = lsM b O C V b.mvs.length := by rw [balL, if_pos h]
theorem balL_no {b : Bok} {O C V : List Int} (h : ¬ balE b O C V = 0) : balL b O C V = [] := by rw [balL, if_neg h]
theorem checked_bok {b : Bok} (h : checkE b = 0) : BokOk b := by
  refine formed_bok ?_
  unfold checkE at h
  split at h
  · assumption
  · exact h
theorem BalPost.no {b : Bok} {O C V : List Int} {w w' : World} {x : Int} (hx : balE b O C V = x) (h0 : ¬ x = 0) (hg : w.grownBy w' none) : BalPost b O C V w (.returned (.tuple #[.slice none 0 0, .int .i64 x])) w' :=
  ⟨_, by rw [hx], by rw [balL_no (by rw [hx]; exact h0)]; exact Sl.of_nil _ _, hg⟩
theorem BalPost.yes {b : Bok} {O C V : List Int} {w w' : World} {v : Value} (hx : balE b O C V = 0) (ho : Own intEnc 3 1 w.heap.size w' v (lsM b O C V b.mvs.length)) (hg : w.grownBy w' none) : BalPost b O C V w (.returned (.tuple #[v, .int .i64 0])) w' :=
  ⟨_, by rw [hx], by rw [balL_ok hx]; exact ho.sl (fun _ => rfl), hg⟩
theorem inB_not {n lo hi : Int} (h : inB n lo hi = false) : ¬ (lo ≤ n ∧ n ≤ hi) := by simpa [inB] using h
/-- The same, where only the first moves are known to be right. -/
theorem lsM_bdk {b : Bok} {O C V : List Int} (hb : BokOk b) (hA : ∀ i, i < b.accs.length → truA b O C i) {k : Nat} (hM : ∀ q, q < k + 1 → truM b V q) (hk : k < b.mvs.length) {j : Nat} (hj : j < b.accs.length) :
    -40000000000 ≤ gi (lsM b O C V k) j ∧ gi (lsM b O C V k) j ≤ 40000000000 := by
  have key : ∀ m, m ≤ k → ∀ j, j < b.accs.length → -(1000000000 * ((m : Int) + 1)) ≤ gi (lsM b O C V m) j ∧ gi (lsM b O C V m) j ≤ 1000000000 * ((m : Int) + 1) := by
    intro m
    induction m with
    | zero =>
      intro _ j hj
      rw [lsM, gi_lsA hj, if_pos hj]
      obtain ⟨⟨h1, h2⟩, h3, h4⟩ := hA j hj
      have h5 := (hb.acc j hj).op
      have h6 := (hb.acc j hj).cl
      omega
    | succ m ih =>
      intro hm j hj
      have h1 := (hb.mv m (by omega))
      have h2 := hM m (by omega)
      have h3 := h1.li
      unfold truM at h2
      have hf := h1.fr
      have ht := h1.to
      have hl := lsM_len b O C V m
      have ih := ih (by omega)
      have ihf := ih (gm b.mvs m).fr.toNat (by omega)
      have iht := ih (gm b.mvs m).to.toNat (by omega)
      have ihj := ih j hj
      have hne := h1.ne
      rw [lsM, gi_addAt (by rw [addAt_len]; omega), gi_addAt (by omega), gi_addAt (by omega)]
      push_cast
      split <;> split <;> omega
  have h := key k (Nat.le_refl _) j hj
  have := hb.m30
  omega
theorem mid_bdk {b : Bok} {O C V : List Int} (hb : BokOk b) (hA : ∀ i, i < b.accs.length → truA b O C i) {k : Nat} (hM : ∀ q, q < k + 1 → truM b V q) (hk : k < b.mvs.length) {j : Nat} (hj : j < b.accs.length) :
    -50000000000 ≤ gi (addAt (lsM b O C V k) (gm b.mvs k).fr.toNat (-(gi V k))) j ∧ gi (addAt (lsM b O C V k) (gm b.mvs k).fr.toNat (-(gi V k))) j ≤ 50000000000 := by
  have h1 := (hb.mv k hk)
  have h2 := hM k (by omega)
  have h3 := h1.li
  unfold truM at h2
  have hf := h1.fr
  have hl := lsM_len b O C V k
  have ihf := lsM_bdk hb hA hM hk (j := (gm b.mvs k).fr.toNat) (by omega)
  have ihj := lsM_bdk hb hA hM hk hj
  rw [gi_addAt (by omega)]
  split <;> omega
theorem gi_at {l : List Int} {i : Nat} (h : i < l.length) : l[i]? = some (gi l i) := by rw [gi_get h]; exact List.getElem?_eq_getElem h
theorem ga_at {l : List Acc} {i : Nat} (h : i < l.length) : l[i]? = some (ga l i) := by rw [ga_get h]; exact List.getElem?_eq_getElem h
theorem gm_at {l : List Mv} {i : Nat} (h : i < l.length) : l[i]? = some (gm l i) := by rw [gm_get h]; exact List.getElem?_eq_getElem h
/-- All numbers of a truth, all spans of a book. -/
def gs (l : List Sp) (i : Nat) : Sp := l.getD i ⟨0, 0⟩
end Go.Proofs.YtcndphefomigeaaDoor
