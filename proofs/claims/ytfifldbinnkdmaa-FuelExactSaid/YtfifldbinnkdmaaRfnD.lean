/- The refined book, a book with one more move: what they are. -/
import Derived.Test.YtfifldbinnkdmaaCheck
import Derived.Test.YtfifldbinnkdmaaBus
set_option linter.unusedVariables false
set_option linter.unusedSimpArgs false
set_option linter.unnecessarySimpa false
namespace Go.Proofs.Ytfifldbinnkdmaa
open Go.RowKit

/-- The span of a flow's numbers, narrowed by the first sets. -/
def narF (b : Bok) (into out : Nat → Bool) (was : Sp) : Nat → Sp
  | 0 => was
  | i + 1 => if into i = true then ⟨max (narF b into out was i).lo (was.hi - (grp b i).most), if (grp b i).ground = true then min (narF b into out was i).hi (was.lo - (grp b i).least) else (narF b into out was i).hi⟩
    else if out i = true then ⟨if (grp b i).ground = true then max (narF b into out was i).lo (was.hi + (grp b i).least) else (narF b into out was i).lo, min (narF b into out was i).hi (was.lo + (grp b i).most)⟩
    else narF b into out was i
def narO (b : Bok) (k : Nat) : Sp := narF b (fun i_ => bitOf i_ (k : Int)) (fun _ => false) (ga b.accs k).op (2 ^ b.accs.length)
def narC (b : Bok) (k : Nat) : Sp := narF b (fun _ => false) (fun i_ => bitOf i_ (k : Int)) (ga b.accs k).cl (2 ^ b.accs.length)
def narL (b : Bok) (k : Nat) : Sp := narF b (fun i_ => bitOf i_ (gm b.mvs k).to && !bitOf i_ (gm b.mvs k).fr) (fun i_ => bitOf i_ (gm b.mvs k).fr && !bitOf i_ (gm b.mvs k).to) (gm b.mvs k).li (2 ^ b.accs.length)
/-- An account, a move, of a book of which the first flows are narrowed. -/
def refA (b : Bok) (i k : Nat) : Acc := ⟨(ga b.accs k).name, (ga b.accs k).kind, if 2 * k < i then narO b k else (ga b.accs k).op, if 2 * k + 1 < i then narC b k else (ga b.accs k).cl⟩
def refM (b : Bok) (i k : Nat) : Mv := ⟨(gm b.mvs k).fr, (gm b.mvs k).to, if 2 * b.accs.length + k < i then narL b k else (gm b.mvs k).li⟩
def refAL (b : Bok) (i : Nat) : List Acc := (List.range b.accs.length).map (refA b i)
def refML (b : Bok) (i : Nat) : List Mv := (List.range b.mvs.length).map (refM b i)
/-- The refined book. -/
def refB (b : Bok) : Bok := ⟨refAL b (2 * b.accs.length + b.mvs.length), refML b (2 * b.accs.length + b.mvs.length)⟩
theorem refAL_len (b : Bok) (i : Nat) : (refAL b i).length = b.accs.length := by simp [refAL]
theorem refML_len (b : Bok) (i : Nat) : (refML b i).length = b.mvs.length := by simp [refML]
theorem refAL_at {b : Bok} {i k : Nat} (h : k < b.accs.length) : (refAL b i)[k]? = some (refA b i k) := by simp [refAL, h]
theorem refML_at {b : Bok} {i k : Nat} (h : k < b.mvs.length) : (refML b i)[k]? = some (refM b i k) := by simp [refML, h]
theorem refAL_zero (b : Bok) : refAL b 0 = b.accs := by
  refine List.ext_getElem (by simp [refAL]) fun j h1 h2 => ?_
  simp only [refAL, List.getElem_map, List.getElem_range, refA]
  rw [if_neg (by omega), if_neg (by omega), ga_get h2]
theorem refML_zero (b : Bok) : refML b 0 = b.mvs := by
  refine List.ext_getElem (by simp [refML]) fun j h1 h2 => ?_
  simp only [refML, List.getElem_map, List.getElem_range, refM]
  rw [if_neg (by omega), gm_get h2]
theorem refAL_op {b : Bok} {i k : Nat} {y : Acc} (hi : i = 2 * k) (hy : y = ⟨(refA b i k).name, (refA b i k).kind, narO b k, (refA b i k).cl⟩) : (refAL b i).set k y = refAL b (i + 1) := by
  subst hi
  refine List.ext_getElem (by simp [refAL]) fun j h1 h2 => ?_
  rw [List.getElem_set]
  simp only [refAL, List.getElem_map, List.getElem_range]
  by_cases e : k = j
  · subst e
    rw [if_pos rfl, hy]
    simp only [refA]
    rw [if_pos (show 2 * k < 2 * k + 1 by omega), if_neg (show ¬ 2 * k + 1 < 2 * k by omega), if_neg (show ¬ 2 * k + 1 < 2 * k + 1 by omega)]
  · rw [if_neg e]
    simp only [refA]
    have e1 : (2 * j < 2 * k) = (2 * j < 2 * k + 1) := by apply propext; omega
    have e2 : (2 * j + 1 < 2 * k) = (2 * j + 1 < 2 * k + 1) := by apply propext; omega
    simp only [e1, e2]
theorem refAL_cl {b : Bok} {i k : Nat} {y : Acc} (hi : i = 2 * k + 1) (hy : y = ⟨(refA b i k).name, (refA b i k).kind, (refA b i k).op, narC b k⟩) : (refAL b i).set k y = refAL b (i + 1) := by
  subst hi
  refine List.ext_getElem (by simp [refAL]) fun j h1 h2 => ?_
  rw [List.getElem_set]
  simp only [refAL, List.getElem_map, List.getElem_range]
  by_cases e : k = j
  · subst e
    rw [if_pos rfl, hy]
    simp only [refA]
    rw [if_pos (show 2 * k < 2 * k + 1 by omega), if_pos (show 2 * k < 2 * k + 1 + 1 by omega), if_pos (show 2 * k + 1 < 2 * k + 1 + 1 by omega)]
  · rw [if_neg e]
    simp only [refA]
    have e1 : (2 * j < 2 * k + 1) = (2 * j < 2 * k + 1 + 1) := by apply propext; omega
    have e2 : (2 * j + 1 < 2 * k + 1) = (2 * j + 1 < 2 * k + 1 + 1) := by apply propext; omega
    simp only [e1, e2]
theorem refAL_mv {b : Bok} {i : Nat} (hi : 2 * b.accs.length ≤ i) : refAL b i = refAL b (i + 1) := by
  refine List.ext_getElem (by simp [refAL]) fun j h1 h2 => ?_
  have hj : j < b.accs.length := by simpa [refAL] using h1
  simp only [refAL, List.getElem_map, List.getElem_range, refA]
  have e1 : (2 * j < i) = (2 * j < i + 1) := by apply propext; omega
  have e2 : (2 * j + 1 < i) = (2 * j + 1 < i + 1) := by apply propext; omega
  simp only [e1, e2]
theorem refML_acc {b : Bok} {i : Nat} (hi : i < 2 * b.accs.length) : refML b i = refML b (i + 1) := by
  refine List.ext_getElem (by simp [refML]) fun j h1 h2 => ?_
  simp only [refML, List.getElem_map, List.getElem_range, refM]
  rw [if_neg (by omega), if_neg (by omega)]
theorem refML_li {b : Bok} {i k : Nat} {y : Mv} (hi : i = 2 * b.accs.length + k) (hy : y = ⟨(refM b i k).fr, (refM b i k).to, narL b k⟩) : (refML b i).set k y = refML b (i + 1) := by
  subst hi
  refine List.ext_getElem (by simp [refML]) fun j h1 h2 => ?_
  rw [List.getElem_set]
  simp only [refML, List.getElem_map, List.getElem_range]
  by_cases e : k = j
  · subst e
    rw [if_pos rfl, hy]
    simp only [refM]
    rw [if_pos (by omega)]
  · rw [if_neg e]
    simp only [refM]
    have e1 : (2 * b.accs.length + j < 2 * b.accs.length + k) = (2 * b.accs.length + j < 2 * b.accs.length + k + 1) := by apply propext; omega
    simp only [e1]
theorem ga_ref {b : Bok} {k : Nat} (h : k < b.accs.length) : ga (refB b).accs k = ⟨(ga b.accs k).name, (ga b.accs k).kind, narO b k, narC b k⟩ := by
  have h1 := refAL_at (i := 2 * b.accs.length + b.mvs.length) h
  show (refAL b (2 * b.accs.length + b.mvs.length)).getD k acc0 = _
  rw [List.getD_eq_getElem?_getD, h1]
  simp only [Option.getD_some, refA]
  rw [if_pos (by omega), if_pos (by omega)]
theorem gm_ref {b : Bok} {k : Nat} (h : k < b.mvs.length) : gm (refB b).mvs k = ⟨(gm b.mvs k).fr, (gm b.mvs k).to, narL b k⟩ := by
  have h1 := refML_at (i := 2 * b.accs.length + b.mvs.length) h
  show (refML b (2 * b.accs.length + b.mvs.length)).getD k mv0 = _
  rw [List.getD_eq_getElem?_getD, h1]
  simp only [Option.getD_some, refM]
  rw [if_pos (by omega)]
def addM (b : Bok) (m : Mv) : Bok := ⟨b.accs, b.mvs ++ [m]⟩
/-- A book of the call's own, each row in a block of its own. -/
def BookNewB (b : Bok) (w : World) (e : Ending) (w' : World) : Prop := ∃ (a1 : Option Addr) (c1 : Nat) (a2 : Option Addr) (c2 : Nat), e = .returned (.agg #[.slice a1 b.accs.length c1, .slice a2 b.mvs.length c2]) ∧
  Bun w [rown accEnc 79 6 w.heap.size (.slice a1 b.accs.length c1) b.accs, rown mvEnc 76 4 w.heap.size (.slice a2 b.mvs.length c2) b.mvs] w'
end Go.Proofs.Ytfifldbinnkdmaa
