/- The refined book, a book with one more move: what they are. -/
import Derived.Test.YtcndphefomigeaaDoorPCheck
import Derived.Test.YtcndphefomigeaaDoorPG6
import Derived.Test.YtcndphefomigeaaDoorPG2
import Derived.Test.YtcndphefomigeaaDoorPWr2
import Derived.Test.YtcndphefomigeaaDoorPMiss
import Derived.Test.YtcndphefomigeaaDoorPLasts
import Derived.Test.YtcndphefomigeaaDoorPG8
set_option linter.unusedVariables false
set_option linter.unusedSimpArgs false
set_option linter.unnecessarySimpa false
namespace Go.Proofs.YtcndphefomigeaaDoor
open Go.RowKit

/-- The span of a flow's numbers, narrowed by the first sets. -/
def narF (b : Bok) (into out : Nat → Bool) (was : Sp) : Nat → Sp
  | 0 => was
  | i + 1 => if into i = true then ⟨max (narF b into out was i).lo (was.hi - (grp b i).most), if (grp b i).ground = true then min (narF b into out was i).hi (was.lo - (grp b i).least) else (narF b into out was i).hi⟩
    else if out i = true then ⟨if (grp b i).ground = true then max (narF b into out was i).lo (was.hi + (grp b i).least) else (narF b into out was i).lo, min (narF b into out was i).hi (was.lo + (grp b i).most)⟩
    else narF b into out was i
def narO (b : Bok) (k : Nat) : Sp := narF b (fun i_ => bitOf i_ (k : Int)) (fun _ => false) (ga b.accs k).op (2 ^ b.accs.length)
def narC (b : Bok) (k : Nat) : Sp := narF b (fun _ => false) (fun i_ => bitOf i_ (k : Int)) (ga b.accs k).cl (2 ^ b.accs.length)
def narL (b : Bok) (k : Nat) : Sp := narF b (fun i_ => bitOf i_ (gm b.mvs k).to && !bitOf i_ (gm b.mvs k).fr) (fun i_ => bitOf i_ (gm b.mvs k).fr && !bitOf i_ (gm b.mvs k).to) (gm b.mvs k).li (2 ^ b.accs.length)
/-- An account, a move, of a book of which the first flows are narrowed. -/
def refA (b : Bok) (i k : Nat) : Acc := ⟨(ga b.accs k).name, (ga b.accs k).kind, if 2 * k < i then narO b k else (ga b.accs k).op, if 2 * k + 1 < i then narC b k else (ga b.accs k).cl⟩
def refM (b : Bok) (i k : Nat) : Mv := ⟨(gm b.mvs k).fr, (gm b.mvs k).to, if 2 * b.accs.length + k < i then narL b k else (gm b.mvs k).li⟩
def refAL (b : Bok) (i : Nat) : List Acc := (List.range b.accs.length).map (refA b i)
def refML (b : Bok) (i : Nat) : List Mv := (List.range b.mvs.length).map (refM b i)
/-- The refined book. -/
def refB (b : Bok) : Bok := ⟨refAL b (2 * b.accs.length + b.mvs.length), refML b (2 * b.accs.length + b.mvs.length)⟩
theorem refAL_len (b : Bok) (i : Nat) : (refAL b i).length = b.accs.length := by simp [refAL]
theorem refML_len (b : Bok) (i : Nat) : (refML b i).length = b.mvs.length := by simp [refML]
theorem refAL_at {b : Bok} {i k : Nat} (h : k < b.accs.length) : (refAL b i)[k]? = some (refA b i k) := by simp [refAL, h]
theorem refML_at {b : Bok} {i k : Nat} (h : k < b.mvs.length) : (refML b i)[k]? = some (refM b i k) := by simp [refML, h]
theorem refAL_zero (b : Bok) : refAL b 0 = b.accs := by
  refine List.ext_getElem (by simp [refAL]) fun j h1 h2 => ?_
  simp only [refAL, List.getElem_map, List.getElem_range, refA]
  rw [if_neg (by omega), if_neg (by omega), ga_get h2]
theorem refML_zero (b : Bok) : refML b 0 = b.mvs := by
  refine List.ext_getElem (by simp [refML]) fun j h1 h2 => ?_
  simp only [refML, List.getElem_map, List.getElem_range, refM]
  rw [if_neg (by omega), gm_get h2]
theorem refAL_op {b : Bok} {i k : Nat} {y : Acc} (hi : i = 2 * k) (hy : y = ⟨(refA b i k).name, (refA b i k).kind, narO b k, (refA b i k).cl⟩) : (refAL b i).set k y = refAL b (i + 1) := by
  subst hi
  refine List.ext_getElem (by simp [refAL]) fun j h1 h2 => ?_
  rw [List.getElem_set]
  simp only [refAL, List.getElem_map, List.getElem_range]
  by_cases e : k = j
  · subst e
    rw [if_pos rfl, hy]
    simp only [refA]
    rw [if_pos (show 2 * k < 2 * k + 1 by omega), if_neg (show ¬ 2 * k + 1 < 2 * k by omega), if_neg (show ¬ 2 * k + 1 < 2 * k + 1 by omega)]
  · rw [if_neg e]
    simp only [refA]
    have e1 : (2 * j < 2 * k) = (2 * j < 2 * k + 1) := by apply propext; omega
    have e2 : (2 * j + 1 < 2 * k) = (2 * j + 1 < 2 * k + 1) := by apply propext; omega
    simp only [e1, e2]
theorem refAL_cl {b : Bok} {i k : Nat} {y : Acc} (hi : i = 2 * k + 1) (hy : y = ⟨(refA b i k).name, (refA b i k).kind, (refA b i k).op, narC b k⟩) : (refAL b i).set k y = refAL b (i + 1) := by
  subst hi
  refine List.ext_getElem (by simp [refAL]) fun j h1 h2 => ?_
  rw [List.getElem_set]
  simp only [refAL, List.getElem_map, List.getElem_range]
  by_cases e : k = j
  · subst e
    rw [if_pos rfl, hy]
    simp only [refA]
    rw [if_pos (show 2 * k < 2 * k + 1 by omega), if_pos (show 2 * k < 2 * k + 1 + 1 by omega), if_pos (show 2 * k + 1 < 2 * k + 1 + 1 by omega)]
  · rw [if_neg e]
    simp only [refA]
    have e1 : (2 * j < 2 * k + 1) = (2 * j < 2 * k + 1 + 1) := by apply propext; omega
    have e2 : (2 * j + 1 < 2 * k + 1) = (2 * j + 1 < 2 * k + 1 + 1) := by apply propext; omega
    simp only [e1, e2]
theorem refAL_mv {b : Bok} {i : Nat} (hi : 2 * b.accs.length ≤ i) : refAL b i = refAL b (i + 1) := by
  refine List.ext_getElem (by simp [refAL]) fun j h1 h2 => ?_
  have hj : j < b.accs.length := by simpa [refAL] using h1
  simp only [refAL, List.getElem_map, List.getElem_range, refA]
  have e1 : (2 * j < i) = (2 * j < i + 1) := by apply propext; omega
  have e2 : (2 * j + 1 < i) = (2 * j + 1 < i + 1) := by apply propext; omega
  simp only [e1, e2]
theorem refML_acc {b : Bok} {i : Nat} (hi : i < 2 * b.accs.length) : refML b i = refML b (i + 1) := by
  refine List.ext_getElem (by simp [refML]) fun j h1 h2 => ?_
  simp only [refML, List.getElem_map, List.getElem_range, refM]
  rw [if_neg (by omega), if_neg (by omega)]
theorem refML_li {b : Bok} {i k : Nat} {y : Mv} (hi : i = 2 * b.accs.length + k) (hy : y = ⟨(refM b i k).fr, (refM b i k).to, narL b k⟩) : (refML b i).set k y = refML b (i + 1) := by
  subst hi
  refine List.ext_getElem (by simp [refML]) fun j h1 h2 => ?_
  rw [List.getElem_set]
  simp only [refML, List.getElem_map, List.getElem_range]
  by_cases e : k = j
  · subst e
    rw [if_pos rfl, hy]
    simp only [refM]
    rw [if_pos (by omega)]
  · rw [if_neg e]
    simp only [refM]
    have e1 : (2 * b.accs.length + j < 2 * b.accs.length + k) = (2 * b.accs.length + j < 2 * b.accs.length + k + 1) := by apply propext; omega
    simp only [e1]
def addM (b : Bok) (m : Mv) : Bok := ⟨b.accs, b.mvs ++ [m]⟩
/-- A book of the call's own, each row in a block of its own. -/
def BookNewB (b : Bok) (w : World) (e : Ending) (w' : World) : Prop := ∃ (a1 : Option Addr) (c1 : Nat) (a2 : Option Addr) (c2 : Nat), e = .returned (.agg #[.slice a1 b.accs.length c1, .slice a2 b.mvs.length c2]) ∧
  Bun w [rown accEnc 41 6 w.heap.size (.slice a1 b.accs.length c1) b.accs, rown mvEnc 43 4 w.heap.size (.slice a2 b.mvs.length c2) b.mvs] w'
end Go.Proofs.YtcndphefomigeaaDoor
/- fuel: the chapter's examples, reckoned. -/
namespace Go.Proofs.YtcndphefomigeaaDoor
open Go.RowKit Go.Shelf
set_option maxRecDepth 100000

theorem check_of {b : Bok} (h : formedE b = 0) (hc : ∀ j, j < 2 ^ b.accs.length → clash (grp b j) = false) : checkE b = 0 := by
  rw [checkE, if_pos h, if_pos (show calm b _ from hc)]
theorem check_12 {b : Bok} (h : formedE b = 0) (hc : ¬ ∀ j, j < 2 ^ b.accs.length → clash (grp b j) = false) : checkE b = 12 := by
  rw [checkE, if_pos h, if_neg (show ¬ calm b _ from hc)]
theorem check_bad {b : Bok} {e : Int} (h : formedE b = e) (he : e ≠ 0) : checkE b = e := by
  rw [checkE, if_neg (by rw [h]; exact he), h]
def accC (c : Sp) : Acc := ⟨⟨#[99, 97, 109, 112]⟩, 1, ⟨100, 110⟩, c⟩
def accG (c : Sp) : Acc := ⟨⟨#[103, 114, 111, 117, 110, 100]⟩, 2, ⟨0, 0⟩, c⟩
def accR (c : Sp) : Acc := ⟨⟨#[114, 97, 99, 107]⟩, 1, ⟨1000, 1000⟩, c⟩
/-- A camp that closes otherwise; a name twice; a move to itself. -/
def bookK : Bok := ⟨[accR ⟨600, 610⟩, accC ⟨515, 520⟩, accG ⟨0, 5⟩], bookM⟩
def bookW : Bok := ⟨[accR ⟨600, 610⟩, ⟨⟨#[114, 97, 99, 107]⟩, 1, ⟨100, 110⟩, ⟨480, 490⟩⟩, accG ⟨0, 5⟩], bookM⟩
def bookS : Bok := ⟨bookA, [⟨1, 1, ⟨390, 400⟩⟩]⟩
/-- Less in the rack; nothing in the ground; a move more. -/
def bookL : Bok := ⟨[accR ⟨590, 599⟩, accC ⟨480, 490⟩, accG ⟨0, 5⟩], bookM⟩
def bookF : Bok := ⟨[accR ⟨600, 610⟩, accC ⟨480, 490⟩, accG ⟨0, 0⟩], bookM⟩
def mv3 : Mv := ⟨1, 2, ⟨3, 3⟩⟩
def mv1 : Mv := ⟨2, 0, ⟨1, 1⟩⟩
theorem bookK_e : checkE bookK = 12 := check_12 (by decide +kernel) (by decide +kernel)
theorem bookW_e : checkE bookW = 9 := check_bad (by decide +kernel) (by decide)
theorem bookS_e : checkE bookS = 3 := check_bad (by decide +kernel) (by decide)
theorem bookL_e : checkE bookL = 0 := check_of (by decide +kernel) (by decide +kernel)
theorem bookP_e : checkE (addM bookB mv3) = 0 := check_of (by decide +kernel) (by decide +kernel)
theorem bookQ_e : checkE (addM bookB mv1) = 12 := check_12 (by decide +kernel) (by decide +kernel)
theorem bookB_m : verdL bookB = [3, 3, 2] := by decide +kernel
theorem bookL_m : verdL bookL = [1, 3, 2] := by decide +kernel
theorem bal_1 : balE bookB [1000, 100, 0] [605, 485, 0] [392] = 0 := by
  rw [balE, if_neg (not_not_intro bookB_check), if_neg (by decide), if_neg (not_not_intro ⟨by unfold truA; decide +kernel, by unfold truM; decide +kernel⟩), if_neg (not_not_intro (by unfold badA; decide +kernel))]
theorem bal_2 : balE bookB [1000, 100, 0] [605, 485, 0] [397] = 12 := by
  rw [balE, if_neg (not_not_intro bookB_check), if_neg (by decide), if_neg (not_not_intro ⟨by unfold truA; decide +kernel, by unfold truM; decide +kernel⟩), if_pos (by unfold badA; decide +kernel)]
theorem bal_l : balL bookB [1000, 100, 0] [605, 485, 0] [392] = [3, 7, 0] := by
  rw [balL, if_pos bal_1]
  decide +kernel
theorem ref_is : refB bookB = bookF := by kernel_rfl
theorem lasts_is : lastsV ⟨300, 400⟩ [⟨0, ⟨100, 110⟩⟩, ⟨200, ⟨150, 160⟩⟩] [⟨150, 150⟩, ⟨190, 210⟩, ⟨300, 300⟩] = .tuple #[.agg #[.int .i64 2, .int .i64 3], .int .i64 0] := by
  have h : lastsE ⟨300, 400⟩ [⟨0, ⟨100, 110⟩⟩, ⟨200, ⟨150, 160⟩⟩] [⟨150, 150⟩, ⟨190, 210⟩, ⟨300, 300⟩] = 0 := by decide +kernel
  have h2 : dayO ⟨300, 400⟩ [⟨0, ⟨100, 110⟩⟩, ⟨200, ⟨150, 160⟩⟩] [⟨150, 150⟩, ⟨190, 210⟩, ⟨300, 300⟩] 3 = ⟨2, 3⟩ := by kernel_rfl
  rw [lastsV, if_pos h, show ([⟨150, 150⟩, ⟨190, 210⟩, ⟨300, 300⟩] : List Sp).length = 3 from rfl, h2]
  rfl
theorem vol_1 : volV [0, 1000, 2000] [0, 5000, 12000] 1 1 = .tuple #[.agg #[.int .i64 5, .int .i64 5], .int .i64 0] := by
  rw [volV_ok (by decide +kernel), show volLo [0, 1000, 2000] [0, 5000, 12000] 1 = 5 by decide +kernel, show volHi [0, 1000, 2000] [0, 5000, 12000] 1 = 5 by decide +kernel]
theorem vol_2 : volV [0, 1000, 2000] [0, 5000, 12000] 0 2001 = .tuple #[.agg #[.int .i64 0, .int .i64 0], .int .i64 2] := volV_err (by decide +kernel) (by decide)
theorem vol_3 : volV [0, 3] [0, 10] 1 1 = .tuple #[.agg #[.int .i64 3, .int .i64 4], .int .i64 0] := by
  rw [volV_ok (by decide +kernel), show volLo [0, 3] [0, 10] 1 = 3 by decide +kernel, show volHi [0, 3] [0, 10] 1 = 4 by decide +kernel]
theorem std_1 : stdV 10000 10000 80 84 250 250 = .tuple #[.agg #[.int .i64 9916, .int .i64 9920], .int .i64 0] := by
  rw [stdV, if_pos (by decide +kernel), show stdLo 10000 80 84 250 250 = 9916 by decide +kernel, show stdHi 10000 80 84 250 250 = 9920 by decide +kernel]
theorem std_2 : stdV 10000 10000 80 84 (-100) (-100) = .tuple #[.agg #[.int .i64 10200, .int .i64 10210], .int .i64 0] := by
  rw [stdV, if_pos (by decide +kernel), show stdLo 10000 80 84 (-100) (-100) = 10200 by decide +kernel, show stdHi 10000 80 84 (-100) (-100) = 10210 by decide +kernel]
theorem dig1 {u : Nat} (h : u < 10) : Lib.decDigits u = [UInt8.ofNat (48 + u)] := by rw [Lib.decDigits, dif_pos h]
theorem dig2 {u : Nat} (h : ¬ u < 10) : Lib.decDigits u = Lib.decDigits (u / 10) ++ [UInt8.ofNat (48 + u % 10)] := by rw [Lib.decDigits, dif_neg h]
theorem itoa_1 {n : Nat} (h : n < 10) : Lib.itoa (n : Int) = [UInt8.ofNat (48 + n)] := by
  rw [Lib.itoa, if_neg (by omega)]
  exact dig1 h
theorem itoa_nat (n : Nat) : Lib.itoa (n : Int) = Lib.decDigits n := by
  rw [Lib.itoa, if_neg (by omega)]
  rfl
def bookT : List UInt8 := [97, 99, 99, 111, 117, 110, 116, 32, 114, 97, 99, 107, 32, 116, 97, 110, 107, 32, 49, 48, 48, 48, 32, 49, 48, 48, 48, 32, 54, 48, 48, 32, 54, 49, 48, 10, 97, 99, 99, 111, 117, 110, 116, 32, 99, 97, 109, 112, 32, 116, 97, 110, 107, 32, 49, 48, 48, 32, 49, 49, 48, 32, 52, 56, 48, 32, 52, 57, 48, 10, 97, 99, 99, 111, 117, 110, 116, 32, 103, 114, 111, 117, 110, 100, 32, 103, 114, 111, 117, 110, 100, 32, 48, 32, 48, 32, 48, 32, 53, 10, 109, 111, 118, 101, 32, 48, 32, 49, 32, 51, 57, 48, 32, 52, 48, 48, 10]
theorem text_is : wrB bookB = ⟨bookT.toArray⟩ := by
  have b1 : ∀ u : Nat, u < 10 → Lib.itoa (u : Int) = [UInt8.ofNat (48 + u)] := fun u h => itoa_1 h
  have b3 : ∀ u : Nat, ¬ u < 10 → ¬ u / 10 < 10 → u / 10 / 10 < 10 → Lib.itoa (u : Int) = [UInt8.ofNat (48 + u / 10 / 10), UInt8.ofNat (48 + u / 10 % 10), UInt8.ofNat (48 + u % 10)] := fun u h1 h2 h3 => by
    rw [itoa_nat, dig2 h1, dig2 h2, dig1 h3]
    rfl
  have b4 : Lib.itoa 1000 = [49, 48, 48, 48] := by
    rw [show (1000 : Int) = ((1000 : Nat) : Int) from rfl, itoa_nat, dig2 (by decide), dig2 (by decide), dig2 (by decide), dig1 (by decide)]
    rfl
  have a0 : Lib.itoa 0 = [48] := b1 0 (by decide)
  have a1 : Lib.itoa 1 = [49] := b1 1 (by decide)
  have a5 : Lib.itoa 5 = [53] := b1 5 (by decide)
  have a600 : Lib.itoa 600 = [54, 48, 48] := b3 600 (by decide) (by decide) (by decide)
  have a610 : Lib.itoa 610 = [54, 49, 48] := b3 610 (by decide) (by decide) (by decide)
  have a100 : Lib.itoa 100 = [49, 48, 48] := b3 100 (by decide) (by decide) (by decide)
  have a110 : Lib.itoa 110 = [49, 49, 48] := b3 110 (by decide) (by decide) (by decide)
  have a480 : Lib.itoa 480 = [52, 56, 48] := b3 480 (by decide) (by decide) (by decide)
  have a490 : Lib.itoa 490 = [52, 57, 48] := b3 490 (by decide) (by decide) (by decide)
  have a390 : Lib.itoa 390 = [51, 57, 48] := b3 390 (by decide) (by decide) (by decide)
  have a400 : Lib.itoa 400 = [52, 48, 48] := b3 400 (by decide) (by decide) (by decide)
  rw [wrB, if_pos bookB_check]
  simp only [accsT, mvsT, bookB, bookA, bookM, List.flatMap_cons, List.flatMap_nil, accT, mvT, headT, kndL, numT, b4, a0, a1, a5, a600, a610, a100, a110, a480, a490, a390, a400]
  rfl
end Go.Proofs.YtcndphefomigeaaDoor
