/- build.Link: what it computes; a row of one's own sorted by the library. -/
import Derived.Sort.OwnSortedInts
import Derived.Test.YtcoldeolmleeiaaGreatLays
import Derived.Test.YtcoldeolmleeiaaGreatKLk2
import Derived.Test.YtcoldeolmleeiaaGreatKKW
import Derived.Test.YtcoldeolmleeiaaGreatKO5
import Derived.Test.YtcoldeolmleeiaaGreatKI2
import Derived.Test.YtcoldeolmleeiaaGreatKG2
import Derived.Test.YtcoldeolmleeiaaGreatKKD
import Derived.Test.YtcoldeolmleeiaaGreatKGG3
import Derived.Test.YtcoldeolmleeiaaGreatKGG10
set_option linter.unusedVariables false
set_option linter.unusedSimpArgs false
set_option linter.unnecessarySimpa false
namespace Go.Proofs.YtcoldeolmleeiaaGreat
open Go.RowKit Go.Sort
set_option maxRecDepth 100000
def sortI (l : List Int) : List Int := l.mergeSort fun x y => decide (x <= y)
theorem sortI_len (l : List Int) : (sortI l).length = l.length := List.length_mergeSort l
theorem own_ints (l : List Int) : l.flatMap intEnc = l.map (Value.int .i64) := by
 induction l with
 | nil => rfl
 | cons a l ih => rw [List.flatMap_cons, ih]; rfl
theorem sort_c (w0 : World) (b0 cap nn : Nat) (oa : Option Addr) (l : List Int) (LR : List Res) (w : World) (hB : Bun w0 [rown intEnc 3 1 b0 (.slice oa nn cap) l, rall LR] w) (hln : l.length = nn) (hl : nn <= 1000) :
  Calls Tryz.prog 64 #[.slice oa nn cap] w (fun e w' => e = .returned (.tuple #[]) /\ Bun w0 [rown intEnc 3 1 b0 (.slice oa nn cap) (sortI l), rall LR] w') := by
 subst hln
 have ho : Own intEnc 3 1 b0 w (.slice oa l.length cap) l := hB.at 0 rfl
 rcases Nat.eq_zero_or_pos l.length with h0 | h0
 ·
  obtain rfl := List.eq_nil_of_length_eq_zero h0
  refine (Tryz.slices_Sort_int_none oa cap w).mono ?_
  rintro e w' ⟨rfl, rfl⟩
  exact ⟨rfl, by rw [show sortI [] = [] from List.mergeSort_nil]; exact hB⟩
 obtain ⟨g, cp, e_⟩ := Own.opn ho h0
 injection e_ with e1_ _ e2_
 subst e1_ e2_
 rcases ho.2 with ⟨h1, _⟩ | ⟨g', cap', cur, hv, hg, hb, hn, hcap, hsz, htk⟩
 · cases h1
 cases hv
 rw [Nat.mul_one, own_ints] at htk
 have hlt : g < w.heap.size := (Array.getElem?_eq_some_iff.1 hb).1
 refine (Tryz.slices_Sort_int g 0 cap l w (holds_of_blockI hb htk) hlt (by omega)).mono ?_
 rintro e w' ⟨rfl, n, os, rfl⟩
 have hs : (sortI l).length = l.length := sortI_len l
 have h2 := ownsRow_sortedI (n := n) (os := os) (ss := l) hs hg hb hn hcap hsz
 have h3 : w.grownBy _ (some g) := grownBy_sortedI (n := n) (os := os) (sortI l).toArray
 refine ⟨rfl, hB.wr (r' := rown intEnc 3 1 b0 (.slice (some ⟨g, 0, none⟩) l.length cap) (sortI l)) rfl h3 (fun k e => by cases e; rfl) ?_ fun k e => ?_⟩
 ·
  show World.ownsRow _ _ _ _ _ _ _
  rw [own_ints, hs]
  exact h2
 refine ⟨.inl e, ?_⟩
 have e1 : some g = some k := e
 cases e1
 exact Nat.lt_of_lt_of_le hlt h3.size
def ordN (ls : List Lg) : Nat -> List Int
 | 0 => []
 | k + 1 => match ls[k]? with
  | some z => if z.op = 2 then ordN ls k else ordN ls k ++ [(k : Int)]
  | none => ordN ls k
theorem ordN_no {ls : List Lg} {k : Nat} {z : Lg} (h : ls[k]? = some z) (hz : z.op = 2) : ordN ls (k + 1) = ordN ls k := by rw [ordN, h]; exact if_pos hz
theorem ordN_yes {ls : List Lg} {k : Nat} {z : Lg} (h : ls[k]? = some z) (hz : ¬ z.op = 2) : ordN ls (k + 1) = ordN ls k ++ [(k : Int)] := by rw [ordN, h]; exact if_neg hz
theorem ordN_len (ls : List Lg) : ∀ k, (ordN ls k).length <= k
 | 0 => Nat.le_refl _
 | k + 1 => by
  have ih := ordN_len ls k
  rw [ordN]
  split
  ·
   split
   · omega
   · rw [List.length_append, List.length_singleton]; omega
  · omega
theorem ordN_ok (ls : List Lg) : ∀ k, k <= ls.length -> ordOk ls.length (ordN ls k)
 | 0, _ => fun x h => by cases h
 | k + 1, hk => fun x h => by
  have ih := ordN_ok ls k (by omega)
  rw [ordN] at h
  split at h
  ·
   split at h
   · exact ih x h
   rcases List.mem_append.1 h with h | h
   · exact ih x h
   obtain rfl := List.mem_singleton.1 h
   omega
  · exact ih x h
def gAt (m : List Int) (x : Int) : Int := m.getD x.toNat 0
def mrgL (m : List Int) (a b : Int) : List Int := m.map fun g => if g = b then a else g
theorem mrgL_len (m : List Int) (a b : Int) : (mrgL m a b).length = m.length := List.length_map _
def natL (n : Nat) : List Int := (List.range n).map fun (k : Nat) => (k : Int)
theorem natL_len (n : Nat) : (natL n).length = n := by simp [natL]
theorem natL_snoc (n : Nat) : natL n ++ [(n : Int)] = natL (n + 1) := by simp [natL, List.range_succ]
def stpK (ls : List Lg) (s : List Int × List Int × Int) (i : Int) : List Int × List Int × Int := match ls[i.toNat]? with
 | none => s
 | some z => if gAt s.1 z.a = gAt s.1 z.b then s else (mrgL s.1 (gAt s.1 z.a) (gAt s.1 z.b), s.2.1 ++ [i], s.2.2 + z.cost)
theorem stpK_no {ls : List Lg} {i : Nat} {z : Lg} {m lg : List Int} {c g : Int} (h : ls[i]? = some z) (ha : gAt m z.a = g) (hb : gAt m z.b = g) : stpK ls (m, lg, c) (i : Int) = (m, lg, c) := by
 unfold stpK
 rw [Int.toNat_natCast, h]
 exact if_pos (ha.trans hb.symm)
theorem stpK_yes {ls : List Lg} {i : Nat} {z : Lg} {m lg : List Int} {c ga gb : Int} (h : ls[i]? = some z) (ha : gAt m z.a = ga) (hb : gAt m z.b = gb) (hn : ¬ ga = gb) : stpK ls (m, lg, c) (i : Int) = (mrgL m ga gb, lg ++ [(i : Int)], c + z.cost) := by
 unfold stpK
 rw [Int.toNat_natCast, h]
 simp only [ha, hb]
 exact if_neg hn
def lnkO (ls : List Lg) : List Int := insN (lkC ls) (ordN ls ls.length) ((ordN ls ls.length).length - 1)
def lnkF (n : Nat) (ls : List Lg) : List Int × List Int × Int := (lnkO ls).foldl (stpK ls) (natL n, [], 0)
def lnkE (n : Int) (ls : List Lg) : Int := if ¬ netErr n ls = 0 then netErr n ls else if (lnkF n.toNat ls).2.1.length + 1 ≠ n.toNat then 7 else 0
def lnkL (n : Int) (ls : List Lg) : List Int := if lnkE n ls = 0 then sortI (lnkF n.toNat ls).2.1 else []
def lnkC (n : Int) (ls : List Lg) : Int := if lnkE n ls = 0 then (lnkF n.toNat ls).2.2 else 0
def LinkR (n : Int) (ls : List Lg) (w : World) : Ending -> World -> Prop := fun e w' => ∃ (a : Option Addr) (c lo hi : Nat), e = .returned (.tuple #[.slice a (lnkL n ls).length c, .int .i64 (lnkC n ls), .int .i64 (lnkE n ls)]) /\ (w.heap.size <= lo /\ hi <= w'.heap.size) /\ Sl intEnc 1 lo hi w' (.slice a (lnkL n ls).length c) (lnkL n ls) /\ w.grownBy w' none
theorem LinkR.no {n : Int} {ls : List Lg} {w w' : World} {x : Int} (h : lnkE n ls = x) (hx : ¬ x = 0) (hg : w.grownBy w' none) : LinkR n ls w (.returned (.tuple #[.slice none 0 0, .int .i64 0, .int .i64 x])) w' := by
 have h0 : ¬ lnkE n ls = 0 := by rw [h]; exact hx
 have e1 : lnkL n ls = [] := if_neg h0
 have e2 : lnkC n ls = 0 := if_neg h0
 exact ⟨none, 0, w.heap.size, w'.heap.size, by rw [e1, e2, h]; rfl, ⟨Nat.le_refl _, Nat.le_refl _⟩, by rw [e1]; exact (Own.nil intEnc 3 1 w.heap.size w').sl (fun _ => rfl), hg⟩
theorem LinkR.yes {n : Nat} {ls : List Lg} {w w' : World} {m lg : List Int} {c : Int} {v : Value} (h : netErr (n : Int) ls = 0) (hf : lnkF n ls = (m, lg, c)) (hn : lg.length + 1 = n) (ho : Own intEnc 3 1 w.heap.size w' v (sortI lg)) (hg : w.grownBy w' none) : LinkR (n : Int) ls w (.returned (.tuple #[v, .int .i64 c, .int .i64 0])) w' := by
 have h0 : lnkE (n : Int) ls = 0 := by
  unfold lnkE
  rw [if_neg (not_not_intro h), Int.toNat_natCast, hf]
  exact if_neg (not_not_intro hn)
 have e1 : lnkL (n : Int) ls = sortI lg := by rw [lnkL, if_pos h0, Int.toNat_natCast, hf]
 have e2 : lnkC (n : Int) ls = c := by rw [lnkC, if_pos h0, Int.toNat_natCast, hf]
 obtain ⟨a, cp, rfl, hs⟩ := Own.slN ho (fun _ => rfl) rfl
 unfold LinkR
 rw [e1, e2, h0]
 exact ⟨a, cp, _, _, rfl, ⟨Nat.le_refl _, Nat.le_refl _⟩, hs, hg⟩
theorem lnkE_few {n : Nat} {ls : List Lg} {m lg : List Int} {c : Int} (h : netErr (n : Int) ls = 0) (hf : lnkF n ls = (m, lg, c)) (hn : ¬ lg.length + 1 = n) : lnkE (n : Int) ls = 7 := by
 unfold lnkE
 rw [if_neg (not_not_intro h), Int.toNat_natCast, hf]
 exact if_pos hn
theorem lnkE_net {n : Int} {ls : List Lg} (h : ¬ netErr n ls = 0) : lnkE n ls = netErr n ls := by rw [lnkE, if_pos h]
def RngOk (m : List Int) (a b : Int) (mm : List Int) (S : Int -> Bool) : Prop := mm.length = m.length /\ ∀ i : Nat, i < m.length -> mm[i]? = some (if S (i : Int) = true then m.getD i 0 else if m.getD i 0 = b then a else m.getD i 0)
theorem RngOk.start (m : List Int) (a b : Int) : RngOk m a b m (fun x => decide (0 <= x /\ x < m.length)) := by
 refine ⟨rfl, fun i hi => ?_⟩
 rw [if_pos (decide_eq_true (by omega)), List.getD_eq_getElem?_getD, List.getElem?_eq_getElem hi]
 rfl
theorem RngOk.val {m mm : List Int} {a b c : Int} {S : Int -> Bool} {i : Nat} (h : RngOk m a b mm S) (hS : S (i : Int) = true) (hc : mm[i]? = some c) : i < m.length /\ m.getD i 0 = c := by
 have h1 := (List.getElem?_eq_some_iff.1 hc).1
 rw [h.1] at h1
 have h2 := h.2 i h1
 rw [hc, if_pos hS] at h2
 exact ⟨h1, (Option.some.inj h2).symm⟩
theorem RngOk.put {m mm : List Int} {a b : Int} {S : Int -> Bool} {i : Nat} (h : RngOk m a b mm S) (hS : S (i : Int) = true) (hc : mm[i]? = some b) : RngOk m a b (mm.set i a) (fun z => S z && !decide (z = (i : Int))) := by
 obtain ⟨h1, h2⟩ := h.val hS hc
 refine ⟨by rw [List.length_set]; exact h.1, fun j hj => ?_⟩
 by_cases e : j = i
 ·
  subst e
  rw [List.getElem?_set_self (by rw [h.1]; exact h1), if_neg (by simp), if_pos h2]
 rw [List.getElem?_set_ne (fun q => e q.symm), h.2 j hj]
 have e2 : (S (j : Int) && !decide ((j : Int) = (i : Int))) = S (j : Int) := by
  rw [decide_eq_false (by omega)]; simp
 simp only [e2]
theorem RngOk.pass {m mm : List Int} {a b c : Int} {S : Int -> Bool} {i : Nat} (h : RngOk m a b mm S) (hS : S (i : Int) = true) (hc : mm[i]? = some c) (hn : ¬ c = b) : RngOk m a b mm (fun z => S z && !decide (z = (i : Int))) := by
 obtain ⟨h1, h2⟩ := h.val hS hc
 refine ⟨h.1, fun j hj => ?_⟩
 by_cases e : j = i
 ·
  subst e
  rw [hc, if_neg (by simp), h2, if_neg hn]
 rw [h.2 j hj]
 have e2 : (S (j : Int) && !decide ((j : Int) = (i : Int))) = S (j : Int) := by
  rw [decide_eq_false (by omega)]; simp
 simp only [e2]
theorem RngOk.done {m mm : List Int} {a b : Int} {S : Int -> Bool} (h : RngOk m a b mm S) (hS : ∀ x : Int, (0 <= x /\ x < mm.length) -> S x = false) : mm = mrgL m a b := by
 refine List.ext_getElem? fun i => ?_
 by_cases hi : i < m.length
 ·
  rw [h.2 i hi, if_neg (by rw [hS _ (by have := h.1; omega)]; simp)]
  unfold mrgL
  rw [List.getElem?_map, List.getD_eq_getElem?_getD, List.getElem?_eq_getElem hi]
  rfl
 · rw [List.getElem?_eq_none (by have := h.1; omega), List.getElem?_eq_none (by rw [mrgL_len]; omega)]
theorem GrpMap.lookZ {w : World} {b k : Nat} {m : List Int} (h : GrpMap w b k m) {x g : Int} (hx : 0 <= x /\ x < m.length) (hl : m.length <= 1000) (hg : gAt m x = g) :
  (Instr.lookup 122 (.map (some b)) (.int .i64 x) false).run Tryz.prog w = .ok (.int .i64 g) w := by
 obtain ⟨i, rfl⟩ : ∃ i : Nat, x = (i : Int) := ⟨x.toNat, by omega⟩
 refine h.look1 (by omega) ?_
 unfold gAt at hg
 rw [Int.toNat_natCast, List.getD_eq_getElem?_getD] at hg
 rw [List.getElem?_eq_getElem (show i < m.length by omega)] at hg ⊢
 exact congrArg some hg
open Go.RowKit
theorem kn_chk (av : Value) : jobErr jobM (jobT av) = 0 := by kernel_rfl
def jobM0 : List Mch := [⟨0, 300, 0⟩, ⟨50, 200, 24⟩]
def jobTa (l : List Int) (av : Value) : List Tsk := [⟨0, ⟨5, 12⟩, ⟨0, 0⟩, ⟨0, 0⟩, [], .slice none 0 0⟩, ⟨1, ⟨10, 10⟩, ⟨24, 24⟩, ⟨0, 6⟩, l, av⟩, ⟨0, ⟨4, 4⟩, ⟨0, 0⟩, ⟨30, 30⟩, [], .slice none 0 0⟩]
def jobTl (av : Value) : List Tsk := [⟨0, ⟨5, 12⟩, ⟨0, 0⟩, ⟨0, 0⟩, [], .slice none 0 0⟩, ⟨1, ⟨10, 30⟩, ⟨24, 24⟩, ⟨0, 6⟩, [0], av⟩, ⟨0, ⟨4, 4⟩, ⟨0, 0⟩, ⟨30, 30⟩, [], .slice none 0 0⟩]
theorem kn_chk0 (av : Value) : jobErr jobM0 (jobTa [0] av) = 2 := by kernel_rfl
theorem kn_chk1 (av : Value) : jobErr jobM (jobTa [1] av) = 7 := by kernel_rfl
theorem kn_chk2 (av : Value) : jobErr jobM (jobTa [0, 0] av) = 9 := by kernel_rfl
theorem kn_w0 : wksOf ⟨0, 300, 10⟩ weekD = [1, 1, 1, 1] := by kernel_rfl
theorem kn_w1 : wksOf ⟨50, 200, 24⟩ weekD = [1, 1, 2, 3] := by kernel_rfl
theorem kn_e0 : bothErr [⟨0, 300, 10⟩] [] weekD = 0 := by kernel_rfl
theorem kn_e1 : bothErr [⟨50, 200, 24⟩] [] weekD = 0 := by kernel_rfl
theorem kn_lb (av : Value) : bothErr jobM (jobTl av) weekD = 0 := by kernel_rfl
theorem kn_lt (av : Value) : timsOf jobM (jobTl av) weekD = [⟨⟨0, 0⟩, ⟨5, 26⟩⟩, ⟨⟨5, 26⟩, ⟨15, 97⟩⟩, ⟨⟨30, 30⟩, ⟨34, 34⟩⟩] := by kernel_rfl
theorem kn_lo (av : Value) : opnOf jobM (jobTl av) weekD = ⟨39, 97⟩ := by kernel_rfl
theorem kn_s0 (av : Value) : slkN jobM (jobT av) weekD 0 = 0 := by kernel_rfl
theorem kn_s1 (av : Value) : slkN jobM (jobT av) weekD 1 = 0 := by kernel_rfl
theorem kn_s2 (av : Value) : slkN jobM (jobT av) weekD 2 = 10 := by kernel_rfl
theorem kn_f0 (av : Value) : slkE jobM (jobT av) weekD 0 = 0 := by kernel_rfl
theorem kn_f1 (av : Value) : slkE jobM (jobT av) weekD 1 = 0 := by kernel_rfl
theorem kn_f2 (av : Value) : slkE jobM (jobT av) weekD 2 = 0 := by kernel_rfl
theorem kn_cc (av : Value) : chnC jobM (jobT av) weekD = [0, 1] := by kernel_rfl
theorem kn_ce (av : Value) : chnE jobM (jobT av) weekD = 0 := by kernel_rfl
theorem kn_bo (av : Value) : bstO jobM (jobT av) weekD = [0, 1, 2] := by kernel_rfl
theorem kn_bh (av : Value) : bstH jobM (jobT av) weekD = 60 := by kernel_rfl
theorem kn_be (av : Value) : bstE jobM (jobT av) weekD = 0 := by kernel_rfl
def knD : List Wea := [⟨⟨100, 100⟩, ⟨0, 0⟩, 0, false⟩, ⟨⟨50, 50⟩, ⟨0, 0⟩, 0, false⟩]
def knW : List Wea := [⟨⟨100, 100⟩, ⟨0, 0⟩, 10, false⟩, ⟨⟨50, 50⟩, ⟨0, 0⟩, 5, false⟩]
theorem kn_te : thkE lawF (blk ⟨300, 300⟩) knD 307 50 = 0 := by kernel_rfl
theorem kn_tl : thkL lawF (blk ⟨300, 300⟩) knD 50 2 = [10, 5] := by kernel_rfl
theorem kn_ts : thkS lawF (blk ⟨300, 300⟩) knD 50 2 = knW := by kernel_rfl
theorem kn_lf : lnkF 3 netL = ([0, 0, 0], [3, 0], 6) := by kernel_rfl
theorem kn_lr : (ordN netL netL.length).length < 20 := by decide
theorem kn_a1 : aft lawF (blk ⟨300, 300⟩) ⟨⟨100, 100⟩, ⟨0, 0⟩, 10, false⟩ = ⟨⟨300, 300⟩, ⟨10, 10⟩, ⟨0, 0⟩, ⟨0, 0⟩⟩ := by
 have h : root 96100 = 310 := root_eq ⟨by decide, by decide, by decide⟩
 have h' : roof 96100 = 310 := by unfold roof; rw [h, if_neg (by decide)]
 have e1 : grw lawF 300 0 10 100 root = 300 := by unfold grw; rw [show ((300 : Int) + (0 + 10)) * (300 + (0 + 10)) + lawF.gr * (100 - 10 * lawF.la) = 96100 by decide, h]; rfl
 have e2 : grw lawF 300 0 10 100 roof = 300 := by unfold grw; rw [show ((300 : Int) + (0 + 10)) * (300 + (0 + 10)) + lawF.gr * (100 - 10 * lawF.la) = 96100 by decide, h']; rfl
 show (⟨⟨grw lawF 300 0 10 100 root, grw lawF 300 0 10 100 roof⟩, ⟨10, 10⟩, ⟨0, 0⟩, ⟨0, 0⟩⟩ : Ice) = _
 rw [e1, e2]
theorem kn_a2 : aft lawF ⟨⟨300, 300⟩, ⟨10, 10⟩, ⟨0, 0⟩, ⟨0, 0⟩⟩ ⟨⟨50, 50⟩, ⟨0, 0⟩, 5, false⟩ = ⟨⟨300, 300⟩, ⟨15, 15⟩, ⟨0, 0⟩, ⟨0, 0⟩⟩ := by
 have h : root 99225 = 315 := root_eq ⟨by decide, by decide, by decide⟩
 have h' : roof 99225 = 315 := by unfold roof; rw [h, if_neg (by decide)]
 have e1 : grw lawF 300 10 5 50 root = 300 := by unfold grw; rw [show ((300 : Int) + (10 + 5)) * (300 + (10 + 5)) + lawF.gr * (50 - 5 * lawF.la) = 99225 by decide, h]; rfl
 have e2 : grw lawF 300 10 5 50 roof = 300 := by unfold grw; rw [show ((300 : Int) + (10 + 5)) * (300 + (10 + 5)) + lawF.gr * (50 - 5 * lawF.la) = 99225 by decide, h']; rfl
 show (⟨⟨grw lawF 300 10 5 50 root, grw lawF 300 10 5 50 roof⟩, ⟨15, 15⟩, ⟨0, 0⟩, ⟨0, 0⟩⟩ : Ice) = _
 rw [e1, e2]
theorem kn_all : allE lawF (blk ⟨300, 300⟩) knW = 0 := by decide
theorem kn_rd : readyS lawF (blk ⟨300, 300⟩) knW 307 = 2 := by
 have he : readyE lawF (blk ⟨300, 300⟩) knW 307 = 0 := by rw [readyE, if_neg (not_not_intro kn_all), if_neg (by decide)]
 rw [readyS, if_pos he]
 refine fstP_yes (i := 1) (fun j hj => ?_) ?_ 2 (by omega)
 ·
  obtain rfl : j = 0 := by omega
  show sureB _ _ (aft lawF (blk ⟨300, 300⟩) ⟨⟨100, 100⟩, ⟨0, 0⟩, 10, false⟩) = false
  rw [kn_a1]; decide
 show sureB _ _ (aft lawF (aft lawF (blk ⟨300, 300⟩) ⟨⟨100, 100⟩, ⟨0, 0⟩, 10, false⟩) ⟨⟨50, 50⟩, ⟨0, 0⟩, 5, false⟩) = true
 rw [kn_a1, kn_a2]; decide
theorem kn_tw : thkW lawF (blk ⟨300, 300⟩) knD 307 50 = [10, 5] := by rw [thkW, if_pos kn_te]; exact kn_tl
theorem kn_td : thkD lawF (blk ⟨300, 300⟩) knD 307 50 = 2 := by
 rw [thkD, if_pos kn_te, show knD.length = 2 from rfl, kn_ts]
 exact kn_rd
theorem kn_so : sortI [3, 0] = [0, 3] := by simp [sortI, List.mergeSort, List.MergeSort.Internal.splitInTwo, List.merge]
theorem kn_le : lnkE ((3 : Nat) : Int) netL = 0 := by
 unfold lnkE
 rw [if_neg (not_not_intro aw_net), Int.toNat_natCast, kn_lf]
 decide
theorem kn_ll : lnkL ((3 : Nat) : Int) netL = [0, 3] := by rw [lnkL, if_pos kn_le, Int.toNat_natCast, kn_lf]; exact kn_so
theorem kn_lc : lnkC ((3 : Nat) : Int) netL = 6 := by rw [lnkC, if_pos kn_le, Int.toNat_natCast, kn_lf]
end Go.Proofs.YtcoldeolmleeiaaGreat
