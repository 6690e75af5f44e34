/- build and its reference: an hour on the site. -/
import Derived.Test.YtdgplekokdeafaaGreatPG3
import Derived.Test.YtdgplekokdeafaaGreatPJ10
set_option linter.unusedVariables false
set_option linter.unusedSimpArgs false
set_option linter.unnecessarySimpa false
namespace Go.Proofs.YtdgplekokdeafaaGreat
open Go.RowKit
set_option maxRecDepth 100000
attribute [local go_sem] Oper.semAt_some
theorem Own.opnN {α : Type} {enc : α -> List Value} {e : TypeId} {sz base n : Nat} {w : World} {v : Value} {l : List α} (h : Own enc e sz base w v l) (hn : l.length = n) (h0 : 0 < n) : ∃ g cap, v = .slice (some ⟨g, 0, none⟩) n cap := by
 subst hn
 exact Own.opn h h0
section
variable {c : Cs} {N h i : Nat}
end
end Go.Proofs.YtdgplekokdeafaaGreat
/- build and its reference: a site after all days. -/
namespace Go.Proofs.YtdgplekokdeafaaGreat
open Go.RowKit
set_option maxRecDepth 100000
attribute [local go_sem] Oper.semAt_some
end Go.Proofs.YtdgplekokdeafaaGreat
/- build and its reference: spans within spans; Times of what has no error. -/
namespace Go.Proofs.YtdgplekokdeafaaGreat
open Go.RowKit
set_option maxRecDepth 100000
theorem btimes_ok (lo hi : Nat) (vm vt : Value) (ms : List Mch) (ts : List Tsk) (lo2 hi2 : Nat) (vd : Value) (dl : List Wea) (w : World) (hj : JobAt lo hi w vm vt ms ts) (h2 : hi <= w.heap.size) (hd : Sl weaEnc 6 lo2 hi2 w vd dl) (h3 : hi2 <= w.heap.size) (he : bothErr ms ts dl = 0) (x y : Int) (hx : (caseOf false ms ts dl).opn ts.length = x) (hy : (caseOf true ms ts dl).opn ts.length = y) :
  Calls Tryz.prog 15 #[.agg #[vm, vt], vd] w (fun e w' => ∃ (a : Option Addr) (c lo hi : Nat), e = .returned (.tuple #[.slice a ts.length c, .agg #[.int .i64 x, .int .i64 y], .int .i64 0]) /\ (w.heap.size <= lo /\ hi <= w'.heap.size) /\ Sl timEnc 4 lo hi w' (.slice a ts.length c) (timN (caseOf false ms ts dl) (caseOf true ms ts dl) ts.length ts.length) /\ w.grownBy w' none) := by
 refine (btimes_c lo hi vm vt ms ts lo2 hi2 vd dl w hj h2 hd h3).mono ?_
 rintro e w' ⟨a, c, lo', hi', he', h4, hs, hg⟩
 have e1 : timsOf ms ts dl = timN (caseOf false ms ts dl) (caseOf true ms ts dl) ts.length ts.length := by rw [timsOf, if_pos he]
 have e2 : opnOf ms ts dl = ⟨(caseOf false ms ts dl).opn ts.length, (caseOf true ms ts dl).opn ts.length⟩ := by rw [opnOf, if_pos he]
 rw [e1, timN_len, e2, he, hx, hy] at he'
 rw [e1, timN_len] at hs
 exact ⟨a, c, lo', hi', he', h4, hs, hg⟩
theorem timN_get {c d : Cs} {n k i : Nat} (h : i < k) : (timN c d n k)[i]? = some (timAt c d n i) := by simp [timN, h]
end Go.Proofs.YtdgplekokdeafaaGreat
