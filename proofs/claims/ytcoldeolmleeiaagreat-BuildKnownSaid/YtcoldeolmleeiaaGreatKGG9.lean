/- the reference of frost: when ice is ready. -/
import Derived.Test.YtcoldeolmleeiaaGreatKKF4
import Derived.Test.YtcoldeolmleeiaaGreatKKF1
import Derived.Test.YtcoldeolmleeiaaGreatKF16
import Derived.Test.YtcoldeolmleeiaaGreatKGG8
import Derived.Test.YtcoldeolmleeiaaGreatKK1
import Derived.Test.YtcoldeolmleeiaaGreatKF40
set_option linter.unusedVariables false
set_option linter.unusedSimpArgs false
set_option linter.unnecessarySimpa false
namespace Go.Proofs.YtcoldeolmleeiaaGreat
open Go.RowKit
set_option maxRecDepth 100000
theorem readyE_ok {l : Fro} {x : Ice} {dl : List Wea} {need : Int} (h0 : allE l x dl = 0) (hn : 0 <= need /\ need <= 5000) : readyE l x dl need = 0 := by rw [readyE, if_neg (not_not_intro h0), if_neg (by omega)]
theorem ready_ok (lo hi : Nat) (v : Value) (l : Fro) (x : Ice) (lo2 hi2 : Nat) (vd : Value) (dl : List Wea) (need : Int) (w : World) (hl : Sl covEnc 3 lo hi w v l.cov) (h2 : hi <= w.heap.size) (hl2 : Sl weaEnc 6 lo2 hi2 w vd dl) (h22 : hi2 <= w.heap.size) (h0 : allE l x dl = 0) (hn : 0 <= need /\ need <= 5000) :
  Calls Tryz.prog 60 #[.agg (froC l v), .agg (iceC x), vd, .int .i64 need] w (Ret (.tuple #[.int .i64 (readyS l x dl need), .int .i64 (readyP l x dl need), .int .i64 0]) w) := by
 have h := ready_c lo hi v l x lo2 hi2 vd dl need w hl h2 hl2 h22
 rw [readyE_ok h0 hn] at h
 exact h
attribute [local go_sem] Oper.semAt_some
end Go.Proofs.YtcoldeolmleeiaaGreat
