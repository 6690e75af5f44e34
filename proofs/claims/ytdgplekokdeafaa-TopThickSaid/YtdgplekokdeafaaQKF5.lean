/- the kit of frost: days within, made of numbers. -/
import Derived.Test.YtdgplekokdeafaaQF29
import Derived.Test.YtdgplekokdeafaaQKF2
import Derived.Test.YtdgplekokdeafaaQK1
import Derived.Test.YtdgplekokdeafaaQKF4
import Derived.Test.YtdgplekokdeafaaQF36
import Derived.Test.YtdgplekokdeafaaQF16
set_option linter.unusedVariables false
set_option linter.unusedSimpArgs false
set_option linter.unnecessarySimpa false
namespace Go.Proofs.Ytdgplekokdeafaa
open Go.RowKit
set_option maxRecDepth 100000
theorem fstP_bd (p : Nat -> Bool) : ∀ n : Nat, 0 <= fstP p n /\ fstP p n <= n
 | 0 => by simp [fstP]
 | n + 1 => by
  have := fstP_bd p n
  have e : fstP p (n + 1) = if fstP p n = 0 then (if p n = true then (n : Int) + 1 else 0) else fstP p n := rfl
  rw [e]
  split
  · split <;> omega
  · omega
theorem readyE_ok {l : Fro} {x : Ice} {dl : List Wea} {need : Int} (h0 : allE l x dl = 0) (hn : 0 <= need /\ need <= 5000) : readyE l x dl need = 0 := by rw [readyE, if_neg (not_not_intro h0), if_neg (by omega)]
theorem ready_ok (lo hi : Nat) (v : Value) (l : Fro) (x : Ice) (lo2 hi2 : Nat) (vd : Value) (dl : List Wea) (need : Int) (w : World) (hl : Sl covEnc 3 lo hi w v l.cov) (h2 : hi <= w.heap.size) (hl2 : Sl weaEnc 6 lo2 hi2 w vd dl) (h22 : hi2 <= w.heap.size) (h0 : allE l x dl = 0) (hn : 0 <= need /\ need <= 5000) :
  Calls Try.prog 35 #[.agg (froC l v), .agg (iceC x), vd, .int .i64 need] w (Ret (.tuple #[.int .i64 (readyS l x dl need), .int .i64 (readyP l x dl need), .int .i64 0]) w) := by
 have h := ready_c lo hi v l x lo2 hi2 vd dl need w hl h2 hl2 h22
 rw [readyE_ok h0 hn] at h
 exact h
end Go.Proofs.Ytdgplekokdeafaa
