/- the reference of frost: when ice is ready. -/
import Derived.Test.YtdgplekokdeafaaGreatPG5
import Derived.Test.YtdgplekokdeafaaGreatPKF1
import Derived.Test.YtdgplekokdeafaaGreatPF16
import Derived.Test.YtdgplekokdeafaaGreatPKF2
import Derived.Test.YtdgplekokdeafaaGreatPF29
import Derived.Test.YtdgplekokdeafaaGreatPK1
set_option linter.unusedVariables false
set_option linter.unusedSimpArgs false
set_option linter.unnecessarySimpa false
namespace Go.Proofs.YtdgplekokdeafaaGreat
open Go.RowKit
set_option maxRecDepth 100000
theorem stI_ok {l : Fro} {x : Ice} {dl : List Wea} (hL : LawOk l) (hF : Falls l.cov) (hx : IceK x 0 0) (hd : ∀ d ∈ dl, WeaOk d) (hn : dl.length <= 400) (ho : okI x) : ∀ k : Nat, k <= dl.length -> okI (stI l x dl k)
 | 0, _ => ho
 | k + 1, hk => by
  have h := List.getElem?_eq_getElem (l := dl) (i := k) (by omega)
  rw [stI_succ h]
  exact aft_ok hL hF (stI_K hL hx hd hn k (by omega)) (hd _ (List.mem_of_getElem? h)) (stI_ok hL hF hx hd hn ho k (by omega))
theorem fstP_bd (p : Nat -> Bool) : ∀ n : Nat, 0 <= fstP p n /\ fstP p n <= n
 | 0 => by simp [fstP]
 | n + 1 => by
  have := fstP_bd p n
  have e : fstP p (n + 1) = if fstP p n = 0 then (if p n = true then (n : Int) + 1 else 0) else fstP p n := rfl
  rw [e]
  split
  · split <;> omega
  · omega
theorem fstP_imp {p q : Nat -> Bool} : ∀ n : Nat, (∀ j, j < n -> p j = true -> q j = true) -> fstP p n = 0 ∨ (0 < fstP q n /\ fstP q n <= fstP p n)
 | 0, _ => .inl rfl
 | n + 1, h => by
  have ih := fstP_imp (p := p) (q := q) n fun j hj => h j (by omega)
  have b1 := fstP_bd p n
  have b2 := fstP_bd q n
  rw [fstP, fstP]
  by_cases h1 : fstP p n = 0
  ·
   rw [if_pos h1]
   by_cases h2 : p n = true
   ·
    rw [if_pos h2, if_pos (h n (by omega) h2)]
    refine .inr ?_
    split
    · omega
    · omega
   · rw [if_neg h2]; exact .inl rfl
  rw [if_neg h1]
  refine .inr ?_
  rcases ih with ih | ih
  · exact absurd ih h1
  · rw [if_neg (by omega)]; exact ih
theorem readyE_ok {l : Fro} {x : Ice} {dl : List Wea} {need : Int} (h0 : allE l x dl = 0) (hn : 0 <= need /\ need <= 5000) : readyE l x dl need = 0 := by rw [readyE, if_neg (not_not_intro h0), if_neg (by omega)]
theorem ready_ok (lo hi : Nat) (v : Value) (l : Fro) (x : Ice) (lo2 hi2 : Nat) (vd : Value) (dl : List Wea) (need : Int) (w : World) (hl : Sl covEnc 3 lo hi w v l.cov) (h2 : hi <= w.heap.size) (hl2 : Sl weaEnc 6 lo2 hi2 w vd dl) (h22 : hi2 <= w.heap.size) (h0 : allE l x dl = 0) (hn : 0 <= need /\ need <= 5000) :
  Calls Tryz.prog 9 #[.agg (froC l v), .agg (iceC x), vd, .int .i64 need] w (Ret (.tuple #[.int .i64 (readyS l x dl need), .int .i64 (readyP l x dl need), .int .i64 0]) w) := by
 have h := ready_c lo hi v l x lo2 hi2 vd dl need w hl h2 hl2 h22
 rw [readyE_ok h0 hn] at h
 exact h
end Go.Proofs.YtdgplekokdeafaaGreat
