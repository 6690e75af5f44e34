/- frost: the chapter's examples, reckoned. -/
import Derived.Test.YtgkjicejaalijaaDoorF40
import Derived.Test.YtgkjicejaalijaaDoorFC
import Derived.Test.YtgkjicejaalijaaDoorF25
import Derived.Test.YtgkjicejaalijaaDoorTw1
set_option linter.unusedVariables false
set_option linter.unusedSimpArgs false
set_option linter.unnecessarySimpa false
namespace Go.Proofs.YtgkjicejaalijaaDoor
open Go.RowKit Go.Shelf
set_option maxRecDepth 100000

/-! ### Roots, reckoned bit by bit -/
def sqF : Nat → Nat → Nat → Nat
  | 0, _, r => r
  | k + 1, n, r => if (r + 2 ^ k) * (r + 2 ^ k) ≤ n then sqF k n (r + 2 ^ k) else sqF k n r
theorem sqF_is : ∀ (k n r : Nat), r * r ≤ n → n < (r + 2 ^ k) * (r + 2 ^ k) → sqF k n r * sqF k n r ≤ n ∧ n < (sqF k n r + 1) * (sqF k n r + 1)
  | 0, n, r, h1, h2 => ⟨h1, by simpa only [sqF, Nat.pow_zero] using h2⟩
  | k + 1, n, r, h1, h2 => by
    simp only [sqF]
    have e : r + 2 ^ (k + 1) = (r + 2 ^ k) + 2 ^ k := by rw [Nat.pow_succ]; omega
    rw [e] at h2
    split
    · rename_i h3
      exact sqF_is k n (r + 2 ^ k) h3 h2
    · rename_i h3
      exact sqF_is k n r h1 (by omega)
def rootC (n : Int) : Int := if n < 0 then 0 else (sqF (n.toNat.log2 + 1) n.toNat 0 : Nat)
theorem root_fun : root = rootC := by
  funext n
  unfold rootC
  split
  · rename_i h
    exact root_no (by omega)
  · rename_i h
    refine root_eq ?_
    obtain ⟨m, rfl⟩ : ∃ m : Nat, n = m := ⟨n.toNat, by omega⟩
    rw [Int.toNat_natCast]
    have h1 : m < 2 ^ (m.log2 + 1) := Nat.lt_log2_self
    have h2 : 2 ^ (m.log2 + 1) * 1 ≤ 2 ^ (m.log2 + 1) * 2 ^ (m.log2 + 1) := Nat.mul_le_mul_left _ (Nat.one_le_two_pow)
    obtain ⟨h3, h4⟩ := sqF_is (m.log2 + 1) m 0 (by omega) (by rw [Nat.zero_add]; omega)
    refine ⟨by omega, ?_, ?_⟩
    · exact_mod_cast h3
    · exact_mod_cast h4
def roofC (n : Int) : Int := if rootC n * rootC n < n then rootC n + 1 else rootC n
theorem roof_fun : roof = roofC := by
  funext n
  unfold roof roofC
  rw [root_fun]
def frzC (l : Fro) (x : Ice) (c : Sp) : Ice :=
  ⟨⟨if x.we.hi ≤ fewC l x c / l.la then grw l x.bl.lo x.wh.hi x.we.hi (fewC l x c) rootC else x.bl.lo, if x.we.lo ≤ manyC l x c / l.la then grw l x.bl.hi x.wh.lo x.we.lo (manyC l x c) roofC else x.bl.hi⟩,
   ⟨x.wh.lo + min x.we.lo (fewC l x c / l.la), x.wh.hi + min x.we.hi (manyC l x c / l.la)⟩, ⟨max 0 (x.we.lo - manyC l x c / l.la), max 0 (x.we.hi - fewC l x c / l.la)⟩, x.sn⟩
def aftC (l : Fro) (x : Ice) (d : Wea) : Ice :=
  if 0 ≤ d.cold.lo then frzC l (cvd l x d) d.cold else if d.cold.hi < 0 then mlt l (cvd l x d) d.cold else jnd (frzC l (cvd l x d) ⟨0, d.cold.hi⟩) (mlt l (cvd l x d) ⟨d.cold.lo, -1⟩)
theorem aft_fun : aft = aftC := by
  funext l x d
  unfold aft aftC frz frzC
  rw [root_fun, roof_fun]
/-! ### Days -/
def wDay (c f n : Int) : Wea := ⟨⟨c, c⟩, ⟨f, f⟩, n, false⟩
def ice4 (a b c d e f g h : Int) : Ice := ⟨⟨a, b⟩, ⟨c, d⟩, ⟨e, f⟩, ⟨g, h⟩⟩
/-- The ice, the days and what is known behind them. -/
def iceL : List Ice := [ice4 300 300 0 0 0 0 0 0, ice4 300 300 0 0 0 0 0 0, ice4 300 300 0 0 0 0 0 0, ice4 300 300 0 0 0 0 0 0, ice4 300 300 0 0 0 0 20 20]
def dayL : List Wea := [wDay 100 150 0, wDay 100 0 20, wDay 200 100 10, wDay (-150) 0 0, wDay (-150) 0 0]
def wantL : List Ice := [ice4 306 309 0 0 0 0 150 150, ice4 300 300 10 10 10 10 0 0, ice4 300 300 20 20 20 20 0 0, ice4 270 285 0 0 0 0 0 0, ice4 290 300 0 0 0 0 0 5]
theorem wantL_is : ∀ i, i < 5 → stepI lawF (iceL.getD i ice0) (dayL.getD i d160) = wantL.getD i ice0 ∧ allE lawF (iceL.getD i ice0) [dayL.getD i d160] = 0 := by
  have e : ∀ i, i < 5 → (if allE lawF (iceL.getD i ice0) [dayL.getD i d160] = 0 then aftC lawF (iceL.getD i ice0) (dayL.getD i d160) else ice0) = wantL.getD i ice0 ∧ allE lawF (iceL.getD i ice0) [dayL.getD i d160] = 0 := by
    intro i hi
    match i, hi with
    | 0, _ => exact ⟨by kernel_rfl, by kernel_rfl⟩
    | 1, _ => exact ⟨by kernel_rfl, by kernel_rfl⟩
    | 2, _ => exact ⟨by kernel_rfl, by kernel_rfl⟩
    | 3, _ => exact ⟨by kernel_rfl, by kernel_rfl⟩
    | 4, _ => exact ⟨by kernel_rfl, by kernel_rfl⟩
  intro i hi
  have h := e i hi
  unfold stepI
  rw [aft_fun]
  exact h
def floodC (l : Fro) (x : Ice) (dl : List Wea) (att most : Int) : Int := grtP (fun n => decide ((((setW dl (att - 1).toNat (n : Int)).take (setW dl (att - 1).toNat (n : Int)).length).foldl (aftC l) x).we.hi = 0)) (most.toNat + 1)
theorem flood_is : floodI lawF (ice4 300 300 0 0 0 0 0 0) [wDay 100 0 0, wDay 50 0 0] 1 50 = 15 ∧ floodE lawF (ice4 300 300 0 0 0 0 0 0) [wDay 100 0 0, wDay 50 0 0] 1 50 = 0 := by
  have h2 : floodE lawF (ice4 300 300 0 0 0 0 0 0) [wDay 100 0 0, wDay 50 0 0] 1 50 = 0 := by
    unfold floodE
    rw [if_neg (not_not_intro (by kernel_rfl)), if_neg (by simp)]
  refine ⟨?_, h2⟩
  unfold floodI dryB stI
  rw [if_pos h2, aft_fun]
  exact (by kernel_rfl : floodC lawF (ice4 300 300 0 0 0 0 0 0) [wDay 100 0 0, wDay 50 0 0] 1 50 = 15)
theorem bear_is : bearT lawF (ice4 300 310 41 43 0 1 0 0) = ⟨320, 336⟩ ∧ bearS lawF (ice4 300 310 41 43 0 1 0 0) = 3 ∧ bearE lawF (ice4 300 310 41 43 0 1 0 0) = 0 := ⟨by kernel_rfl, by kernel_rfl, by kernel_rfl⟩
theorem core_1 : coreI (ice4 300 310 0 0 0 0 0 0) (ice4 305 320 0 0 0 0 0 0) = ice4 305 310 0 0 0 0 0 0 ∧ coreE (ice4 300 310 0 0 0 0 0 0) (ice4 305 320 0 0 0 0 0 0) = 0 := ⟨by kernel_rfl, by kernel_rfl⟩
theorem core_2 : coreE (ice4 300 310 0 0 0 0 0 0) (ice4 305 320 0 0 0 0 1 2) = 12 := by kernel_rfl
def wCold : Wea := ⟨⟨-150, -100⟩, ⟨0, 0⟩, 0, false⟩
theorem index_is : indexI [wDay 160 0 0, wCold] = ⟨10, 60⟩ ∧ daysE [wDay 160 0 0, wCold] = 0 := ⟨by kernel_rfl, by kernel_rfl⟩
def wClear : Wea := ⟨⟨-5, 5⟩, ⟨1, 2⟩, 0, true⟩
theorem dig1 {u : Nat} (h : u < 10) : Lib.decDigits u = [UInt8.ofNat (48 + u)] := by rw [Lib.decDigits, dif_pos h]
theorem dig2 {u : Nat} (h : ¬ u < 10) : Lib.decDigits u = Lib.decDigits (u / 10) ++ [UInt8.ofNat (48 + u % 10)] := by rw [Lib.decDigits, dif_neg h]
theorem text_is : wrS [wDay 160 0 20, wClear] = ⟨#[100, 97, 121, 32, 49, 54, 48, 32, 49, 54, 48, 32, 48, 32, 48, 32, 50, 48, 32, 115, 110, 111, 119, 10, 100, 97, 121, 32, 45, 53, 32, 53, 32, 49, 32, 50, 32, 48, 32, 99, 108, 101, 97, 114, 10]⟩ ∧ daysE [wDay 160 0 20, wClear] = 0 := by
  have h2 : daysE [wDay 160 0 20, wClear] = 0 := by kernel_rfl
  refine ⟨?_, h2⟩
  have a0 : Lib.itoa 0 = [48] := by rw [Lib.itoa, if_neg (by decide)]; exact dig1 (u := 0) (by decide)
  have a1 : Lib.itoa 1 = [49] := by rw [Lib.itoa, if_neg (by decide)]; exact dig1 (u := 1) (by decide)
  have a2 : Lib.itoa 2 = [50] := by rw [Lib.itoa, if_neg (by decide)]; exact dig1 (u := 2) (by decide)
  have a5 : Lib.itoa 5 = [53] := by rw [Lib.itoa, if_neg (by decide)]; exact dig1 (u := 5) (by decide)
  have am : Lib.itoa (-5) = [45, 53] := by rw [Lib.itoa, if_pos (by decide)]; exact congrArg (45 :: ·) (dig1 (u := 5) (by decide))
  have a20 : Lib.itoa 20 = [50, 48] := by
    rw [Lib.itoa, if_neg (by decide)]
    show Lib.decDigits 20 = _
    rw [dig2 (by decide), dig1 (by decide)]
    rfl
  have a160 : Lib.itoa 160 = [49, 54, 48] := by
    rw [Lib.itoa, if_neg (by decide)]
    show Lib.decDigits 160 = _
    rw [dig2 (by decide), dig2 (by decide), dig1 (by decide)]
    rfl
  rw [wrS, if_pos h2]
  simp only [logT, dayT, numT, wDay, wClear, a0, a1, a2, a5, am, a20, a160]
  rfl
/-! ### Laws -/
theorem check_is (l : Fro) (k : Int) (lo hi : Nat) (v : Value) (w : World) (hl : Sl covEnc 3 lo hi w v l.cov) (h2 : hi ≤ w.heap.size) (hk : froErr l = k) : Calls Tryd.prog 9 #[.agg (froC l v)] w (Ret (.int .i64 k) w) := by
  subst hk
  exact check_c lo hi v l w hl h2
end Go.Proofs.YtgkjicejaalijaaDoor
