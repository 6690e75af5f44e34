/- frost and its reference: spans, parts, roots. -/
import Derived.Test.YtcoldeolmleeiaaGreatKK1
set_option linter.unusedVariables false
set_option linter.unusedSimpArgs false
set_option linter.unnecessarySimpa false
namespace Go.Proofs.YtcoldeolmleeiaaGreat
open Go.RowKit
def spanErr (a b lo hi : Int) : Int := if a < lo ∨ hi < a ∨ b < lo ∨ hi < b then 2 else if b < a then 11 else 0
theorem spanErr_ok {a b lo hi : Int} (h : spanErr a b lo hi = 0) : lo <= a /\ a <= b /\ b <= hi := by
 unfold spanErr at h
 split at h
 · cases h
 split at h
 · cases h
 · omega
def dn (n p : Int) : Int := n * p / 1000000
def upp (n p : Int) : Int := (n * p + 1000000 - 1) / 1000000
theorem fault_c (a b lo hi : Int) (w : World)  :
  Calls Tryz.prog 83 #[.agg #[.int .i64 a, .int .i64 b], .int .i64 lo, .int .i64 hi] w (Ret (.int .i64 (spanErr a b lo hi)) w) := by
 have F1 : Bun w [] w := Bun.nil _
 go_enter Tryz.func83, Tryz.ntmps83
 by_cases c2 : a < lo
 ·
  have c2H := lhd c2
  have Hx3 := lhd (show (spanErr a b lo hi) = 2 by unfold spanErr; (repeat' split) <;> omega)
  go_wp2_with fail
  replace F1 := F1.new 32 #[.int .i64 a, .int .i64 b] (n := w.heap.size) (by simp)
  go_ret
  exact ⟨by rw [Hx3.out] <;> rfl, F1.gb⟩
 have c2H := lhd c2
 have c2a := dec_f c2
 by_cases c5 : hi < a
 ·
  have c5H := lhd c5
  have Hx6 := lhd (show (spanErr a b lo hi) = 2 by unfold spanErr; (repeat' split) <;> omega)
  go_wp2_with fail
  replace F1 := F1.new 32 #[.int .i64 a, .int .i64 b] (n := w.heap.size) (by simp)
  go_ret
  exact ⟨by rw [Hx6.out] <;> rfl, F1.gb⟩
 have c5H := lhd c5
 have c5a := dec_f c5
 by_cases c8 : b < lo
 ·
  have c8H := lhd c8
  have Hx9 := lhd (show (spanErr a b lo hi) = 2 by unfold spanErr; (repeat' split) <;> omega)
  go_wp2_with fail
  replace F1 := F1.new 32 #[.int .i64 a, .int .i64 b] (n := w.heap.size) (by simp)
  go_ret
  exact ⟨by rw [Hx9.out] <;> rfl, F1.gb⟩
 have c8H := lhd c8
 have c8a := dec_f c8
 by_cases c11 : hi < b
 ·
  have c11H := lhd c11
  have Hx12 := lhd (show (spanErr a b lo hi) = 2 by unfold spanErr; (repeat' split) <;> omega)
  go_wp2_with fail
  replace F1 := F1.new 32 #[.int .i64 a, .int .i64 b] (n := w.heap.size) (by simp)
  go_ret
  exact ⟨by rw [Hx12.out] <;> rfl, F1.gb⟩
 have c11H := lhd c11
 have c11a := dec_f c11
 by_cases c14 : b < a
 ·
  have c14H := lhd c14
  have Hx15 := lhd (show (spanErr a b lo hi) = 11 by unfold spanErr; (repeat' split) <;> omega)
  go_wp2_with fail
  replace F1 := F1.new 32 #[.int .i64 a, .int .i64 b] (n := w.heap.size) (by simp)
  go_ret
  exact ⟨by rw [Hx15.out] <;> rfl, F1.gb⟩
 have c14H := lhd c14
 have c14a := dec_f c14
 have Hx17 := lhd (show (spanErr a b lo hi) = 0 by unfold spanErr; (repeat' split) <;> omega)
 go_wp2_with fail
 replace F1 := F1.new 32 #[.int .i64 a, .int .i64 b] (n := w.heap.size) (by simp)
 go_ret
 exact ⟨by rw [Hx17.out] <;> rfl, F1.gb⟩
theorem down_c (n p : Int) (w : World) (hn : 0 <= n) (hn2 : n <= 100000000000) (hp : 0 <= p) (hp2 : p <= 10000000) :
  Calls Tryz.prog 89 #[.int .i64 n, .int .i64 p] w (fun e w' => e = .returned (.int .i64 (dn n p)) /\ w = w') := by
 have hm : 0 <= n * p := Int.mul_nonneg hn hp
 have hm2 : n * p <= 1000000000000000000 := by
  have h1 : n * p <= n * 10000000 := Int.mul_le_mul_of_nonneg_left hp2 hn
  omega
 have F1 : Bun w [] w := Bun.nil _
 go_enter Tryz.func89, Tryz.ntmps89
 have Hx2 := lhd (show (dn n p) = (n * p) / 1000000 by rfl)
 go_wp2_with fail
 go_ret
 exact ⟨by rw [Hx2.out] <;> rfl, rfl⟩
theorem up_c (n p : Int) (w : World) (hn : 0 <= n) (hn2 : n <= 100000000000) (hp : 0 <= p) (hp2 : p <= 10000000) :
  Calls Tryz.prog 90 #[.int .i64 n, .int .i64 p] w (fun e w' => e = .returned (.int .i64 (upp n p)) /\ w = w') := by
 have hm : 0 <= n * p := Int.mul_nonneg hn hp
 have hm2 : n * p <= 1000000000000000000 := by
  have h1 : n * p <= n * 10000000 := Int.mul_le_mul_of_nonneg_left hp2 hn
  omega
 have F1 : Bun w [] w := Bun.nil _
 go_enter Tryz.func90, Tryz.ntmps90
 have Hx2 := lhd (show (upp n p) = (n * p + 1000000 - 1) / 1000000 by rfl)
 go_wp2_with fail
 go_ret
 exact ⟨by rw [Hx2.out] <;> rfl, rfl⟩
def isRoot (n r : Int) : Prop := 0 <= r /\ r * r <= n /\ n < (r + 1) * (r + 1)
theorem sq_lt {a b : Int} (h0 : 0 <= a) (h : a <= b) : a * a <= b * b := Int.mul_le_mul h h h0 (Int.le_trans h0 h)
theorem isRoot_uni {n r s : Int} (h : isRoot n r) (h' : isRoot n s) : r = s := by
 obtain ⟨a1, a2, a3⟩ := h
 obtain ⟨b1, b2, b3⟩ := h'
 rcases Int.lt_trichotomy r s with h | h | h
 · have := sq_lt (a := r + 1) (b := s) (by omega) (by omega); omega
 · exact h
 · have := sq_lt (a := s + 1) (b := r) (by omega) (by omega); omega
open Classical in
noncomputable def root (n : Int) : Int := if h : ∃ r, isRoot n r then Classical.choose h else 0
theorem root_eq {n r : Int} (h : isRoot n r) : root n = r := by
 have hx : ∃ r, isRoot n r := ⟨r, h⟩
 rw [root, dif_pos hx]
 exact isRoot_uni (Classical.choose_spec hx) h
theorem root_no {n : Int} (h : n <= 0) : root n = 0 := by
 by_cases h0 : n = 0
 · subst h0; exact root_eq ⟨by omega, by omega, by omega⟩
 rw [root, dif_neg]
 rintro ⟨r, a, b, c⟩
 have := Int.mul_nonneg a a
 omega
theorem mid_yes {m n : Int} (hm : 0 < m) (h : m <= n / m) : m * m <= n := (Int.le_ediv_iff_mul_le hm).1 h
theorem mid_no {m n : Int} (hm : 0 < m) (h : n / m < m) : n < m * m := by
 rcases Int.lt_or_le n (m * m) with h1 | h1
 · exact h1
 · have := (Int.le_ediv_iff_mul_le hm).2 h1; omega
theorem root_end {n lo hi : Int} (h1 : 1 <= lo) (h2 : lo * lo <= n) (h3 : n < hi * hi) (h4 : lo < hi) (h5 : ¬ 1 < hi - lo) : root n = lo := by
 obtain rfl : hi = lo + 1 := by omega
 exact root_eq ⟨by omega, h2, h3⟩
noncomputable def roof (n : Int) : Int := if root n * root n < n then root n + 1 else root n
set_option maxHeartbeats 1000000 in
theorem root_c (n : Int) (w : World) (hn : n <= 9223372036854775807) :
  Calls Tryz.prog 117 #[.int .i64 n] w (fun e w' => e = .returned (.int .i64 (root n)) /\ w = w') := by
 have F1 : Bun w [] w := Bun.nil _
 go_enter Tryz.func117, Tryz.ntmps117
 by_cases c2 : n <= 0
 ·
  have c2H := lhd c2
  have Hx3 := lhd (show (root n) = 0 by exact root_no (by omega))
  go_wp2_with fail
  go_ret
  exact ⟨by rw [Hx3.out] <;> rfl, rfl⟩
 have c2H := lhd c2
 have c2a := dec_f c2
 go_wp2_with fail
 obtain ⟨HI4_, HI40⟩ : ∃ I : RelT, I = (fun t ds wr => ∃ (lo hi : Int), t 0 = .int .i64 n /\ t 3 = .int .i64 lo /\ t 4 = .int .i64 hi /\ 1 <= lo /\ lo < hi /\ hi <= 4294967296 /\ lo * lo <= n /\ n < hi * hi /\ ds = [] /\ wr = w) := ⟨_, rfl⟩
 have HI4 := lhd HI40
 clear HI40
 refine wp_loopS 26 rfl HI4_ (fun t wr => (intOf (t 4) - intOf (t 3)).toNat) ?atStart1 ?round1
 case round1 =>
  intro t ds wr hHid
  rw [HI4.out] at hHid
  obtain ⟨lo, hi, e0, e3, e4, hrel⟩ := hHid
  have e : ((List.range 26).map t).toArray = #[t 0, t 1, t 2, t 3, t 4, t 5, t 6, t 7, t 8, t 9, t 10, t 11, t 12, t 13, t 14, t 15, t 16, t 17, t 18, t 19, t 20, t 21, t 22, t 23, t 24, t 25] := rfl
  (try dsimp only at e)
  rw [e0, e3, e4] at e
  rw [e]
  simp only [e3, e4]
  clear e e0 e3 e4
  obtain ⟨h1, h2, h3, h4, h5, rfl, rfl⟩ := hrel
  have H4 := lhd h4
  have H5 := lhd h5
  clear h4 h5
  by_cases c8 : 1 < hi - lo
  ·
   have c8H := lhd c8
   by_cases c9 : lo + ((hi - lo) / 2) <= n / (lo + ((hi - lo) / 2))
   ·
    have c9H := lhd c9
    go_wp2_with fail
    (first | refine ⟨rfl, ?_, ?_⟩ | refine ⟨?_, ?_⟩)
    · rw [HI4.out]; exact ⟨lo + ((hi - lo) / 2), hi, rfl, rfl, rfl, (by omega), (by omega), (by omega), (mid_yes (by omega) c9), H5.out, (by first | rfl | simp), rfl⟩
    · simp [slot, intOf]; omega
   have c9H := lhd c9
   have c9a := dec_f c9
   go_wp2_with fail
   (first | refine ⟨rfl, ?_, ?_⟩ | refine ⟨?_, ?_⟩)
   · rw [HI4.out]; exact ⟨lo, lo + ((hi - lo) / 2), rfl, rfl, rfl, (by omega), (by omega), (by omega), H4.out, (mid_no (by omega) c9), (by first | rfl | simp), rfl⟩
   · simp [slot, intOf]; omega
  have c8H := lhd c8
  have c8a := dec_f c8
  have Hx10 := lhd (show (root n) = lo by exact root_end h1 H4.out H5.out h2 (by omega))
  go_wp2_with fail
  go_ret
  exact ⟨by rw [Hx10.out] <;> rfl, rfl⟩
 case atStart1 =>
  rw [HI4.out]
  exact ⟨1, 4294967296, rfl, rfl, rfl, (by omega), (by omega), (by omega), (by omega), (by omega), rfl, rfl⟩
theorem root_ex : ∀ (k : Nat) (n : Int), 0 <= n -> n < (k : Int) * k -> ∃ r : Int, isRoot n r /\ r < k := by
 intro k
 induction k with
 | zero => intro n h h'; simp at h'; omega
 | succ k ih =>
  intro n h h'
  by_cases hk : n < (k : Int) * k
  · obtain ⟨r, hr, hl⟩ := ih n h hk; exact ⟨r, hr, by omega⟩
  · exact ⟨k, ⟨by omega, by omega, by simpa using h'⟩, by omega⟩
theorem root_is {n : Int} (h : 0 <= n) : isRoot n (root n) := by
 have hx : ∃ r, isRoot n r := by
  obtain ⟨r, hr, _⟩ := root_ex (n.toNat + 1) n h (by
   have e : ((n.toNat + 1 : Nat) : Int) = n + 1 := by omega
   rw [e]
   have := Int.mul_nonneg h h
   have e2 : (n + 1) * (n + 1) = n * n + (2 * n + 1) := by rw [Int.add_mul, Int.mul_add]; omega
   omega)
  exact ⟨r, hr⟩
 rw [root, dif_pos hx]
 exact Classical.choose_spec hx
theorem root_bd {n : Int} (h : n <= 9223372036854775807) : 0 <= root n /\ root n <= 3037000499 := by
 rcases Int.lt_or_le 0 n with h0 | h0
 ·
  obtain ⟨a, b, c⟩ := root_is (n := n) (by omega)
  refine ⟨a, ?_⟩
  rcases Int.lt_or_le 3037000499 (root n) with h1 | h1
  · have := sq_lt (a := 3037000500) (b := root n) (by omega) (by omega); omega
  · exact h1
 · rw [root_no h0]; omega
theorem rootUp_c (n : Int) (w : World) (hn : n <= 9223372036854775807) :
  Calls Tryz.prog 118 #[.int .i64 n] w (fun e w' => e = .returned (.int .i64 (roof n)) /\ w = w') := by
 have hrr : 0 <= root n /\ root n <= 3037000499 := root_bd hn
 have hq : 0 <= root n * root n := Int.mul_nonneg hrr.1 hrr.1
 have hq2 : root n * root n <= 9223372036854775807 := by have := sq_lt (a := root n) (b := 3037000499) hrr.1 hrr.2; omega
 have F1 : Bun w [] w := Bun.nil _
 go_enter Tryz.func118, Tryz.ntmps118
 go_wp2_with fail
 refine (root_c _ _ (by omega)).mono ?_
 rintro e _ ⟨rfl, rfl⟩
 by_cases c2 : (root n) * (root n) < n
 ·
  have c2H := lhd c2
  have Hx3 := lhd (show (roof n) = root n + 1 by unfold roof; split <;> omega)
  go_wp2_with fail
  go_ret
  exact ⟨by rw [Hx3.out] <;> rfl, rfl⟩
 have c2H := lhd c2
 have c2a := dec_f c2
 have Hx4 := lhd (show (roof n) = root n by unfold roof; split <;> omega)
 go_wp2_with fail
 go_ret
 exact ⟨by rw [Hx4.out] <;> rfl, rfl⟩
set_option maxRecDepth 100000
structure Ice where
 bl : Sp
 wh : Sp
 we : Sp
 sn : Sp
structure Cov where
 dp : Int
 pt : Sp
def covEnc (c : Cov) : List Value := [.int .i64 c.dp, .int .i64 c.pt.lo, .int .i64 c.pt.hi]
structure Fro where
 gr : Int
 la : Int
 cov : List Cov
 melt : Sp
 soak : Int
 white : Sp
structure Wea where
 cold : Sp
 fall : Sp
 water : Int
 clear : Bool
def weaEnc (d : Wea) : List Value := [.int .i64 d.cold.lo, .int .i64 d.cold.hi, .int .i64 d.fall.lo, .int .i64 d.fall.hi, .int .i64 d.water, .bool d.clear]
def iceErr (x : Ice) : Int := if ¬ spanErr x.bl.lo x.bl.hi 0 5000 = 0 then spanErr x.bl.lo x.bl.hi 0 5000 else if ¬ spanErr x.wh.lo x.wh.hi 0 5000 = 0 then spanErr x.wh.lo x.wh.hi 0 5000 else
 if ¬ spanErr x.we.lo x.we.hi 0 5000 = 0 then spanErr x.we.lo x.we.hi 0 5000 else spanErr x.sn.lo x.sn.hi 0 5000
def deepB (p : Option Cov) (c : Cov) : Bool := match p with | none => !decide (c.dp = 0) | some q => decide (c.dp <= q.dp)
def moreB (p : Option Cov) (c : Cov) : Bool := match p with | none => false | some q => decide (q.pt.lo < c.pt.lo ∨ q.pt.hi < c.pt.hi)
def covErr : Option Cov -> List Cov -> Int
 | _, [] => 0
 | p, c :: cs => if c.dp < 0 ∨ 5000 < c.dp then 2 else if deepB p c = true then 11 else if ¬ spanErr c.pt.lo c.pt.hi 0 1000000 = 0 then spanErr c.pt.lo c.pt.hi 0 1000000 else if moreB p c = true then 11 else covErr (some c) cs
def covsE (l : List Cov) : Int := if l.length = 0 then 6 else if 12 < l.length then 8 else covErr none l
def froErr (l : Fro) : Int := if l.gr < 0 ∨ 10000 < l.gr ∨ l.la < 1 ∨ 1000 < l.la then 2 else if ¬ covsE l.cov = 0 then covsE l.cov else
 if ¬ spanErr l.melt.lo l.melt.hi 0 10000000 = 0 then spanErr l.melt.lo l.melt.hi 0 10000000 else if l.soak < 0 ∨ 1000000 < l.soak then 2 else spanErr l.white.lo l.white.hi 0 1000000
def weaErr (d : Wea) : Int := if ¬ spanErr d.cold.lo d.cold.hi (-1000) 1000 = 0 then spanErr d.cold.lo d.cold.hi (-1000) 1000 else if ¬ spanErr d.fall.lo d.fall.hi 0 1000 = 0 then spanErr d.fall.lo d.fall.hi 0 1000 else
 if d.water < 0 ∨ 200 < d.water then 2 else 0
def daysErr : List Wea -> Int
 | [] => 0
 | d :: ds => if ¬ weaErr d = 0 then weaErr d else daysErr ds
def daysE (l : List Wea) : Int := if 400 < l.length then 8 else daysErr l
def allE (l : Fro) (x : Ice) (ds : List Wea) : Int := if ¬ froErr l = 0 then froErr l else if ¬ iceErr x = 0 then iceErr x else daysE ds
theorem layersOf_c (x : Ice) (w : World)  :
  Calls Tryz.prog 72 #[.agg #[.int .i64 x.bl.lo, .int .i64 x.bl.hi, .int .i64 x.wh.lo, .int .i64 x.wh.hi, .int .i64 x.we.lo, .int .i64 x.we.hi, .int .i64 x.sn.lo, .int .i64 x.sn.hi]] w (Ret (.agg #[.int .i64 x.bl.lo, .int .i64 x.bl.hi, .int .i64 x.wh.lo, .int .i64 x.wh.hi, .int .i64 x.we.lo, .int .i64 x.we.hi, .int .i64 x.sn.lo, .int .i64 x.sn.hi]) w) := by
 have F1 : Bun w [] w := Bun.nil _
 go_enter Tryz.func72, Tryz.ntmps72
 go_wp2_with fail
 replace F1 := F1.new 84 #[.int .i64 x.bl.lo, .int .i64 x.bl.hi, .int .i64 x.wh.lo, .int .i64 x.wh.hi, .int .i64 x.we.lo, .int .i64 x.we.hi, .int .i64 x.sn.lo, .int .i64 x.sn.hi] (n := w.heap.size) (by simp)
 replace F1 := F1.new 142 #[.int .i64 x.bl.lo, .int .i64 x.bl.hi, .int .i64 x.wh.lo, .int .i64 x.wh.hi, .int .i64 x.we.lo, .int .i64 x.we.hi, .int .i64 x.sn.lo, .int .i64 x.sn.hi] (n := (w.heap.size + 1)) (by simp)
 have kb4 := F1.bx8 0 rfl
 go_wp2_with fail
 exact bodyPost_ret (v := .agg #[.int .i64 x.bl.lo, .int .i64 x.bl.hi, .int .i64 x.wh.lo, .int .i64 x.wh.hi, .int .i64 x.we.lo, .int .i64 x.we.hi, .int .i64 x.sn.lo, .int .i64 x.sn.hi]) (by simp [results, Tryz.results72, go_sem, kb4]) rfl (⟨rfl, F1.gb⟩)
theorem lice_c (x : Ice) (w : World)  :
  Calls Tryz.prog 73 #[.agg #[.int .i64 x.bl.lo, .int .i64 x.bl.hi, .int .i64 x.wh.lo, .int .i64 x.wh.hi, .int .i64 x.we.lo, .int .i64 x.we.hi, .int .i64 x.sn.lo, .int .i64 x.sn.hi]] w (Ret (.agg #[.int .i64 x.bl.lo, .int .i64 x.bl.hi, .int .i64 x.wh.lo, .int .i64 x.wh.hi, .int .i64 x.we.lo, .int .i64 x.we.hi, .int .i64 x.sn.lo, .int .i64 x.sn.hi]) w) := by
 have F1 : Bun w [] w := Bun.nil _
 go_enter Tryz.func73, Tryz.ntmps73
 go_wp2_with fail
 replace F1 := F1.new 142 #[.int .i64 x.bl.lo, .int .i64 x.bl.hi, .int .i64 x.wh.lo, .int .i64 x.wh.hi, .int .i64 x.we.lo, .int .i64 x.we.hi, .int .i64 x.sn.lo, .int .i64 x.sn.hi] (n := w.heap.size) (by simp)
 replace F1 := F1.new 84 #[.int .i64 x.bl.lo, .int .i64 x.bl.hi, .int .i64 x.wh.lo, .int .i64 x.wh.hi, .int .i64 x.we.lo, .int .i64 x.we.hi, .int .i64 x.sn.lo, .int .i64 x.sn.hi] (n := (w.heap.size + 1)) (by simp)
 have kb4 := F1.bx8 0 rfl
 go_wp2_with fail
 exact bodyPost_ret (v := .agg #[.int .i64 x.bl.lo, .int .i64 x.bl.hi, .int .i64 x.wh.lo, .int .i64 x.wh.hi, .int .i64 x.we.lo, .int .i64 x.we.hi, .int .i64 x.sn.lo, .int .i64 x.sn.hi]) (by simp [results, Tryz.results73, go_sem, kb4]) rfl (⟨rfl, F1.gb⟩)
set_option maxHeartbeats 2000000 in
theorem checkIce_c (x : Ice) (w : World)  :
  Calls Tryz.prog 86 #[.agg #[.int .i64 x.bl.lo, .int .i64 x.bl.hi, .int .i64 x.wh.lo, .int .i64 x.wh.hi, .int .i64 x.we.lo, .int .i64 x.we.hi, .int .i64 x.sn.lo, .int .i64 x.sn.hi]] w (Ret (.int .i64 (iceErr x)) w) := by
 have F1 : Bun w [] w := Bun.nil _
 go_enter Tryz.func86, Tryz.ntmps86
 go_wp2_with fail
 replace F1 := F1.new 84 #[.int .i64 x.bl.lo, .int .i64 x.bl.hi, .int .i64 x.wh.lo, .int .i64 x.wh.hi, .int .i64 x.we.lo, .int .i64 x.we.hi, .int .i64 x.sn.lo, .int .i64 x.sn.hi] (n := w.heap.size) (by simp)
 refine (layersOf_c x _).mono ?_
 rintro e w5 ⟨rfl, hg3⟩
 have hg3s := hg3.size
 (try simp at hg3s)
 replace F1 := F1.gn hg3
 clear hg3
 go_wp2_with fail
 refine wp_loop_rounds 5 ?_
 rw [rounds_succ]
 have ge7 : ∀ w, (Instr.index 142 (.agg #[.int .i64 x.bl.lo, .int .i64 x.bl.hi, .int .i64 x.wh.lo, .int .i64 x.wh.hi, .int .i64 x.we.lo, .int .i64 x.we.hi, .int .i64 x.sn.lo, .int .i64 x.sn.hi]) (.int .i64 0)).run Tryz.prog w = .ok (.agg #[.int .i64 x.bl.lo, .int .i64 x.bl.hi]) w := fun _ => by kernel_rfl
 go_wp2_with fail
 clear ge7
 replace F1 := F1.new 32 #[.int .i64 x.bl.lo, .int .i64 x.bl.hi] (n := w5.heap.size) (by simp)
 refine (fault_c _ _ _ _ _).mono ?_
 rintro e w11 ⟨rfl, hg9⟩
 have hg9s := hg9.size
 (try simp at hg9s)
 replace F1 := F1.gn hg9
 clear hg9
 by_cases c13 : spanErr x.bl.lo x.bl.hi 0 5000 = 0
 ·
  obtain ⟨c13a, c13b⟩ := bqt c13
  have c13H := lhd c13
  clear c13
  go_wp2_with fail
  rw [rounds_succ]
  have ge14 : ∀ w, (Instr.index 142 (.agg #[.int .i64 x.bl.lo, .int .i64 x.bl.hi, .int .i64 x.wh.lo, .int .i64 x.wh.hi, .int .i64 x.we.lo, .int .i64 x.we.hi, .int .i64 x.sn.lo, .int .i64 x.sn.hi]) (.int .i64 1)).run Tryz.prog w = .ok (.agg #[.int .i64 x.wh.lo, .int .i64 x.wh.hi]) w := fun _ => by kernel_rfl
  go_wp2_with fail
  clear ge14
  replace F1 := F1.new 32 #[.int .i64 x.wh.lo, .int .i64 x.wh.hi] (n := w11.heap.size) (by simp)
  refine (fault_c _ _ _ _ _).mono ?_
  rintro e w18 ⟨rfl, hg16⟩
  have hg16s := hg16.size
  (try simp at hg16s)
  replace F1 := F1.gn hg16
  clear hg16
  by_cases c20 : spanErr x.wh.lo x.wh.hi 0 5000 = 0
  ·
   obtain ⟨c20a, c20b⟩ := bqt c20
   have c20H := lhd c20
   clear c20
   go_wp2_with fail
   rw [rounds_succ]
   have ge21 : ∀ w, (Instr.index 142 (.agg #[.int .i64 x.bl.lo, .int .i64 x.bl.hi, .int .i64 x.wh.lo, .int .i64 x.wh.hi, .int .i64 x.we.lo, .int .i64 x.we.hi, .int .i64 x.sn.lo, .int .i64 x.sn.hi]) (.int .i64 2)).run Tryz.prog w = .ok (.agg #[.int .i64 x.we.lo, .int .i64 x.we.hi]) w := fun _ => by kernel_rfl
   go_wp2_with fail
   clear ge21
   replace F1 := F1.new 32 #[.int .i64 x.we.lo, .int .i64 x.we.hi] (n := w18.heap.size) (by simp)
   refine (fault_c _ _ _ _ _).mono ?_
   rintro e w25 ⟨rfl, hg23⟩
   have hg23s := hg23.size
   (try simp at hg23s)
   replace F1 := F1.gn hg23
   clear hg23
   by_cases c27 : spanErr x.we.lo x.we.hi 0 5000 = 0
   ·
    obtain ⟨c27a, c27b⟩ := bqt c27
    have c27H := lhd c27
    clear c27
    go_wp2_with fail
    rw [rounds_succ]
    have ge28 : ∀ w, (Instr.index 142 (.agg #[.int .i64 x.bl.lo, .int .i64 x.bl.hi, .int .i64 x.wh.lo, .int .i64 x.wh.hi, .int .i64 x.we.lo, .int .i64 x.we.hi, .int .i64 x.sn.lo, .int .i64 x.sn.hi]) (.int .i64 3)).run Tryz.prog w = .ok (.agg #[.int .i64 x.sn.lo, .int .i64 x.sn.hi]) w := fun _ => by kernel_rfl
    go_wp2_with fail
    clear ge28
    replace F1 := F1.new 32 #[.int .i64 x.sn.lo, .int .i64 x.sn.hi] (n := w25.heap.size) (by simp)
    refine (fault_c _ _ _ _ _).mono ?_
    rintro e w32 ⟨rfl, hg30⟩
    have hg30s := hg30.size
    (try simp at hg30s)
    replace F1 := F1.gn hg30
    clear hg30
    by_cases c34 : spanErr x.sn.lo x.sn.hi 0 5000 = 0
    ·
     obtain ⟨c34a, c34b⟩ := bqt c34
     have c34H := lhd c34
     clear c34
     go_wp2_with fail
     rw [rounds_succ]
     have Hx35 := lhd (show (iceErr x) = 0 by unfold iceErr; simp [c13H.out, c20H.out, c27H.out, c34H.out])
     go_wp2_with fail
     go_ret
     exact ⟨by rw [Hx35.out] <;> rfl, F1.gb⟩
    obtain ⟨c34a, c34b⟩ := bqf c34
    have c34H := lhd c34
    clear c34
    have Hx36 := lhd (show (iceErr x) = spanErr x.sn.lo x.sn.hi 0 5000 by unfold iceErr; simp [c13H.out, c20H.out, c27H.out, c34H.out])
    go_wp2_with fail
    go_ret
    exact ⟨by rw [Hx36.out] <;> rfl, F1.gb⟩
   obtain ⟨c27a, c27b⟩ := bqf c27
   have c27H := lhd c27
   clear c27
   have Hx37 := lhd (show (iceErr x) = spanErr x.we.lo x.we.hi 0 5000 by unfold iceErr; simp [c13H.out, c20H.out, c27H.out])
   go_wp2_with fail
   go_ret
   exact ⟨by rw [Hx37.out] <;> rfl, F1.gb⟩
  obtain ⟨c20a, c20b⟩ := bqf c20
  have c20H := lhd c20
  clear c20
  have Hx38 := lhd (show (iceErr x) = spanErr x.wh.lo x.wh.hi 0 5000 by unfold iceErr; simp [c13H.out, c20H.out])
  go_wp2_with fail
  go_ret
  exact ⟨by rw [Hx38.out] <;> rfl, F1.gb⟩
 obtain ⟨c13a, c13b⟩ := bqf c13
 have c13H := lhd c13
 clear c13
 have Hx39 := lhd (show (iceErr x) = spanErr x.bl.lo x.bl.hi 0 5000 by unfold iceErr; simp [c13H.out])
 go_wp2_with fail
 go_ret
 exact ⟨by rw [Hx39.out] <;> rfl, F1.gb⟩
set_option maxHeartbeats 4000000 in
theorem covers_c (lo hi : Nat) (v : Value) (l : List Cov) (w : World) (hl : Sl covEnc 3 lo hi w v l) (h2 : hi <= w.heap.size) :
  Calls Tryz.prog 104 #[v] w (Ret (.int .i64 (covsE l)) w) := by
 have F1 : Bun w [] w := Bun.nil _
 have hm_cs := hl.len
 unfold maxLen at hm_cs
 obtain ⟨a, c, rfl⟩ := hl.any
 replace F1 := F1.sl0 hl h2 rfl
 clear hl
 go_enter Tryz.func104, Tryz.ntmps104
 by_cases c3 : (l.length : Int) = 0
 ·
  obtain ⟨c3a, c3b⟩ := bqt c3
  have c3H := lhd c3
  clear c3
  have Hx4 := lhd (show (covsE l) = 6 by unfold covsE; rw [if_pos (by have := c3H.out; omega)])
  go_wp2_with fail
  go_ret
  exact ⟨by rw [Hx4.out] <;> rfl, F1.gb⟩
 obtain ⟨c3a, c3b⟩ := bqf c3
 have c3H := lhd c3
 clear c3
 by_cases c5 : 12 < (l.length : Int)
 ·
  have c5H := lhd c5
  have Hx6 := lhd (show (covsE l) = 8 by unfold covsE; rw [if_neg (by have := c3H.out; omega), if_pos (by omega)])
  go_wp2_with fail
  go_ret
  exact ⟨by rw [Hx6.out] <;> rfl, F1.gb⟩
 have c5H := lhd c5
 have c5a := dec_f c5
 go_wp2_with fail
 have H0 : Hid (covsE l = covErr none l) := lhd (by unfold covsE; rw [if_neg (by have := c3H.out; omega), if_neg (by omega)])
 obtain ⟨HI7_, HI70⟩ : ∃ I : RelT, I = (fun t ds wr => ∃ (k : Nat), t 0 = .slice a l.length c /\ t 14 = .slice a l.length c /\ t 15 = .int .i64 (l.length : Int) /\ t 16 = .int .i64 (k : Int) /\ k <= l.length /\ covsE l = covErr (prevC l k) (l.drop k) /\ ds = [] /\ w.heap.size <= wr.heap.size /\ Bun w [rsl covEnc 3 lo hi (.slice a l.length c) l] wr) := ⟨_, rfl⟩
 have HI7 := lhd HI70
 clear HI70
 refine wp_loopS 88 rfl HI7_ (fun t wr => l.length - (intOf (t 16)).toNat) ?atStart2 ?round2
 case round2 =>
  intro t ds wr hHid
  rw [HI7.out] at hHid
  obtain ⟨k, e0, e14, e15, e16, hrel⟩ := hHid
  have e : ((List.range 88).map t).toArray = #[t 0, t 1, t 2, t 3, t 4, t 5, t 6, t 7, t 8, t 9, t 10, t 11, t 12, t 13, t 14, t 15, t 16, t 17, t 18, t 19, t 20, t 21, t 22, t 23, t 24, t 25, t 26, t 27, t 28, t 29, t 30, t 31, t 32, t 33, t 34, t 35, t 36, t 37, t 38, t 39, t 40, t 41, t 42, t 43, t 44, t 45, t 46, t 47, t 48, t 49, t 50, t 51, t 52, t 53, t 54, t 55, t 56, t 57, t 58, t 59, t 60, t 61, t 62, t 63, t 64, t 65, t 66, t 67, t 68, t 69, t 70, t 71, t 72, t 73, t 74, t 75, t 76, t 77, t 78, t 79, t 80, t 81, t 82, t 83, t 84, t 85, t 86, t 87] := rfl
  (try dsimp only at e)
  rw [e0, e14, e15, e16] at e
  rw [e]
  simp only [e16]
  clear e e0 e14 e15 e16
  obtain ⟨hk, hR, rfl, hs9, hF8⟩ := hrel
  clear F1
  obtain ⟨w10, rfl⟩ : ∃ x_ : World, x_ = wr := ⟨_, rfl⟩
  have HR := lhd hR
  clear hR
  by_cases c11 : (k : Int) < (l.length : Int)
  ·
   have c11H := lhd c11
   obtain ⟨x12, o13, e_⟩ := Sl.addr (hF8.s 0 rfl) (by omega)
   subst e_
   obtain ⟨z, hz14_⟩ : ∃ z_, l[k]? = some z_ := ⟨_, List.getElem?_eq_getElem (by omega)⟩
   have hz14 := lhd hz14_
   clear hz14_
   have HZ : Hid (covsE l = covErr (prevC l k) (z :: l.drop (k + 1))) := lhd (by rw [HR.out, drop_cons hz14.out])
   by_cases c15 : z.dp < 0
   ·
    have c15H := lhd c15
    have Hx16 := lhd (show (covsE l) = 2 by rw [HZ.out, covErr]; simp [deepB, moreB, prevC, hz14.out, c15H.out] <;> (repeat' split) <;> first | rfl | (intros; exfalso; omega))
    have ge17 : World.cell? _ ⟨x12, o13 + k * 3, none⟩ = some (.int .i64 z.dp) := (Sl.cells (hF8.at 0 rfl) hz14.out 0 _ rfl)
    have gl18 := cell_lt ge17
    have ge19 : World.cell? _ ⟨x12, o13 + k * 3 + 1, none⟩ = some (.int .i64 z.pt.lo) := (Sl.cells (hF8.at 0 rfl) hz14.out 1 _ rfl)
    have ge20 : World.cell? _ ⟨x12, o13 + k * 3 + 2, none⟩ = some (.int .i64 z.pt.hi) := (Sl.cells (hF8.at 0 rfl) hz14.out 2 _ rfl)
    go_wp2_with fail
    clear ge17 gl18 ge19 ge20
    have F21 := hF8.new 75 #[.int .i64 z.dp, .int .i64 z.pt.lo, .int .i64 z.pt.hi] (n := w10.heap.size) (by simp)
    clear hF8
    go_ret
    exact ⟨by rw [Hx16.out] <;> rfl, F21.gb⟩
   have c15H := lhd c15
   have c15a := dec_f c15
   by_cases c22 : 5000 < z.dp
   ·
    have c22H := lhd c22
    have Hx23 := lhd (show (covsE l) = 2 by rw [HZ.out, covErr]; simp [deepB, moreB, prevC, hz14.out, c15H.out, c22H.out] <;> (repeat' split) <;> first | rfl | (intros; exfalso; omega))
    have ge24 : World.cell? _ ⟨x12, o13 + k * 3, none⟩ = some (.int .i64 z.dp) := (Sl.cells (hF8.at 0 rfl) hz14.out 0 _ rfl)
    have gl25 := cell_lt ge24
    have ge26 : World.cell? _ ⟨x12, o13 + k * 3 + 1, none⟩ = some (.int .i64 z.pt.lo) := (Sl.cells (hF8.at 0 rfl) hz14.out 1 _ rfl)
    have ge27 : World.cell? _ ⟨x12, o13 + k * 3 + 2, none⟩ = some (.int .i64 z.pt.hi) := (Sl.cells (hF8.at 0 rfl) hz14.out 2 _ rfl)
    go_wp2_with fail
    clear ge24 gl25 ge26 ge27
    have F28 := hF8.new 75 #[.int .i64 z.dp, .int .i64 z.pt.lo, .int .i64 z.pt.hi] (n := w10.heap.size) (by simp)
    clear hF8
    go_ret
    exact ⟨by rw [Hx23.out] <;> rfl, F28.gb⟩
   have c22H := lhd c22
   have c22a := dec_f c22
   by_cases c29 : (k : Int) = 0
   ·
    obtain ⟨c29a, c29b⟩ := bqt c29
    have c29H := lhd c29
    clear c29
    have hk0 : decide (0 < (k : Int)) = false := by have := c29H.out; simp; omega
    have hkz : k = 0 := by have := c29H.out; omega
    have HKZ := lhd hkz
    have hk0n : decide (0 < k) = false := by simp [hkz]
    clear hkz
    by_cases c30 : z.dp = 0
    ·
     obtain ⟨c30a, c30b⟩ := bqt c30
     have c30H := lhd c30
     clear c30
     have ge31 : World.cell? _ ⟨x12, o13 + k * 3, none⟩ = some (.int .i64 z.dp) := (Sl.cells (hF8.at 0 rfl) hz14.out 0 _ rfl)
     have gl32 := cell_lt ge31
     have ge33 : World.cell? _ ⟨x12, o13 + k * 3 + 1, none⟩ = some (.int .i64 z.pt.lo) := (Sl.cells (hF8.at 0 rfl) hz14.out 1 _ rfl)
     have ge34 : World.cell? _ ⟨x12, o13 + k * 3 + 2, none⟩ = some (.int .i64 z.pt.hi) := (Sl.cells (hF8.at 0 rfl) hz14.out 2 _ rfl)
     go_wp2_with fail
     clear ge31 gl32 ge33 ge34
     have F35 := hF8.new 75 #[.int .i64 z.dp, .int .i64 z.pt.lo, .int .i64 z.pt.hi] (n := w10.heap.size) (by simp)
     clear hF8
     have b36 := F35.bx3 0 rfl
     go_quiet (fail)
     clear b36
     replace F35 := F35.drewN nq
     have Fn_ := F35
     (try dsimp only [lpF, lpG] at Fn_)
     obtain ⟨w38, hx39, F41, hxs40⟩ := Fn_.name
     (try simp at hxs40)
     rw [hx39]
     clear hx39 F35 Fn_
     have b42 := F41.bx3 0 rfl
     go_wp2_with fail
     clear b42
     refine (fault_c _ _ _ _ _).mono ?_
     rintro e w45 ⟨rfl, hg43⟩
     have hg43s := hg43.size
     (try simp at hg43s)
     replace F41 := F41.gn hg43
     clear hg43
     by_cases c47 : spanErr z.pt.lo z.pt.hi 0 1000000 = 0
     ·
      obtain ⟨c47a, c47b⟩ := bqt c47
      have c47H := lhd c47
      clear c47
      go_wp2_with fail
      go_quiet (fail)
      replace F41 := F41.drewN nq
      have Fn_ := F41
      (try dsimp only [lpF, lpG] at Fn_)
      obtain ⟨w49, hx50, F52, hxs51⟩ := Fn_.name
      (try simp at hxs51)
      rw [hx50]
      clear hx50 F41 Fn_
      go_wp2_with fail
      have F53 : Bun w [rsl covEnc 3 lo hi (.slice (some ⟨x12, o13, none⟩) l.length c) l] _ := F52.pick [1] (by decide) rfl
      clear F52
      (first | refine ⟨rfl, ?_, ?_⟩ | refine ⟨?_, ?_⟩)
      · rw [HI7.out]; exact ⟨k + 1, rfl, rfl, rfl, (by show Value.int .i64 ((k : Int) + 1) = _; simp), (by omega), (by rw [HZ.out, covErr, prevC_succ, hz14.out]; simp [deepB, moreB, prevC, hz14.out, HKZ.out, c15H.out, c22H.out, c30H.out, c47H.out] <;> (repeat' split) <;> first | rfl | (intros; exfalso; omega)), (by first | rfl | simp), (by first | omega | (simp; done) | (simp; omega)), F53⟩
      · simp [slot, intOf]; omega
     obtain ⟨c47a, c47b⟩ := bqf c47
     have c47H := lhd c47
     clear c47
     have Hx54 := lhd (show (covsE l) = spanErr z.pt.lo z.pt.hi 0 1000000 by rw [HZ.out, covErr]; simp [deepB, moreB, prevC, hz14.out, HKZ.out, c15H.out, c22H.out, c30H.out, c47H.out] <;> (repeat' split) <;> first | rfl | (intros; exfalso; omega))
     go_wp2_with fail
     go_ret
     exact ⟨by rw [Hx54.out] <;> rfl, F41.gb⟩
    obtain ⟨c30a, c30b⟩ := bqf c30
    have c30H := lhd c30
    clear c30
    have ge55 : World.cell? _ ⟨x12, o13 + k * 3, none⟩ = some (.int .i64 z.dp) := (Sl.cells (hF8.at 0 rfl) hz14.out 0 _ rfl)
    have gl56 := cell_lt ge55
    have ge57 : World.cell? _ ⟨x12, o13 + k * 3 + 1, none⟩ = some (.int .i64 z.pt.lo) := (Sl.cells (hF8.at 0 rfl) hz14.out 1 _ rfl)
    have ge58 : World.cell? _ ⟨x12, o13 + k * 3 + 2, none⟩ = some (.int .i64 z.pt.hi) := (Sl.cells (hF8.at 0 rfl) hz14.out 2 _ rfl)
    go_wp2_with fail
    clear ge55 gl56 ge57 ge58
    have F59 := hF8.new 75 #[.int .i64 z.dp, .int .i64 z.pt.lo, .int .i64 z.pt.hi] (n := w10.heap.size) (by simp)
    clear hF8
    have b60 := F59.bx3 0 rfl
    go_quiet (fail)
    clear b60
    replace F59 := F59.drewN nq
    have Fn_ := F59
    (try dsimp only [lpF, lpG] at Fn_)
    obtain ⟨w62, hx63, F65, hxs64⟩ := Fn_.name
    (try simp at hxs64)
    rw [hx63]
    clear hx63 F59 Fn_
    have Hx66 := lhd (show (covsE l) = 11 by rw [HZ.out, covErr]; simp [deepB, moreB, prevC, hz14.out, HKZ.out, c15H.out, c22H.out, c30H.out] <;> (repeat' split) <;> first | rfl | (intros; exfalso; omega))
    go_wp2_with fail
    go_ret
    exact ⟨by rw [Hx66.out] <;> rfl, F65.gb⟩
   obtain ⟨c29a, c29b⟩ := bqf c29
   have c29H := lhd c29
   clear c29
   have hk1 : (1 : Int) <= (k : Int) := by have := c29H.out; omega
   have hk2 : (0 : Int) <= (k : Int) - 1 := by omega
   have hk3 : (k : Int) - 1 < (l.length : Int) := by omega
   have hk4 : ((k : Int) - 1).toNat = k - 1 := by omega
   have hk5 : IntKind.i64.wrap ((k : Int) - 1) = (k : Int) - 1 := IntWalk.i64_in _ (by omega)
   have hk0 : decide (0 < (k : Int)) = true := by simp; omega
   have hk6 : 0 < k := by omega
   have hk7 : decide (0 < k) = true := by simpa using hk6
   have hkne : k ≠ 0 := by omega
   have HKN := lhd hkne
   clear hkne
   obtain ⟨q, hz67_⟩ : ∃ z_, l[k - 1]? = some z_ := ⟨_, List.getElem?_eq_getElem (by omega)⟩
   have hz67 := lhd hz67_
   clear hz67_
   have ge69 : World.cell? _ ⟨x12, o13 + k * 3, none⟩ = some (.int .i64 z.dp) := (Sl.cells (hF8.at 0 rfl) hz14.out 0 _ rfl)
   have gl70 := cell_lt ge69
   have ge71 : World.cell? _ ⟨x12, o13 + k * 3 + 1, none⟩ = some (.int .i64 z.pt.lo) := (Sl.cells (hF8.at 0 rfl) hz14.out 1 _ rfl)
   have ge72 : World.cell? _ ⟨x12, o13 + k * 3 + 2, none⟩ = some (.int .i64 z.pt.hi) := (Sl.cells (hF8.at 0 rfl) hz14.out 2 _ rfl)
   go_wp2_with fail
   clear ge69 gl70 ge71 ge72
   have F73 := hF8.new 75 #[.int .i64 z.dp, .int .i64 z.pt.lo, .int .i64 z.pt.hi] (n := w10.heap.size) (by simp)
   clear hF8
   have b75 := F73.bx3 0 rfl
   have ge76 : World.cell? _ ⟨x12, o13 + (k - 1) * 3, none⟩ = some (.int .i64 q.dp) := (Sl.cells (F73.at 1 rfl) hz67.out 0 _ rfl)
   have hw74 : IntKind.i64.wrap ((k : Int) - 1) = (k : Int) - 1 := IntWalk.i64_in _ (by omega)
   go_quiet (fail)
   clear b75 ge76 hw74
   replace F73 := F73.drewN nq
   have Fn_ := F73
   (try dsimp only [lpF, lpG] at Fn_)
   obtain ⟨w78, hx79, F81, hxs80⟩ := Fn_.name
   (try simp at hxs80)
   rw [hx79]
   clear hx79 F73 Fn_
   by_cases c82 : z.dp <= q.dp
   ·
    have c82H := lhd c82
    have Hx83 := lhd (show (covsE l) = 11 by rw [HZ.out, covErr]; simp [deepB, moreB, prevC, hz14.out, HKN.out, hz67.out, c15H.out, c22H.out, c82H.out] <;> (repeat' split) <;> first | rfl | (intros; exfalso; omega))
    go_wp2_with fail
    go_ret
    exact ⟨by rw [Hx83.out] <;> rfl, F81.gb⟩
   have c82H := lhd c82
   have c82a := dec_f c82
   have b84 := F81.bx3 0 rfl
   go_wp2_with fail
   clear b84
   refine (fault_c _ _ _ _ _).mono ?_
   rintro e w87 ⟨rfl, hg85⟩
   have hg85s := hg85.size
   (try simp at hg85s)
   replace F81 := F81.gn hg85
   clear hg85
   by_cases c89 : spanErr z.pt.lo z.pt.hi 0 1000000 = 0
   ·
    obtain ⟨c89a, c89b⟩ := bqt c89
    have c89H := lhd c89
    clear c89
    by_cases c91 : q.pt.lo < z.pt.lo
    ·
     have c91H := lhd c91
     go_wp2_with fail
     have b94 := F81.bx3 0 rfl
     have ge95 : World.cell? _ ⟨x12, o13 + (k - 1) * 3 + 1, none⟩ = some (.int .i64 q.pt.lo) := (Sl.cells (F81.at 1 rfl) hz67.out 1 _ rfl)
     have hw93 : IntKind.i64.wrap ((k : Int) - 1) = (k : Int) - 1 := IntWalk.i64_in _ (by omega)
     go_quiet (fail)
     clear b94 ge95 hw93
     replace F81 := F81.drewN nq
     have Fn_ := F81
     (try dsimp only [lpF, lpG] at Fn_)
     obtain ⟨w97, hx98, F100, hxs99⟩ := Fn_.name
     (try simp at hxs99)
     rw [hx98]
     clear hx98 F81 Fn_
     have Hx101 := lhd (show (covsE l) = 11 by rw [HZ.out, covErr]; simp [deepB, moreB, prevC, hz14.out, HKN.out, hz67.out, c15H.out, c22H.out, c82H.out, c89H.out, c91H.out] <;> (repeat' split) <;> first | rfl | (intros; exfalso; omega))
     go_wp2_with fail
     go_ret
     exact ⟨by rw [Hx101.out] <;> rfl, F100.gb⟩
    have c91H := lhd c91
    have c91a := dec_f c91
    go_wp2_with fail
    have b106 := F81.bx3 0 rfl
    have ge107 : World.cell? _ ⟨x12, o13 + (k - 1) * 3 + 1, none⟩ = some (.int .i64 q.pt.lo) := (Sl.cells (F81.at 1 rfl) hz67.out 1 _ rfl)
    have ge108 : World.cell? _ ⟨x12, o13 + (k - 1) * 3 + 1 + 1, none⟩ = some (.int .i64 q.pt.hi) := (Sl.cells (F81.at 1 rfl) hz67.out 2 _ rfl)
    have hw104 : IntKind.i64.wrap ((k : Int) - 1) = (k : Int) - 1 := IntWalk.i64_in _ (by omega)
    have hw105 : IntKind.i64.wrap ((k : Int) - 1) = (k : Int) - 1 := IntWalk.i64_in _ (by omega)
    go_quiet (fail)
    clear b106 ge107 ge108 hw104 hw105
    replace F81 := F81.drewN nq
    have Fn_ := F81
    (try dsimp only [lpF, lpG] at Fn_)
    obtain ⟨w110, hx111, F113, hxs112⟩ := Fn_.name
    (try simp at hxs112)
    rw [hx111]
    clear hx111 F81 Fn_
    by_cases c114 : q.pt.hi < z.pt.hi
    ·
     have c114H := lhd c114
     have Hx115 := lhd (show (covsE l) = 11 by rw [HZ.out, covErr]; simp [deepB, moreB, prevC, hz14.out, HKN.out, hz67.out, c15H.out, c22H.out, c82H.out, c89H.out, c91H.out, c114H.out] <;> (repeat' split) <;> first | rfl | (intros; exfalso; omega))
     go_wp2_with fail
     go_ret
     exact ⟨by rw [Hx115.out] <;> rfl, F113.gb⟩
    have c114H := lhd c114
    have c114a := dec_f c114
    go_wp2_with fail
    have F116 : Bun w [rsl covEnc 3 lo hi (.slice (some ⟨x12, o13, none⟩) l.length c) l] _ := F113.pick [1] (by decide) rfl
    clear F113
    (first | refine ⟨rfl, ?_, ?_⟩ | refine ⟨?_, ?_⟩)
    · rw [HI7.out]; exact ⟨k + 1, rfl, rfl, rfl, (by show Value.int .i64 ((k : Int) + 1) = _; simp), (by omega), (by rw [HZ.out, covErr, prevC_succ, hz14.out]; simp [deepB, moreB, prevC, hz14.out, HKN.out, hz67.out, c15H.out, c22H.out, c82H.out, c89H.out, c91H.out, c114H.out] <;> (repeat' split) <;> first | rfl | (intros; exfalso; omega)), (by first | rfl | simp), (by first | omega | (simp; done) | (simp; omega)), F116⟩
    · simp [slot, intOf]; omega
   obtain ⟨c89a, c89b⟩ := bqf c89
   have c89H := lhd c89
   clear c89
   have Hx117 := lhd (show (covsE l) = spanErr z.pt.lo z.pt.hi 0 1000000 by rw [HZ.out, covErr]; simp [deepB, moreB, prevC, hz14.out, HKN.out, hz67.out, c15H.out, c22H.out, c82H.out, c89H.out] <;> (repeat' split) <;> first | rfl | (intros; exfalso; omega))
   go_wp2_with fail
   go_ret
   exact ⟨by rw [Hx117.out] <;> rfl, F81.gb⟩
  have c11H := lhd c11
  have c11a := dec_f c11
  have HE : Hid (covsE l = 0) := lhd (by rw [HR.out, List.drop_eq_nil_of_le (by omega)]; simp [covErr])
  have Hx118 := lhd (show (covsE l) = 0 by exact HE.out)
  go_wp2_with fail
  go_ret
  exact ⟨by rw [Hx118.out] <;> rfl, hF8.gb⟩
 case atStart2 =>
  rw [HI7.out]
  exact ⟨0, rfl, rfl, rfl, rfl, Nat.zero_le _, H0.out, rfl, (by first | exact Nat.le_refl _ | omega | (simp; done) | (simp; omega)), F1⟩
set_option maxHeartbeats 4000000 in
theorem checkDays_c (lo hi : Nat) (v : Value) (l : List Wea) (w : World) (hl : Sl weaEnc 6 lo hi w v l) (h2 : hi <= w.heap.size) :
  Calls Tryz.prog 68 #[v] w (Ret (.int .i64 (daysE l)) w) := by
 have F1 : Bun w [] w := Bun.nil _
 have hm_ds := hl.len
 unfold maxLen at hm_ds
 obtain ⟨a, c, rfl⟩ := hl.any
 replace F1 := F1.sl0 hl h2 rfl
 clear hl
 go_enter Tryz.func68, Tryz.ntmps68
 by_cases c3 : 400 < (l.length : Int)
 ·
  have c3H := lhd c3
  have Hx4 := lhd (show (daysE l) = 8 by unfold daysE; rw [if_pos (by omega)])
  go_wp2_with fail
  go_ret
  exact ⟨by rw [Hx4.out] <;> rfl, F1.gb⟩
 have c3H := lhd c3
 have c3a := dec_f c3
 go_wp2_with fail
 have H0 : Hid (daysE l = daysErr l) := lhd (by unfold daysE; rw [if_neg (by omega)])
 obtain ⟨HI5_, HI50⟩ : ∃ I : RelT, I = (fun t ds wr => ∃ (k : Nat), t 10 = .slice a l.length c /\ t 11 = .int .i64 (l.length : Int) /\ t 12 = .int .i64 (k : Int) /\ k <= l.length /\ daysE l = daysErr (l.drop k) /\ ds = [] /\ w.heap.size <= wr.heap.size /\ Bun w [rsl weaEnc 6 lo hi (.slice a l.length c) l] wr) := ⟨_, rfl⟩
 have HI5 := lhd HI50
 clear HI50
 refine wp_loopS 37 rfl HI5_ (fun t wr => l.length - (intOf (t 12)).toNat) ?atStart3 ?round3
 case round3 =>
  intro t ds wr hHid
  rw [HI5.out] at hHid
  obtain ⟨k, e10, e11, e12, hrel⟩ := hHid
  have e : ((List.range 37).map t).toArray = #[t 0, t 1, t 2, t 3, t 4, t 5, t 6, t 7, t 8, t 9, t 10, t 11, t 12, t 13, t 14, t 15, t 16, t 17, t 18, t 19, t 20, t 21, t 22, t 23, t 24, t 25, t 26, t 27, t 28, t 29, t 30, t 31, t 32, t 33, t 34, t 35, t 36] := rfl
  (try dsimp only at e)
  rw [e10, e11, e12] at e
  rw [e]
  simp only [e12]
  clear e e10 e11 e12
  obtain ⟨hk, hR, rfl, hs7, hF6⟩ := hrel
  clear F1
  obtain ⟨w8, rfl⟩ : ∃ x_ : World, x_ = wr := ⟨_, rfl⟩
  have HR := lhd hR
  clear hR
  by_cases c9 : (k : Int) < (l.length : Int)
  ·
   have c9H := lhd c9
   obtain ⟨x10, o11, e_⟩ := Sl.addr (hF6.s 0 rfl) (by omega)
   subst e_
   obtain ⟨z, hz12_⟩ : ∃ z_, l[k]? = some z_ := ⟨_, List.getElem?_eq_getElem (by omega)⟩
   have hz12 := lhd hz12_
   clear hz12_
   have HZ : Hid (daysE l = daysErr (z :: l.drop (k + 1))) := lhd (by rw [HR.out, drop_cons hz12.out])
   have ge13 : World.cell? _ ⟨x10, o11 + k * 6, none⟩ = some (.int .i64 z.cold.lo) := (Sl.cells (hF6.at 0 rfl) hz12.out 0 _ rfl)
   have gl14 := cell_lt ge13
   have ge15 : World.cell? _ ⟨x10, o11 + k * 6 + 1, none⟩ = some (.int .i64 z.cold.hi) := (Sl.cells (hF6.at 0 rfl) hz12.out 1 _ rfl)
   have ge16 : World.cell? _ ⟨x10, o11 + k * 6 + 2, none⟩ = some (.int .i64 z.fall.lo) := (Sl.cells (hF6.at 0 rfl) hz12.out 2 _ rfl)
   have ge17 : World.cell? _ ⟨x10, o11 + k * 6 + 3, none⟩ = some (.int .i64 z.fall.hi) := (Sl.cells (hF6.at 0 rfl) hz12.out 3 _ rfl)
   have ge18 : World.cell? _ ⟨x10, o11 + k * 6 + 4, none⟩ = some (.int .i64 z.water) := (Sl.cells (hF6.at 0 rfl) hz12.out 4 _ rfl)
   have ge19 : World.cell? _ ⟨x10, o11 + k * 6 + 5, none⟩ = some (.bool z.clear) := (Sl.cells (hF6.at 0 rfl) hz12.out 5 _ rfl)
   go_wp2_with fail
   clear ge13 gl14 ge15 ge16 ge17 ge18 ge19
   have F20 := hF6.new 61 #[.int .i64 z.cold.lo, .int .i64 z.cold.hi, .int .i64 z.fall.lo, .int .i64 z.fall.hi, .int .i64 z.water, .bool z.clear] (n := w8.heap.size) (by simp)
   clear hF6
   refine (fault_c _ _ _ _ _).mono ?_
   rintro e w23 ⟨rfl, hg21⟩
   have hg21s := hg21.size
   (try simp at hg21s)
   replace F20 := F20.gn hg21
   clear hg21
   by_cases c25 : spanErr z.cold.lo z.cold.hi (-1000) 1000 = 0
   ·
    obtain ⟨c25a, c25b⟩ := bqt c25
    have c25H := lhd c25
    clear c25
    have b26 := F20.bx6 0 rfl
    go_wp2_with fail
    clear b26
    refine (fault_c _ _ _ _ _).mono ?_
    rintro e w29 ⟨rfl, hg27⟩
    have hg27s := hg27.size
    (try simp at hg27s)
    replace F20 := F20.gn hg27
    clear hg27
    by_cases c31 : spanErr z.fall.lo z.fall.hi 0 1000 = 0
    ·
     obtain ⟨c31a, c31b⟩ := bqt c31
     have c31H := lhd c31
     clear c31
     by_cases c32 : z.water < 0
     ·
      have c32H := lhd c32
      have Hx33 := lhd (show (daysE l) = 2 by rw [HZ.out, daysErr]; simp [weaErr, c25H.out, c31H.out, c32H.out] <;> (repeat' split) <;> first | rfl | (intros; exfalso; omega) | omega)
      have b34 := F20.bx6 0 rfl
      go_wp2_with fail
      clear b34
      go_ret
      exact ⟨by rw [Hx33.out] <;> rfl, F20.gb⟩
     have c32H := lhd c32
     have c32a := dec_f c32
     by_cases c35 : 200 < z.water
     ·
      have c35H := lhd c35
      have Hx36 := lhd (show (daysE l) = 2 by rw [HZ.out, daysErr]; simp [weaErr, c25H.out, c31H.out, c32H.out, c35H.out] <;> (repeat' split) <;> first | rfl | (intros; exfalso; omega) | omega)
      have b37 := F20.bx6 0 rfl
      go_wp2_with fail
      clear b37
      go_ret
      exact ⟨by rw [Hx36.out] <;> rfl, F20.gb⟩
     have c35H := lhd c35
     have c35a := dec_f c35
     have b38 := F20.bx6 0 rfl
     go_wp2_with fail
     clear b38
     have F39 : Bun w [rsl weaEnc 6 lo hi (.slice (some ⟨x10, o11, none⟩) l.length c) l] _ := F20.pick [1] (by decide) rfl
     clear F20
     (first | refine ⟨rfl, ?_, ?_⟩ | refine ⟨?_, ?_⟩)
     · rw [HI5.out]; exact ⟨k + 1, rfl, rfl, (by show Value.int .i64 ((k : Int) + 1) = _; simp), (by omega), (by rw [HZ.out, daysErr]; simp [weaErr, c25H.out, c31H.out, c32H.out, c35H.out] <;> (repeat' split) <;> first | rfl | (intros; exfalso; omega) | omega), (by first | rfl | simp), (by first | omega | (simp; done) | (simp; omega)), F39⟩
     · simp [slot, intOf]; omega
    obtain ⟨c31a, c31b⟩ := bqf c31
    have c31H := lhd c31
    clear c31
    have Hx40 := lhd (show (daysE l) = spanErr z.fall.lo z.fall.hi 0 1000 by rw [HZ.out, daysErr]; simp [weaErr, c25H.out, c31H.out] <;> (repeat' split) <;> first | rfl | (intros; exfalso; omega) | omega)
    go_wp2_with fail
    go_ret
    exact ⟨by rw [Hx40.out] <;> rfl, F20.gb⟩
   obtain ⟨c25a, c25b⟩ := bqf c25
   have c25H := lhd c25
   clear c25
   have Hx41 := lhd (show (daysE l) = spanErr z.cold.lo z.cold.hi (-1000) 1000 by rw [HZ.out, daysErr]; simp [weaErr, c25H.out] <;> (repeat' split) <;> first | rfl | (intros; exfalso; omega) | omega)
   go_wp2_with fail
   go_ret
   exact ⟨by rw [Hx41.out] <;> rfl, F20.gb⟩
  have c9H := lhd c9
  have c9a := dec_f c9
  have HE : Hid (daysE l = 0) := lhd (by rw [HR.out, List.drop_eq_nil_of_le (by omega)]; simp [daysErr])
  have Hx42 := lhd (show (daysE l) = 0 by exact HE.out)
  go_wp2_with fail
  go_ret
  exact ⟨by rw [Hx42.out] <;> rfl, hF6.gb⟩
 case atStart3 =>
  rw [HI5.out]
  exact ⟨0, rfl, rfl, rfl, Nat.zero_le _, H0.out, rfl, (by first | exact Nat.le_refl _ | omega | (simp; done) | (simp; omega)), F1⟩
set_option maxHeartbeats 4000000 in
theorem check_c (lo hi : Nat) (v : Value) (l : Fro) (w : World) (hl : Sl covEnc 3 lo hi w v l.cov) (h2 : hi <= w.heap.size) :
  Calls Tryz.prog 85 #[.agg #[.int .i64 l.gr, .int .i64 l.la, v, .int .i64 l.melt.lo, .int .i64 l.melt.hi, .int .i64 l.soak, .int .i64 l.white.lo, .int .i64 l.white.hi]] w (Ret (.int .i64 (froErr l)) w) := by
 have F1 : Bun w [] w := Bun.nil _
 have hm_cs := hl.len
 unfold maxLen at hm_cs
 obtain ⟨a, c, rfl⟩ := hl.any
 replace F1 := F1.sl0 hl h2 rfl
 clear hl
 go_enter Tryz.func85, Tryz.ntmps85
 by_cases c3 : l.gr < 0
 ·
  have c3H := lhd c3
  have Hx4 := lhd (show (froErr l) = 2 by simp [froErr, c3H.out] <;> (repeat' split) <;> first | rfl | (intros; exfalso; omega) | omega)
  go_wp2_with fail
  replace F1 := F1.new 78 #[.int .i64 l.gr, .int .i64 l.la, .slice a l.cov.length c, .int .i64 l.melt.lo, .int .i64 l.melt.hi, .int .i64 l.soak, .int .i64 l.white.lo, .int .i64 l.white.hi] (n := w.heap.size) (by simp)
  go_ret
  exact ⟨by rw [Hx4.out] <;> rfl, F1.gb⟩
 have c3H := lhd c3
 have c3a := dec_f c3
 by_cases c6 : 10000 < l.gr
 ·
  have c6H := lhd c6
  have Hx7 := lhd (show (froErr l) = 2 by simp [froErr, c3H.out, c6H.out] <;> (repeat' split) <;> first | rfl | (intros; exfalso; omega) | omega)
  go_wp2_with fail
  replace F1 := F1.new 78 #[.int .i64 l.gr, .int .i64 l.la, .slice a l.cov.length c, .int .i64 l.melt.lo, .int .i64 l.melt.hi, .int .i64 l.soak, .int .i64 l.white.lo, .int .i64 l.white.hi] (n := w.heap.size) (by simp)
  go_ret
  exact ⟨by rw [Hx7.out] <;> rfl, F1.gb⟩
 have c6H := lhd c6
 have c6a := dec_f c6
 by_cases c9 : l.la < 1
 ·
  have c9H := lhd c9
  have Hx10 := lhd (show (froErr l) = 2 by simp [froErr, c3H.out, c6H.out, c9H.out] <;> (repeat' split) <;> first | rfl | (intros; exfalso; omega) | omega)
  go_wp2_with fail
  replace F1 := F1.new 78 #[.int .i64 l.gr, .int .i64 l.la, .slice a l.cov.length c, .int .i64 l.melt.lo, .int .i64 l.melt.hi, .int .i64 l.soak, .int .i64 l.white.lo, .int .i64 l.white.hi] (n := w.heap.size) (by simp)
  go_ret
  exact ⟨by rw [Hx10.out] <;> rfl, F1.gb⟩
 have c9H := lhd c9
 have c9a := dec_f c9
 by_cases c12 : 1000 < l.la
 ·
  have c12H := lhd c12
  have Hx13 := lhd (show (froErr l) = 2 by simp [froErr, c3H.out, c6H.out, c9H.out, c12H.out] <;> (repeat' split) <;> first | rfl | (intros; exfalso; omega) | omega)
  go_wp2_with fail
  replace F1 := F1.new 78 #[.int .i64 l.gr, .int .i64 l.la, .slice a l.cov.length c, .int .i64 l.melt.lo, .int .i64 l.melt.hi, .int .i64 l.soak, .int .i64 l.white.lo, .int .i64 l.white.hi] (n := w.heap.size) (by simp)
  go_ret
  exact ⟨by rw [Hx13.out] <;> rfl, F1.gb⟩
 have c12H := lhd c12
 have c12a := dec_f c12
 go_wp2_with fail
 replace F1 := F1.new 78 #[.int .i64 l.gr, .int .i64 l.la, .slice a l.cov.length c, .int .i64 l.melt.lo, .int .i64 l.melt.hi, .int .i64 l.soak, .int .i64 l.white.lo, .int .i64 l.white.hi] (n := w.heap.size) (by simp)
 refine (covers_c lo hi _ l.cov _ (F1.s 1 rfl) (Nat.le_trans h2 F1.gb.size)).mono ?_
 rintro e w18 ⟨rfl, hg16⟩
 have hg16s := hg16.size
 (try simp at hg16s)
 replace F1 := F1.gn hg16
 clear hg16
 by_cases c20 : covsE l.cov = 0
 ·
  obtain ⟨c20a, c20b⟩ := bqt c20
  have c20H := lhd c20
  clear c20
  have b21 := F1.bx8 0 rfl
  go_wp2_with fail
  clear b21
  refine (fault_c _ _ _ _ _).mono ?_
  rintro e w24 ⟨rfl, hg22⟩
  have hg22s := hg22.size
  (try simp at hg22s)
  replace F1 := F1.gn hg22
  clear hg22
  by_cases c26 : spanErr l.melt.lo l.melt.hi 0 10000000 = 0
  ·
   obtain ⟨c26a, c26b⟩ := bqt c26
   have c26H := lhd c26
   clear c26
   by_cases c27 : l.soak < 0
   ·
    have c27H := lhd c27
    have Hx28 := lhd (show (froErr l) = 2 by simp [froErr, c3H.out, c6H.out, c9H.out, c12H.out, c20H.out, c26H.out, c27H.out] <;> (repeat' split) <;> first | rfl | (intros; exfalso; omega) | omega)
    have b29 := F1.bx8 0 rfl
    go_wp2_with fail
    clear b29
    go_ret
    exact ⟨by rw [Hx28.out] <;> rfl, F1.gb⟩
   have c27H := lhd c27
   have c27a := dec_f c27
   by_cases c30 : 1000000 < l.soak
   ·
    have c30H := lhd c30
    have Hx31 := lhd (show (froErr l) = 2 by simp [froErr, c3H.out, c6H.out, c9H.out, c12H.out, c20H.out, c26H.out, c27H.out, c30H.out] <;> (repeat' split) <;> first | rfl | (intros; exfalso; omega) | omega)
    have b32 := F1.bx8 0 rfl
    go_wp2_with fail
    clear b32
    go_ret
    exact ⟨by rw [Hx31.out] <;> rfl, F1.gb⟩
   have c30H := lhd c30
   have c30a := dec_f c30
   have b33 := F1.bx8 0 rfl
   go_wp2_with fail
   clear b33
   refine (fault_c _ _ _ _ _).mono ?_
   rintro e w36 ⟨rfl, hg34⟩
   have hg34s := hg34.size
   (try simp at hg34s)
   replace F1 := F1.gn hg34
   clear hg34
   have Hx38 := lhd (show (froErr l) = spanErr l.white.lo l.white.hi 0 1000000 by simp [froErr, c3H.out, c6H.out, c9H.out, c12H.out, c20H.out, c26H.out, c27H.out, c30H.out] <;> (repeat' split) <;> first | rfl | (intros; exfalso; omega) | omega)
   go_wp2_with fail
   go_ret
   exact ⟨by rw [Hx38.out] <;> rfl, F1.gb⟩
  obtain ⟨c26a, c26b⟩ := bqf c26
  have c26H := lhd c26
  clear c26
  have Hx39 := lhd (show (froErr l) = spanErr l.melt.lo l.melt.hi 0 10000000 by simp [froErr, c3H.out, c6H.out, c9H.out, c12H.out, c20H.out, c26H.out] <;> (repeat' split) <;> first | rfl | (intros; exfalso; omega) | omega)
  go_wp2_with fail
  go_ret
  exact ⟨by rw [Hx39.out] <;> rfl, F1.gb⟩
 obtain ⟨c20a, c20b⟩ := bqf c20
 have c20H := lhd c20
 clear c20
 have Hx40 := lhd (show (froErr l) = covsE l.cov by simp [froErr, c3H.out, c6H.out, c9H.out, c12H.out, c20H.out] <;> (repeat' split) <;> first | rfl | (intros; exfalso; omega) | omega)
 go_wp2_with fail
 go_ret
 exact ⟨by rw [Hx40.out] <;> rfl, F1.gb⟩
set_option maxHeartbeats 4000000 in
theorem checkAll_c (lo hi : Nat) (v : Value) (l : Fro) (x : Ice) (lo' hi' : Nat) (v' : Value) (ds : List Wea) (w : World) (hl : Sl covEnc 3 lo hi w v l.cov) (h2 : hi <= w.heap.size) (hd : Sl weaEnc 6 lo' hi' w v' ds) (h3 : hi' <= w.heap.size) :
  Calls Tryz.prog 70 #[.agg #[.int .i64 l.gr, .int .i64 l.la, v, .int .i64 l.melt.lo, .int .i64 l.melt.hi, .int .i64 l.soak, .int .i64 l.white.lo, .int .i64 l.white.hi], .agg #[.int .i64 x.bl.lo, .int .i64 x.bl.hi, .int .i64 x.wh.lo, .int .i64 x.wh.hi, .int .i64 x.we.lo, .int .i64 x.we.hi, .int .i64 x.sn.lo, .int .i64 x.sn.hi], v'] w (Ret (.int .i64 (allE l x ds)) w) := by
 have F1 : Bun w [] w := Bun.nil _
 have hm_cs := hl.len
 unfold maxLen at hm_cs
 obtain ⟨a, c, rfl⟩ := hl.any
 replace F1 := F1.sl0 hl h2 rfl
 clear hl
 have hm_ds := hd.len
 unfold maxLen at hm_ds
 obtain ⟨a', c', rfl⟩ := hd.any
 replace F1 := F1.sl0 hd h3 rfl
 clear hd
 go_enter Tryz.func70, Tryz.ntmps70
 go_wp2_with fail
 replace F1 := F1.new 78 #[.int .i64 l.gr, .int .i64 l.la, .slice a l.cov.length c, .int .i64 l.melt.lo, .int .i64 l.melt.hi, .int .i64 l.soak, .int .i64 l.white.lo, .int .i64 l.white.hi] (n := w.heap.size) (by simp)
 replace F1 := F1.new 84 #[.int .i64 x.bl.lo, .int .i64 x.bl.hi, .int .i64 x.wh.lo, .int .i64 x.wh.hi, .int .i64 x.we.lo, .int .i64 x.we.hi, .int .i64 x.sn.lo, .int .i64 x.sn.hi] (n := (w.heap.size + 1)) (by simp)
 refine (check_c lo hi _ l _ (F1.s 3 rfl) (Nat.le_trans h2 F1.gb.size)).mono ?_
 rintro e w8 ⟨rfl, hg6⟩
 have hg6s := hg6.size
 (try simp at hg6s)
 replace F1 := F1.gn hg6
 clear hg6
 by_cases c10 : froErr l = 0
 ·
  obtain ⟨c10a, c10b⟩ := bqt c10
  have c10H := lhd c10
  clear c10
  have b11 := F1.bx8 0 rfl
  go_wp2_with fail
  clear b11
  refine (checkIce_c _ _).mono ?_
  rintro e w14 ⟨rfl, hg12⟩
  have hg12s := hg12.size
  (try simp at hg12s)
  replace F1 := F1.gn hg12
  clear hg12
  by_cases c16 : iceErr x = 0
  ·
   obtain ⟨c16a, c16b⟩ := bqt c16
   have c16H := lhd c16
   clear c16
   go_wp2_with fail
   refine (checkDays_c lo' hi' _ ds _ (F1.s 2 rfl) (Nat.le_trans h3 F1.gb.size)).mono ?_
   rintro e w19 ⟨rfl, hg17⟩
   have hg17s := hg17.size
   (try simp at hg17s)
   replace F1 := F1.gn hg17
   clear hg17
   have Hx21 := lhd (show (allE l x ds) = daysE ds by simp [allE, c10H.out, c16H.out] <;> (repeat' split) <;> first | rfl | (intros; exfalso; omega) | omega)
   go_wp2_with fail
   go_ret
   exact ⟨by rw [Hx21.out] <;> rfl, F1.gb⟩
  obtain ⟨c16a, c16b⟩ := bqf c16
  have c16H := lhd c16
  clear c16
  have Hx22 := lhd (show (allE l x ds) = iceErr x by simp [allE, c10H.out, c16H.out] <;> (repeat' split) <;> first | rfl | (intros; exfalso; omega) | omega)
  go_wp2_with fail
  go_ret
  exact ⟨by rw [Hx22.out] <;> rfl, F1.gb⟩
 obtain ⟨c10a, c10b⟩ := bqf c10
 have c10H := lhd c10
 clear c10
 have Hx23 := lhd (show (allE l x ds) = froErr l by simp [allE, c10H.out] <;> (repeat' split) <;> first | rfl | (intros; exfalso; omega) | omega)
 go_wp2_with fail
 go_ret
 exact ⟨by rw [Hx23.out] <;> rfl, F1.gb⟩
end Go.Proofs.YtcoldeolmleeiaaGreat
