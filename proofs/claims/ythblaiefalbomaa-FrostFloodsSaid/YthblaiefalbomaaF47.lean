/- frost: Run; what is too big. -/
import Derived.Test.YthblaiefalbomaaF34
import Derived.Test.YthblaiefalbomaaF37
import Derived.Test.YthblaiefalbomaaK1
set_option linter.unusedVariables false
set_option linter.unusedSimpArgs false
set_option linter.unnecessarySimpa false
namespace Go.Proofs.Ythblaiefalbomaa
open Go.RowKit
set_option maxRecDepth 100000

def RunGPost (l : Fro) (x : Ice) (dl : List Wea) (w : World) : Ending → World → Prop := fun e w' => ∃ (a : Option Addr) (c lo hi : Nat), e = .returned (.tuple #[.slice a (runI l x dl).length c, .int .i64 (allE l x dl)]) ∧ (w.heap.size ≤ lo ∧ hi ≤ w'.heap.size) ∧ Sl iceEnc 8 lo hi w' (.slice a (runI l x dl).length c) (runI l x dl) ∧ w.grownBy w' none
theorem run_g (lo hi : Nat) (v : Value) (l : Fro) (x : Ice) (lo2 hi2 : Nat) (vd : Value) (dl : List Wea) (w : World) (hl : Sl covEnc 3 lo hi w v l.cov) (h2 : hi ≤ w.heap.size) (hl2 : Sl weaEnc 6 lo2 hi2 w vd dl) (h22 : hi2 ≤ w.heap.size) :
    Calls Try.prog 27 #[.agg (froC l v), .agg (iceC x), vd] w (RunGPost l x dl w) := by
  refine (run_c lo hi v l x lo2 hi2 vd dl w hl h2 hl2 h22).mono ?_
  rintro e w' ⟨vo, rfl, ho, hg⟩
  obtain ⟨a, c, rfl, hc, hsl⟩ := ho.slC (fun _ => rfl)
  exact ⟨a, c, _, _, rfl, ⟨Nat.le_refl _, Nat.le_refl _⟩, hsl, hg⟩
def bigB (l : Fro) (dl : List Wea) : Bool := decide (30 < l.cov.length) || decide (420 < dl.length)
set_option maxHeartbeats 8000000 in
theorem rrun_g (lo hi : Nat) (v : Value) (l : Fro) (x : Ice) (lo2 hi2 : Nat) (vd : Value) (dl : List Wea) (w : World) (hl : Sl covEnc 3 lo hi w v l.cov) (h2 : hi ≤ w.heap.size) (hl2 : Sl weaEnc 6 lo2 hi2 w vd dl) (h22 : hi2 ≤ w.heap.size) :
    Calls Try.prog 32 #[.agg (froC l v), .agg (iceC x), vd] w (RunGPost l x dl w) := by
  have F1 : Bun w [] w := Bun.nil _
  have hm_cs := hl.len
  unfold maxLen at hm_cs
  obtain ⟨sa, sc, rfl⟩ := hl.any
  have F2 := F1.sl0 hl h2 rfl
  clear F1
  clear hl
  have hm_ds := hl2.len
  unfold maxLen at hm_ds
  obtain ⟨da, dc, rfl⟩ := hl2.any
  have F3 := F2.sl0 hl2 h22 rfl
  clear F2
  clear hl2
  go_enter Try.func32, Try.ntmps32
  go_wp2_with fail
  have F4 := F3.new 29 (froC l (.slice sa l.cov.length sc)) (n := w.heap.size) (by simp)
  clear F3
  have F5 := F4.new 32 (iceC x) (n := (w.heap.size + 1)) (by simp)
  clear F4
  refine (rcheckAll_c lo hi _ l x lo2 hi2 _ dl _ (F5.at 3 rfl : Sl covEnc 3 lo hi _ (.slice sa l.cov.length sc) l.cov) (Nat.le_trans h2 F5.gb.size) (F5.at 2 rfl : Sl weaEnc 6 lo2 hi2 _ (.slice da dl.length dc) dl) (Nat.le_trans h22 F5.gb.size)).mono ?_
  rintro e w8 ⟨rfl, hg6⟩
  have hg6s := hg6.size
  (try simp at hg6s)
  have F9 := F5.gn hg6
  clear F5
  clear hg6
  by_cases c10 : allE l x dl = 0
  · skip
    have c10a : ((allE l x dl) == 0) = true := beq_t c10
    have c10b : ((allE l x dl) != 0) = false := bne_f c10
    have c10H := Lib.hid c10
    clear c10
    have HOK := Lib.hid (allOk c10H.out)
    have hn4 := HOK.out.2.2.2.1
    have b12 := F9.bx8 0 rfl
    have b13 := F9.bx8 1 rfl
    go_wp2_with fail
    clear b12 b13
    refine (rrunL_c lo hi _ l x lo2 hi2 _ dl _ (F9.at 3 rfl : Sl covEnc 3 lo hi _ (.slice sa l.cov.length sc) l.cov) (Nat.le_trans h2 F9.gb.size) (F9.at 2 rfl : Sl weaEnc 6 lo2 hi2 _ (.slice da dl.length dc) dl) (Nat.le_trans h22 F9.gb.size) HOK.out).mono ?_
    rintro e w16 ⟨a_11, c_11, lo_11, hi_11, rfl, hx11, hy11, hsl11, hg14⟩
    have hg14s := hg14.size
    (try simp at hg14s)
    have F17 := F9.add (rsl iceEnc 8 lo_11 hi_11 (.slice a_11 dl.length c_11) (runN l x dl dl.length)) hg14 (hsl11) (fun g e => ⟨Nat.le_trans hx11 e.1, Nat.lt_of_lt_of_le e.2 hy11⟩)
    clear F9
    clear hg14
    go_wp2_with fail
    exact bodyPost_ret (v := .tuple #[.slice a_11 dl.length c_11, .int .i64 0]) (by simp [results, Try.results32, go_sem]) rfl (⟨a_11, c_11, lo_11, hi_11, (by rw [runI, if_pos c10H.out, runN_len, c10H.out]), ⟨(by first | omega | (simp at *; omega)), (by first | omega | (simp at *; omega))⟩, (by rw [runI, if_pos c10H.out, runN_len]; exact (F17.at 0 rfl : Sl iceEnc 8 lo_11 hi_11 _ (.slice a_11 dl.length c_11) (runN l x dl dl.length))), F17.gb⟩)
  · skip
    have c10a : ((allE l x dl) == 0) = false := beq_f c10
    have c10b : ((allE l x dl) != 0) = true := bne_t c10
    have c10H := Lib.hid c10
    clear c10
    go_wp2_with fail
    exact bodyPost_ret (v := .tuple #[.slice none 0 0, .int .i64 (allE l x dl)]) (by simp [results, Try.results32, go_sem]) rfl (⟨none, 0, w.heap.size, w.heap.size, (by rw [runI, if_neg c10H.out]; rfl), ⟨Nat.le_refl _, F9.gb.size⟩, (by rw [runI, if_neg c10H.out]; exact Sl.of_nil _ _), F9.gb⟩)

set_option maxHeartbeats 4000000 in
theorem big_c (lo hi : Nat) (v : Value) (l : Fro) (lo2 hi2 : Nat) (vd : Value) (dl : List Wea) (w : World) (hl : Sl covEnc 3 lo hi w v l.cov) (h2 : hi ≤ w.heap.size) (hl2 : Sl weaEnc 6 lo2 hi2 w vd dl) (h22 : hi2 ≤ w.heap.size) :
    Calls Try.prog 30 #[.agg (froC l v), vd] w (Ret (.bool (bigB l dl)) w) := by
  have F1 : Bun w [] w := Bun.nil _
  have hm_cs := hl.len
  unfold maxLen at hm_cs
  obtain ⟨sa, sc, rfl⟩ := hl.any
  have F2 := F1.sl0 hl h2 rfl
  clear F1
  clear hl
  have hm_ds := hl2.len
  unfold maxLen at hm_ds
  obtain ⟨da, dc, rfl⟩ := hl2.any
  have F3 := F2.sl0 hl2 h22 rfl
  clear F2
  clear hl2
  go_enter Try.func30, Try.ntmps30
  by_cases c4 : 30 < (l.cov.length : Int)
  · skip
    have c4H := Lib.hid c4
    have Hx5 := Lib.hid (show ((bigB l dl : Bool)) = true by unfold bigB; rw [Bool.eq_iff_iff]; simp; have := c4H.out; omega)
    go_wp2_with fail
    have F6 := F3.new 29 (froC l (.slice sa l.cov.length sc)) (n := w.heap.size) (by simp)
    clear F3
    go_ret
    exact ⟨by rw [Hx5.out] <;> rfl, F6.gb⟩
  · skip
    have c4H := Lib.hid c4
    have c4a : decide (30 < (l.cov.length : Int)) = false := dec_f c4
    have Hx7 := Lib.hid (show ((bigB l dl : Bool)) = (decide (420 < (dl.length : Int))) by unfold bigB; rw [Bool.eq_iff_iff]; simp; have := c4H.out; omega)
    go_wp2_with fail
    have F8 := F3.new 29 (froC l (.slice sa l.cov.length sc)) (n := w.heap.size) (by simp)
    clear F3
    go_ret
    exact ⟨by rw [Hx7.out] <;> rfl, F8.gb⟩

end Go.Proofs.Ythblaiefalbomaa
