/- frost: Ready. -/
import Derived.Test.YtgkjicejaalijaaDoorF13
import Derived.Test.YtgkjicejaalijaaDoorF8
set_option linter.unusedVariables false
set_option linter.unusedSimpArgs false
set_option linter.unnecessarySimpa false
namespace Go.Proofs.YtgkjicejaalijaaDoor
open Go.RowKit Go.Shelf
set_option maxRecDepth 100000
attribute [local go_sem] Oper.semAt_some

def sureB (l : Fro) (need : Int) (y : Ice) : Bool := decide (y.we.hi = 0) && decide (need ≤ (brs l y).lo)
def perhB (l : Fro) (need : Int) (y : Ice) : Bool := decide (y.we.lo = 0) && decide (need ≤ (brs l y).hi)
/-- The number, from 1 on, of the first of n numbers that p holds of; 0 if there is none. -/
def fstP (p : Nat → Bool) : Nat → Int
  | 0 => 0
  | n + 1 => if fstP p n = 0 then (if p n = true then (n : Int) + 1 else 0) else fstP p n
theorem fstP_no {p : Nat → Bool} : ∀ n : Nat, (∀ j, j < n → p j = false) → fstP p n = 0
  | 0, _ => rfl
  | n + 1, h => by rw [fstP, if_pos (fstP_no n fun j hj => h j (by omega)), if_neg (by rw [h n (by omega)]; simp)]
theorem fstP_yes {p : Nat → Bool} {i : Nat} (h : ∀ j, j < i → p j = false) (hi : p i = true) : ∀ n : Nat, i < n → fstP p n = (i : Int) + 1
  | 0, hn => by omega
  | n + 1, hn => by
    rw [fstP]
    by_cases e : i = n
    · subst e; rw [if_pos (fstP_no i h), if_pos hi]
    · rw [fstP_yes h hi n (by omega), if_neg (by omega)]
noncomputable def readyE (l : Fro) (x : Ice) (dl : List Wea) (need : Int) : Int := if ¬ allE l x dl = 0 then allE l x dl else if need < 0 ∨ 5000 < need then 2 else 0
noncomputable def readyS (l : Fro) (x : Ice) (dl : List Wea) (need : Int) : Int := if readyE l x dl need = 0 then fstP (fun j => sureB l need (stI l x dl (j + 1))) dl.length else 0
noncomputable def readyP (l : Fro) (x : Ice) (dl : List Wea) (need : Int) : Int := if readyE l x dl need = 0 then fstP (fun j => perhB l need (stI l x dl (j + 1))) dl.length else 0
set_option maxHeartbeats 4000000 in
theorem sureB_c (lo hi : Nat) (v : Value) (l : Fro) (y : Ice) (k : Int) (pd pn : Nat) (need : Int) (w : World) (hl : Sl covEnc 3 lo hi w v l.cov) (h2 : hi ≤ w.heap.size) (hL : LawOk l) (hx : IceK y k k) (hk : 0 ≤ k ∧ k ≤ 400) (hbd : Bk w pd 84 (froC l v)) (hbn : Bk w pn 3 #[.int .i64 need]) :
    Calls Tryd.prog 74 #[.agg (iceC y), .pointer (some ⟨pd, 0, none⟩), .pointer (some ⟨pn, 0, none⟩)] w (Ret (.bool (sureB l need y)) w) := by
  have F1 : Bun w [] w := Bun.nil _
  have hm_cs := hl.len
  unfold maxLen at hm_cs
  obtain ⟨sa, sc, rfl⟩ := hl.any
  have F2 := F1.sl0 hl h2 rfl
  clear F1
  clear hl
  have F3 := F2.fix0 hbd rfl
  clear F2
  have F4 := F3.fix0 hbn rfl
  clear F3
  have HL := Lib.hid hL
  have HX := Lib.hid hx
  have hk0 := hk
  have hld := hbd.lt
  have hln := hbn.lt
  go_enter Tryd.func74, Tryd.ntmps74
  by_cases c5 : y.we.hi = 0
  · skip
    have c5a : (y.we.hi == 0) = true := beq_t c5
    have c5b : (y.we.hi != 0) = false := bne_f c5
    have c5H := Lib.hid c5
    clear c5
    go_wp2_with fail
    have F6 := F4.new 82 (iceC y) (n := w.heap.size) (by simp)
    clear F4
    obtain ⟨w7, hx8, F10, hxs9⟩ := (show Bun w [rbox w.heap.size 82 (iceC y), rfix pn 3 #[.int .i64 need], rfix pd 84 (froC l (.slice sa l.cov.length sc)), rsl covEnc 3 lo hi (.slice sa l.cov.length sc) l.cov] _ from F6).name
    (try simp at hxs9)
    rw [hx8]
    clear hx8 F6
    have F11 := F10.drew
    clear F10
    refine ru_begin (fun W => W.cell? ⟨w.heap.size, 5, none⟩ = some (.int .i64 y.we.hi) ∧ W.cell? ⟨pd, 0, none⟩ = some (.int .i64 l.gr) ∧ W.cell? ⟨pd, 1, none⟩ = some (.int .i64 l.la) ∧ W.cell? ⟨pd, 2, none⟩ = some (.slice sa l.cov.length sc) ∧ W.cell? ⟨pd, 3, none⟩ = some (.int .i64 l.melt.lo) ∧ W.cell? ⟨pd, 4, none⟩ = some (.int .i64 l.melt.hi) ∧ W.cell? ⟨pd, 5, none⟩ = some (.int .i64 l.soak) ∧ W.cell? ⟨pd, 6, none⟩ = some (.int .i64 l.white.lo) ∧ W.cell? ⟨pd, 7, none⟩ = some (.int .i64 l.white.hi) ∧ W.cell? ⟨w.heap.size, 0, none⟩ = some (.int .i64 y.bl.lo) ∧ W.cell? ⟨w.heap.size, 1, none⟩ = some (.int .i64 y.bl.hi) ∧ W.cell? ⟨w.heap.size, 2, none⟩ = some (.int .i64 y.wh.lo) ∧ W.cell? ⟨w.heap.size, 3, none⟩ = some (.int .i64 y.wh.hi) ∧ W.cell? ⟨w.heap.size, 4, none⟩ = some (.int .i64 y.we.lo) ∧ W.cell? ⟨w.heap.size, 6, none⟩ = some (.int .i64 y.sn.lo) ∧ W.cell? ⟨w.heap.size, 7, none⟩ = some (.int .i64 y.sn.hi) ∧ W.cell? ⟨pn, 0, none⟩ = some (.int .i64 need)) 12 (by kernel_rfl) ?_ ?_
    · exact ⟨F11.cl 0 5 rfl rfl, ((F11.at 2 rfl : Bk _ pd 84 (froC l (.slice sa l.cov.length sc)))).cell 0, ((F11.at 2 rfl : Bk _ pd 84 (froC l (.slice sa l.cov.length sc)))).cell 1, ((F11.at 2 rfl : Bk _ pd 84 (froC l (.slice sa l.cov.length sc)))).cell 2, ((F11.at 2 rfl : Bk _ pd 84 (froC l (.slice sa l.cov.length sc)))).cell 3, ((F11.at 2 rfl : Bk _ pd 84 (froC l (.slice sa l.cov.length sc)))).cell 4, ((F11.at 2 rfl : Bk _ pd 84 (froC l (.slice sa l.cov.length sc)))).cell 5, ((F11.at 2 rfl : Bk _ pd 84 (froC l (.slice sa l.cov.length sc)))).cell 6, ((F11.at 2 rfl : Bk _ pd 84 (froC l (.slice sa l.cov.length sc)))).cell 7, F11.cl 0 0 rfl rfl, F11.cl 0 1 rfl rfl, F11.cl 0 2 rfl rfl, F11.cl 0 3 rfl rfl, F11.cl 0 4 rfl rfl, F11.cl 0 6 rfl rfl, F11.cl 0 7 rfl rfl, ((F11.at 1 rfl : Bk _ pn 3 #[.int .i64 need])).cell 0⟩
    obtain ⟨wd13, hwd_⟩ : ∃ x : World, w7.drew = x := ⟨_, rfl⟩
    rw [hwd_] at F11 ⊢
    have wd13s : w7.heap.size ≤ wd13.heap.size := by rw [← hwd_]; exact Nat.le_refl _
    clear hwd_
    have hS12 := (And.intro (F11.cl 0 5 rfl rfl) (And.intro (((F11.at 2 rfl : Bk _ pd 84 (froC l (.slice sa l.cov.length sc)))).cell 0) (And.intro (((F11.at 2 rfl : Bk _ pd 84 (froC l (.slice sa l.cov.length sc)))).cell 1) (And.intro (((F11.at 2 rfl : Bk _ pd 84 (froC l (.slice sa l.cov.length sc)))).cell 2) (And.intro (((F11.at 2 rfl : Bk _ pd 84 (froC l (.slice sa l.cov.length sc)))).cell 3) (And.intro (((F11.at 2 rfl : Bk _ pd 84 (froC l (.slice sa l.cov.length sc)))).cell 4) (And.intro (((F11.at 2 rfl : Bk _ pd 84 (froC l (.slice sa l.cov.length sc)))).cell 5) (And.intro (((F11.at 2 rfl : Bk _ pd 84 (froC l (.slice sa l.cov.length sc)))).cell 6) (And.intro (((F11.at 2 rfl : Bk _ pd 84 (froC l (.slice sa l.cov.length sc)))).cell 7) (And.intro (F11.cl 0 0 rfl rfl) (And.intro (F11.cl 0 1 rfl rfl) (And.intro (F11.cl 0 2 rfl rfl) (And.intro (F11.cl 0 3 rfl rfl) (And.intro (F11.cl 0 4 rfl rfl) (And.intro (F11.cl 0 6 rfl rfl) (And.intro (F11.cl 0 7 rfl rfl) (((F11.at 1 rfl : Bk _ pn 3 #[.int .i64 need])).cell 0)))))))))))))))))
    refine ru_t 0 [] ?_
    refine ru_t 1 [] ?_
    refine ru_t 2 [] ?_
    refine ru_t 3 [] ?_
    refine ru_t 4 [] ?_
    refine ru_t 5 [] ?_
    refine ru_t 6 [] ?_
    refine ru_t 9 [] ?_
    (try simp only [Act.put, List.setIfInBounds_toArray, List.set_cons_zero, List.set_cons_succ])
    clear hS12
    refine ru_one 7 rfl (by kernel_rfl) (fun K hK => ?_)
    go_simp
    refine (bears_c lo hi _ l y k k _ (F11.at 3 rfl : Sl covEnc 3 lo hi _ (.slice sa l.cov.length sc) l.cov) (Nat.le_trans h2 F11.gb.size) HL.out HX.out (by omega)).mono ?_
    rintro e w16 ⟨rfl, hg14⟩
    have hg14s := hg14.size
    (try simp at hg14s)
    have F17 := F11.gn hg14
    clear F11
    refine ru_back hK (by exact ⟨F17.cl 0 5 rfl rfl, ((F17.at 2 rfl : Bk _ pd 84 (froC l (.slice sa l.cov.length sc)))).cell 0, ((F17.at 2 rfl : Bk _ pd 84 (froC l (.slice sa l.cov.length sc)))).cell 1, ((F17.at 2 rfl : Bk _ pd 84 (froC l (.slice sa l.cov.length sc)))).cell 2, ((F17.at 2 rfl : Bk _ pd 84 (froC l (.slice sa l.cov.length sc)))).cell 3, ((F17.at 2 rfl : Bk _ pd 84 (froC l (.slice sa l.cov.length sc)))).cell 4, ((F17.at 2 rfl : Bk _ pd 84 (froC l (.slice sa l.cov.length sc)))).cell 5, ((F17.at 2 rfl : Bk _ pd 84 (froC l (.slice sa l.cov.length sc)))).cell 6, ((F17.at 2 rfl : Bk _ pd 84 (froC l (.slice sa l.cov.length sc)))).cell 7, F17.cl 0 0 rfl rfl, F17.cl 0 1 rfl rfl, F17.cl 0 2 rfl rfl, F17.cl 0 3 rfl rfl, F17.cl 0 4 rfl rfl, F17.cl 0 6 rfl rfl, F17.cl 0 7 rfl rfl, ((F17.at 1 rfl : Bk _ pn 3 #[.int .i64 need])).cell 0⟩) (fun hHeld => ?_)
    clear hK K
    (try simp only [Act.put, List.setIfInBounds_toArray, List.set_cons_zero, List.set_cons_succ])
    have hi18 : ∀ w, (Instr.field 24 (.agg #[.int .i64 ((brs l y).lo), .int .i64 ((brs l y).hi)]) 0).run Tryd.prog w = .ok (.int .i64 ((brs l y).lo)) w := fun _ => by kernel_rfl
    refine ru_p 8 ?_
    (try simp only [Act.put, List.setIfInBounds_toArray, List.set_cons_zero, List.set_cons_succ])
    refine ru_p 10 ?_
    (try simp only [Act.put, List.setIfInBounds_toArray, List.set_cons_zero, List.set_cons_succ])
    refine ru_p 11 ?_
    (try simp only [Act.put, List.setIfInBounds_toArray, List.set_cons_zero, List.set_cons_succ])
    refine ru_one 12 rfl (by kernel_rfl) (fun K hK => ?_)
    go_simp
    refine ru_back_late hK (by kernel_rfl) ?_
    clear hK K
    (try simp only [Act.put, List.setIfInBounds_toArray, List.set_cons_zero, List.set_cons_succ])
    refine ru_done (by kernel_rfl) ?_
    (try clear hi18)
    obtain ⟨w19, hx20, F22, hxs21⟩ := (show Bun w [rfix pn 3 #[.int .i64 need], rfix pd 84 (froC l (.slice sa l.cov.length sc)), rsl covEnc 3 lo hi (.slice sa l.cov.length sc) l.cov] _ from (F17.drop 0 rfl)).name
    (try simp at hxs21)
    rw [hx20]
    clear hx20 F17
    have Hx23 := Lib.hid (show ((sureB l need y : Bool)) = (decide (need ≤ (brs l y).lo)) by simp [sureB, c5H.out])
    go_wp2_with fail
    go_ret
    exact ⟨by rw [Hx23.out] <;> rfl, F22.gb⟩
  · skip
    have c5a : (y.we.hi == 0) = false := beq_f c5
    have c5b : (y.we.hi != 0) = true := bne_t c5
    have c5H := Lib.hid c5
    clear c5
    go_wp2_with fail
    have F24 := F4.new 82 (iceC y) (n := w.heap.size) (by simp)
    clear F4
    have b25 := F24.bx8 0 rfl
    go_quiet (fail)
    clear b25
    have F26 := F24.drewN nq
    clear F24
    obtain ⟨w27, hx28, F30, hxs29⟩ := (show Bun w [rfix pn 3 #[.int .i64 need], rfix pd 84 (froC l (.slice sa l.cov.length sc)), rsl covEnc 3 lo hi (.slice sa l.cov.length sc) l.cov] _ from (F26.drop 0 rfl)).name
    (try simp at hxs29)
    rw [hx28]
    clear hx28 F26
    have Hx31 := Lib.hid (show ((sureB l need y : Bool)) = false by simp [sureB, c5H.out])
    go_wp2_with fail
    go_ret
    exact ⟨by rw [Hx31.out] <;> rfl, F30.gb⟩

set_option maxHeartbeats 4000000 in
theorem perhB_c (lo hi : Nat) (v : Value) (l : Fro) (y : Ice) (k : Int) (pd pn : Nat) (need : Int) (w : World) (hl : Sl covEnc 3 lo hi w v l.cov) (h2 : hi ≤ w.heap.size) (hL : LawOk l) (hx : IceK y k k) (hk : 0 ≤ k ∧ k ≤ 400) (hbd : Bk w pd 84 (froC l v)) (hbn : Bk w pn 3 #[.int .i64 need]) :
    Calls Tryd.prog 76 #[.agg (iceC y), .pointer (some ⟨pd, 0, none⟩), .pointer (some ⟨pn, 0, none⟩)] w (Ret (.bool (perhB l need y)) w) := by
  have F1 : Bun w [] w := Bun.nil _
  have hm_cs := hl.len
  unfold maxLen at hm_cs
  obtain ⟨sa, sc, rfl⟩ := hl.any
  have F2 := F1.sl0 hl h2 rfl
  clear F1
  clear hl
  have F3 := F2.fix0 hbd rfl
  clear F2
  have F4 := F3.fix0 hbn rfl
  clear F3
  have HL := Lib.hid hL
  have HX := Lib.hid hx
  have hk0 := hk
  have hld := hbd.lt
  have hln := hbn.lt
  go_enter Tryd.func76, Tryd.ntmps76
  by_cases c5 : y.we.lo = 0
  · skip
    have c5a : (y.we.lo == 0) = true := beq_t c5
    have c5b : (y.we.lo != 0) = false := bne_f c5
    have c5H := Lib.hid c5
    clear c5
    go_wp2_with fail
    have F6 := F4.new 82 (iceC y) (n := w.heap.size) (by simp)
    clear F4
    obtain ⟨w7, hx8, F10, hxs9⟩ := (show Bun w [rbox w.heap.size 82 (iceC y), rfix pn 3 #[.int .i64 need], rfix pd 84 (froC l (.slice sa l.cov.length sc)), rsl covEnc 3 lo hi (.slice sa l.cov.length sc) l.cov] _ from F6).name
    (try simp at hxs9)
    rw [hx8]
    clear hx8 F6
    have F11 := F10.drew
    clear F10
    refine ru_begin (fun W => W.cell? ⟨w.heap.size, 4, none⟩ = some (.int .i64 y.we.lo) ∧ W.cell? ⟨pd, 0, none⟩ = some (.int .i64 l.gr) ∧ W.cell? ⟨pd, 1, none⟩ = some (.int .i64 l.la) ∧ W.cell? ⟨pd, 2, none⟩ = some (.slice sa l.cov.length sc) ∧ W.cell? ⟨pd, 3, none⟩ = some (.int .i64 l.melt.lo) ∧ W.cell? ⟨pd, 4, none⟩ = some (.int .i64 l.melt.hi) ∧ W.cell? ⟨pd, 5, none⟩ = some (.int .i64 l.soak) ∧ W.cell? ⟨pd, 6, none⟩ = some (.int .i64 l.white.lo) ∧ W.cell? ⟨pd, 7, none⟩ = some (.int .i64 l.white.hi) ∧ W.cell? ⟨w.heap.size, 0, none⟩ = some (.int .i64 y.bl.lo) ∧ W.cell? ⟨w.heap.size, 1, none⟩ = some (.int .i64 y.bl.hi) ∧ W.cell? ⟨w.heap.size, 2, none⟩ = some (.int .i64 y.wh.lo) ∧ W.cell? ⟨w.heap.size, 3, none⟩ = some (.int .i64 y.wh.hi) ∧ W.cell? ⟨w.heap.size, 5, none⟩ = some (.int .i64 y.we.hi) ∧ W.cell? ⟨w.heap.size, 6, none⟩ = some (.int .i64 y.sn.lo) ∧ W.cell? ⟨w.heap.size, 7, none⟩ = some (.int .i64 y.sn.hi) ∧ W.cell? ⟨pn, 0, none⟩ = some (.int .i64 need)) 12 (by kernel_rfl) ?_ ?_
    · exact ⟨F11.cl 0 4 rfl rfl, ((F11.at 2 rfl : Bk _ pd 84 (froC l (.slice sa l.cov.length sc)))).cell 0, ((F11.at 2 rfl : Bk _ pd 84 (froC l (.slice sa l.cov.length sc)))).cell 1, ((F11.at 2 rfl : Bk _ pd 84 (froC l (.slice sa l.cov.length sc)))).cell 2, ((F11.at 2 rfl : Bk _ pd 84 (froC l (.slice sa l.cov.length sc)))).cell 3, ((F11.at 2 rfl : Bk _ pd 84 (froC l (.slice sa l.cov.length sc)))).cell 4, ((F11.at 2 rfl : Bk _ pd 84 (froC l (.slice sa l.cov.length sc)))).cell 5, ((F11.at 2 rfl : Bk _ pd 84 (froC l (.slice sa l.cov.length sc)))).cell 6, ((F11.at 2 rfl : Bk _ pd 84 (froC l (.slice sa l.cov.length sc)))).cell 7, F11.cl 0 0 rfl rfl, F11.cl 0 1 rfl rfl, F11.cl 0 2 rfl rfl, F11.cl 0 3 rfl rfl, F11.cl 0 5 rfl rfl, F11.cl 0 6 rfl rfl, F11.cl 0 7 rfl rfl, ((F11.at 1 rfl : Bk _ pn 3 #[.int .i64 need])).cell 0⟩
    obtain ⟨wd13, hwd_⟩ : ∃ x : World, w7.drew = x := ⟨_, rfl⟩
    rw [hwd_] at F11 ⊢
    have wd13s : w7.heap.size ≤ wd13.heap.size := by rw [← hwd_]; exact Nat.le_refl _
    clear hwd_
    have hS12 := (And.intro (F11.cl 0 4 rfl rfl) (And.intro (((F11.at 2 rfl : Bk _ pd 84 (froC l (.slice sa l.cov.length sc)))).cell 0) (And.intro (((F11.at 2 rfl : Bk _ pd 84 (froC l (.slice sa l.cov.length sc)))).cell 1) (And.intro (((F11.at 2 rfl : Bk _ pd 84 (froC l (.slice sa l.cov.length sc)))).cell 2) (And.intro (((F11.at 2 rfl : Bk _ pd 84 (froC l (.slice sa l.cov.length sc)))).cell 3) (And.intro (((F11.at 2 rfl : Bk _ pd 84 (froC l (.slice sa l.cov.length sc)))).cell 4) (And.intro (((F11.at 2 rfl : Bk _ pd 84 (froC l (.slice sa l.cov.length sc)))).cell 5) (And.intro (((F11.at 2 rfl : Bk _ pd 84 (froC l (.slice sa l.cov.length sc)))).cell 6) (And.intro (((F11.at 2 rfl : Bk _ pd 84 (froC l (.slice sa l.cov.length sc)))).cell 7) (And.intro (F11.cl 0 0 rfl rfl) (And.intro (F11.cl 0 1 rfl rfl) (And.intro (F11.cl 0 2 rfl rfl) (And.intro (F11.cl 0 3 rfl rfl) (And.intro (F11.cl 0 5 rfl rfl) (And.intro (F11.cl 0 6 rfl rfl) (And.intro (F11.cl 0 7 rfl rfl) (((F11.at 1 rfl : Bk _ pn 3 #[.int .i64 need])).cell 0)))))))))))))))))
    refine ru_t 0 [] ?_
    refine ru_t 1 [] ?_
    refine ru_t 2 [] ?_
    refine ru_t 3 [] ?_
    refine ru_t 4 [] ?_
    refine ru_t 5 [] ?_
    refine ru_t 6 [] ?_
    refine ru_t 9 [] ?_
    (try simp only [Act.put, List.setIfInBounds_toArray, List.set_cons_zero, List.set_cons_succ])
    clear hS12
    refine ru_one 7 rfl (by kernel_rfl) (fun K hK => ?_)
    go_simp
    refine (bears_c lo hi _ l y k k _ (F11.at 3 rfl : Sl covEnc 3 lo hi _ (.slice sa l.cov.length sc) l.cov) (Nat.le_trans h2 F11.gb.size) HL.out HX.out (by omega)).mono ?_
    rintro e w16 ⟨rfl, hg14⟩
    have hg14s := hg14.size
    (try simp at hg14s)
    have F17 := F11.gn hg14
    clear F11
    refine ru_back hK (by exact ⟨F17.cl 0 4 rfl rfl, ((F17.at 2 rfl : Bk _ pd 84 (froC l (.slice sa l.cov.length sc)))).cell 0, ((F17.at 2 rfl : Bk _ pd 84 (froC l (.slice sa l.cov.length sc)))).cell 1, ((F17.at 2 rfl : Bk _ pd 84 (froC l (.slice sa l.cov.length sc)))).cell 2, ((F17.at 2 rfl : Bk _ pd 84 (froC l (.slice sa l.cov.length sc)))).cell 3, ((F17.at 2 rfl : Bk _ pd 84 (froC l (.slice sa l.cov.length sc)))).cell 4, ((F17.at 2 rfl : Bk _ pd 84 (froC l (.slice sa l.cov.length sc)))).cell 5, ((F17.at 2 rfl : Bk _ pd 84 (froC l (.slice sa l.cov.length sc)))).cell 6, ((F17.at 2 rfl : Bk _ pd 84 (froC l (.slice sa l.cov.length sc)))).cell 7, F17.cl 0 0 rfl rfl, F17.cl 0 1 rfl rfl, F17.cl 0 2 rfl rfl, F17.cl 0 3 rfl rfl, F17.cl 0 5 rfl rfl, F17.cl 0 6 rfl rfl, F17.cl 0 7 rfl rfl, ((F17.at 1 rfl : Bk _ pn 3 #[.int .i64 need])).cell 0⟩) (fun hHeld => ?_)
    clear hK K
    (try simp only [Act.put, List.setIfInBounds_toArray, List.set_cons_zero, List.set_cons_succ])
    have hi18 : ∀ w, (Instr.field 24 (.agg #[.int .i64 ((brs l y).lo), .int .i64 ((brs l y).hi)]) 1).run Tryd.prog w = .ok (.int .i64 ((brs l y).hi)) w := fun _ => by kernel_rfl
    refine ru_p 8 ?_
    (try simp only [Act.put, List.setIfInBounds_toArray, List.set_cons_zero, List.set_cons_succ])
    refine ru_p 10 ?_
    (try simp only [Act.put, List.setIfInBounds_toArray, List.set_cons_zero, List.set_cons_succ])
    refine ru_p 11 ?_
    (try simp only [Act.put, List.setIfInBounds_toArray, List.set_cons_zero, List.set_cons_succ])
    refine ru_one 12 rfl (by kernel_rfl) (fun K hK => ?_)
    go_simp
    refine ru_back_late hK (by kernel_rfl) ?_
    clear hK K
    (try simp only [Act.put, List.setIfInBounds_toArray, List.set_cons_zero, List.set_cons_succ])
    refine ru_done (by kernel_rfl) ?_
    (try clear hi18)
    obtain ⟨w19, hx20, F22, hxs21⟩ := (show Bun w [rfix pn 3 #[.int .i64 need], rfix pd 84 (froC l (.slice sa l.cov.length sc)), rsl covEnc 3 lo hi (.slice sa l.cov.length sc) l.cov] _ from (F17.drop 0 rfl)).name
    (try simp at hxs21)
    rw [hx20]
    clear hx20 F17
    have Hx23 := Lib.hid (show ((perhB l need y : Bool)) = (decide (need ≤ (brs l y).hi)) by simp [perhB, c5H.out])
    go_wp2_with fail
    go_ret
    exact ⟨by rw [Hx23.out] <;> rfl, F22.gb⟩
  · skip
    have c5a : (y.we.lo == 0) = false := beq_f c5
    have c5b : (y.we.lo != 0) = true := bne_t c5
    have c5H := Lib.hid c5
    clear c5
    go_wp2_with fail
    have F24 := F4.new 82 (iceC y) (n := w.heap.size) (by simp)
    clear F4
    have b25 := F24.bx8 0 rfl
    go_quiet (fail)
    clear b25
    have F26 := F24.drewN nq
    clear F24
    obtain ⟨w27, hx28, F30, hxs29⟩ := (show Bun w [rfix pn 3 #[.int .i64 need], rfix pd 84 (froC l (.slice sa l.cov.length sc)), rsl covEnc 3 lo hi (.slice sa l.cov.length sc) l.cov] _ from (F26.drop 0 rfl)).name
    (try simp at hxs29)
    rw [hx28]
    clear hx28 F26
    have Hx31 := Lib.hid (show ((perhB l need y : Bool)) = false by simp [perhB, c5H.out])
    go_wp2_with fail
    go_ret
    exact ⟨by rw [Hx31.out] <;> rfl, F30.gb⟩

end Go.Proofs.YtgkjicejaalijaaDoor
