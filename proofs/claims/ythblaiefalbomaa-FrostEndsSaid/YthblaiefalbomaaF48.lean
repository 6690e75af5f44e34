/- frost: the ends of spans. -/
import Derived.Test.YthblaiefalbomaaF43
import Derived.Test.YthblaiefalbomaaFP2
set_option linter.unusedVariables false
set_option linter.unusedSimpArgs false
set_option linter.unnecessarySimpa false
namespace Go.Proofs.Ythblaiefalbomaa
open Go.RowKit
set_option maxRecDepth 100000

def endsI (s : Sp) : List Int := if s.lo = s.hi then [s.lo] else [s.lo, s.hi]
def coldsI (s : Sp) : List Int := if s.lo < 0 ∧ 0 ≤ s.hi then endsI s ++ [-1, 0] else endsI s
/-- A row of one's own of numbers is handed back. -/
def OwnI (b0 : Nat) (l : List Int) (w : World) : Ending → World → Prop := fun e w' => ∃ vo, e = .returned vo ∧ Own intEnc 3 1 b0 w' vo l ∧ (∀ g, vo.ownBlock = some g → w.heap.size ≤ g ∧ g < w'.heap.size) ∧ w.grownBy w' none
theorem OwnI.mk {b0 : Nat} {l : List Int} {w w' : World} {vo : Value} (hb : b0 ≤ w.heap.size) (h : Own intEnc 3 1 w.heap.size w' vo l) (hg : w.grownBy w' none) : OwnI b0 l w (.returned vo) w' :=
  ⟨vo, rfl, Own.base h hb, h.lt, hg⟩
theorem own_lit1 {base g : Nat} {x : Int} {w : World} (h : Bk w g 3 #[.int .i64 x]) (hb : base ≤ g) : Own intEnc 3 1 base w (.slice (some ⟨g, 0, none⟩) 1 1) [x] :=
  ⟨rfl, .inr ⟨g, 1, #[.int .i64 x], rfl, hb, h, Nat.le_refl _, by simp [maxLen], rfl, rfl⟩⟩
theorem own_lit2 {base g : Nat} {x y : Int} {w : World} (h : Bk w g 3 #[.int .i64 x, .int .i64 y]) (hb : base ≤ g) : Own intEnc 3 1 base w (.slice (some ⟨g, 0, none⟩) 2 2) [x, y] :=
  ⟨rfl, .inr ⟨g, 2, #[.int .i64 x, .int .i64 y], rfl, hb, h, Nat.le_refl _, by simp [maxLen], rfl, rfl⟩⟩
theorem endsI_len (s : Sp) : 1 ≤ (endsI s).length ∧ (endsI s).length ≤ 2 := by unfold endsI; split <;> simp
theorem coldsI_len (s : Sp) : 1 ≤ (coldsI s).length ∧ (coldsI s).length ≤ 4 := by
  have := endsI_len s
  unfold coldsI
  split
  · rw [List.length_append]; simp only [List.length_cons, List.length_nil]; omega
  · omega
theorem endsI_mem {s : Sp} {n : Int} : n ∈ endsI s ↔ endS n s := by
  unfold endsI endS
  split <;> simp
  rename_i h
  rw [h]; simp
theorem coldsI_mem {s : Sp} {n : Int} : n ∈ coldsI s ↔ endC n s := by
  unfold coldsI endC
  split
  · rename_i h
    rw [List.mem_append, endsI_mem]
    simp [h]
  · rename_i h
    rw [endsI_mem]
    constructor
    · exact .inl
    · rintro (h1 | ⟨h1, _⟩)
      · exact h1
      · exact absurd h1 h
set_option maxHeartbeats 4000000 in
theorem ends_c (b0 : Nat) (s : Sp) (w : World) (hb : b0 ≤ w.heap.size) :
    Calls Try.prog 19 #[.agg #[.int .i64 s.lo, .int .i64 s.hi]] w (OwnI b0 (endsI s) w) := by
  have F1 : Bun w [] w := Bun.nil _
  go_enter Try.func19, Try.ntmps19
  by_cases c2 : s.lo = s.hi
  · skip
    have c2a : (s.lo == s.hi) = true := beq_t c2
    have c2b : (s.lo != s.hi) = false := bne_f c2
    have c2H := Lib.hid c2
    clear c2
    go_wp2_with fail
    have F3 := F1.new 27 #[.int .i64 s.lo, .int .i64 s.hi] (n := w.heap.size) (by simp)
    clear F1
    have F4 := F3.new 3 #[.int .i64 s.lo] (n := (w.heap.size + 1)) (by simp)
    clear F3
    exact bodyPost_ret (v := .slice (some ⟨w.heap.size + 1, 0, none⟩) 1 1) (by simp [results, Try.results19, go_sem]) rfl (OwnI.mk hb (by rw [endsI, if_pos c2H.out]; exact own_lit1 (F4.at 0 rfl : Bk _ (w.heap.size + 1) 3 #[.int .i64 s.lo]) (by first | omega | (simp; omega))) F4.gb)
  · skip
    have c2a : (s.lo == s.hi) = false := beq_f c2
    have c2b : (s.lo != s.hi) = true := bne_t c2
    have c2H := Lib.hid c2
    clear c2
    go_wp2_with fail
    have F5 := F1.new 27 #[.int .i64 s.lo, .int .i64 s.hi] (n := w.heap.size) (by simp)
    clear F1
    have F6 := F5.new 3 #[.int .i64 s.lo, .int .i64 s.hi] (n := (w.heap.size + 1)) (by simp)
    clear F5
    exact bodyPost_ret (v := .slice (some ⟨w.heap.size + 1, 0, none⟩) 2 2) (by simp [results, Try.results19, go_sem]) rfl (OwnI.mk hb (by rw [endsI, if_neg c2H.out]; exact own_lit2 (F6.at 0 rfl : Bk _ (w.heap.size + 1) 3 #[.int .i64 s.lo, .int .i64 s.hi]) (by first | omega | (simp; omega))) F6.gb)

set_option maxHeartbeats 4000000 in
theorem colds_c (b0 : Nat) (s : Sp) (w : World) (hb : b0 ≤ w.heap.size) :
    Calls Try.prog 20 #[.agg #[.int .i64 s.lo, .int .i64 s.hi]] w (OwnI b0 (coldsI s) w) := by
  have F1 : Bun w [] w := Bun.nil _
  have hel := endsI_len s
  go_enter Try.func20, Try.ntmps20
  go_wp2_with fail
  have F2 := F1.new 27 #[.int .i64 s.lo, .int .i64 s.hi] (n := w.heap.size) (by simp)
  clear F1
  refine (ends_c w.heap.size s _ F2.gb.size).mono ?_
  rintro e w5 ⟨vo_e, rfl, hdoe, hdxe, hg3⟩
  have hg3s := hg3.size
  (try simp at hg3s)
  have F6 := F2.add (rown intEnc 3 1 w.heap.size vo_e (endsI s)) hg3 (hdoe) (hdxe)
  clear F2
  clear hg3
  by_cases c7 : s.lo < 0
  · skip
    have c7H := Lib.hid c7
    by_cases c8 : 0 ≤ s.hi
    · skip
      have c8H := Lib.hid c8
      have b9 := F6.bx2 1 rfl
      go_wp2_with (at_builtin; refine wpList_app _ okInt rfl _ _ rfl w.heap.size vo_e (endsI s) [-1, 0] rfl (by exact ((F6.at 0 rfl : Own intEnc 3 1 w.heap.size _ vo_e (endsI s))).alloc _) ⟨_, 0, none⟩ 2 2 rfl rfl (by decide) (news_of (Bk.newAt _ _ _ (by simp))) ((endsI s).length + 2) (by simp) (by omega) (by first | omega | (simp; omega)) _ rfl ?_; intro g10 cap11 w12 hp13; refine Hid.out ?_)
      refine Lib.hid ?_
      have hp13s := hp13.gb.size
      (try simp at hp13s)
      clear b9
      have F14 := ((F6.alloc (.cells #[.int .i64 (-1), .int .i64 0] 3)).front 0 rfl rfl).app hp13 (by simp)
      clear F6
      go_wp2_with fail
      exact bodyPost_ret (v := .slice (some ⟨g10, 0, none⟩) ((endsI s).length + 2) cap11) (by simp [results, Try.results20, go_sem]) rfl (OwnI.mk hb (by rw [coldsI, if_pos (by have := c7H.out; have := c8H.out; omega)]; exact (F14.at 0 rfl : Own intEnc 3 1 w.heap.size _ (.slice (some ⟨g10, 0, none⟩) ((endsI s).length + 2) cap11) ((endsI s) ++ [-1, 0]))) F14.gb)
    · skip
      have c8H := Lib.hid c8
      have c8a : decide (0 ≤ s.hi) = false := dec_f c8
      have b15 := F6.bx2 1 rfl
      go_wp2_with fail
      clear b15
      exact bodyPost_ret (v := vo_e) (by simp [results, Try.results20, go_sem]) rfl (OwnI.mk hb (by rw [coldsI, if_neg (by have := c7H.out; have := c8H.out; omega)]; exact (F6.at 0 rfl : Own intEnc 3 1 w.heap.size _ vo_e (endsI s))) F6.gb)
  · skip
    have c7H := Lib.hid c7
    have c7a : decide (s.lo < 0) = false := dec_f c7
    have b16 := F6.bx2 1 rfl
    go_wp2_with fail
    clear b16
    exact bodyPost_ret (v := vo_e) (by simp [results, Try.results20, go_sem]) rfl (OwnI.mk hb (by rw [coldsI, if_neg (by have := c7H.out; omega)]; exact (F6.at 0 rfl : Own intEnc 3 1 w.heap.size _ vo_e (endsI s))) F6.gb)

end Go.Proofs.Ythblaiefalbomaa
