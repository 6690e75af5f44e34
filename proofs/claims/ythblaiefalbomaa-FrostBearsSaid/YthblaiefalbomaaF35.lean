/- the reference of frost: bearing. -/
import Derived.Test.YthblaiefalbomaaF11
import Derived.Test.YthblaiefalbomaaF18
set_option linter.unusedVariables false
set_option linter.unusedSimpArgs false
set_option linter.unnecessarySimpa false
namespace Go.Proofs.Ythblaiefalbomaa
open Go.RowKit
set_option maxRecDepth 100000

theorem rng_rbears_c (t : Nat → Value) : ((List.range 43).map t).toArray = List.toArray [t 0, t 1, t 2, t 3, t 4, t 5, t 6, t 7, t 8, t 9, t 10, t 11, t 12, t 13, t 14, t 15, t 16, t 17, t 18, t 19, t 20, t 21, t 22, t 23, t 24, t 25, t 26, t 27, t 28, t 29, t 30, t 31, t 32, t 33, t 34, t 35, t 36, t 37, t 38, t 39, t 40, t 41, t 42] := rfl
set_option maxHeartbeats 8000000 in
theorem rbears_c (lo hi : Nat) (v : Value) (l : Fro) (x : Ice) (k m : Int) (w : World) (hl : Sl covEnc 3 lo hi w v l.cov) (h2 : hi ≤ w.heap.size) (hL : LawOk l) (hx : IceK x k m) (hk : (0 ≤ k ∧ k ≤ 401) ∧ 0 ≤ m ∧ m ≤ 401) :
    Calls Try.prog 77 #[.agg (froC l v), .agg (iceC x)] w (Ret (.tuple #[.agg #[.int .i64 ((brs l x).lo), .int .i64 ((brs l x).hi)], .int .i64 (soundV x)]) w) := by
  have F1 : Bun w [] w := Bun.nil _
  have hm_cs := hl.len
  unfold maxLen at hm_cs
  obtain ⟨sa, sc, rfl⟩ := hl.any
  have F2 := F1.sl0 hl h2 rfl
  clear F1
  clear hl
  obtain ⟨⟨hg1, hg2⟩, ⟨hl1, hl2⟩, ⟨hn1, hn2⟩, hpt, ⟨hm1, hm2, hm3⟩, ⟨hs1, hs2⟩, ⟨hw1, hw2, hw3⟩⟩ := id hL
  have HL := Lib.hid hL
  clear hL hpt
  obtain ⟨⟨⟨xb1, xb2⟩, xb3, xb4⟩, ⟨⟨xw1, xw2⟩, xw3, xw4⟩, ⟨xe1, xe2⟩, ⟨xs1, xs2⟩, xm1, xm2⟩ := hx
  go_enter Try.func77, Try.ntmps77
  go_wp2_with fail
  have F5 := F2.new 29 (froC l (.slice sa l.cov.length sc)) (n := w.heap.size) (by simp)
  clear F2
  have F6 := F5.new 32 (iceC x) (n := (w.heap.size + 1)) (by simp)
  clear F5
  have F7 := F6.new 27 #[.int .i64 0, .int .i64 0] (n := (w.heap.size + 2)) (by simp)
  clear F6
  obtain ⟨w8, hx9, F11, hxs10⟩ := (show Bun w [rbox (w.heap.size + 2) 27 #[.int .i64 0, .int .i64 0], rbox (w.heap.size + 1) 32 (iceC x), rbox w.heap.size 29 (froC l (.slice sa l.cov.length sc)), rsl covEnc 3 lo hi (.slice sa l.cov.length sc) l.cov] _ from F7).name
  (try simp at hxs10)
  rw [hx9]
  clear hx9 F7
  have F12 := F11.drew
  clear F11
  refine ru_begin (fun W => W.cell? ⟨(w.heap.size + 1), 0, none⟩ = some (.int .i64 x.bl.lo) ∧ W.cell? ⟨(w.heap.size + 1), 2, none⟩ = some (.int .i64 x.wh.lo) ∧ W.cell? ⟨w.heap.size, 6, none⟩ = some (.int .i64 l.white.lo) ∧ W.cell? ⟨(w.heap.size + 1), 1, none⟩ = some (.int .i64 x.bl.hi) ∧ W.cell? ⟨(w.heap.size + 1), 3, none⟩ = some (.int .i64 x.wh.hi) ∧ W.cell? ⟨w.heap.size, 7, none⟩ = some (.int .i64 l.white.hi)) 24 (by kernel_rfl) ?_ ?_
  · exact ⟨F12.cl 1 0 rfl rfl, F12.cl 1 2 rfl rfl, F12.cl 2 6 rfl rfl, F12.cl 1 1 rfl rfl, F12.cl 1 3 rfl rfl, F12.cl 2 7 rfl rfl⟩
  obtain ⟨wd14, hwd_⟩ : ∃ x : World, w8.drew = x := ⟨_, rfl⟩
  rw [hwd_] at F12 ⊢
  have wd14s : w8.heap.size ≤ wd14.heap.size := by rw [← hwd_]; exact Nat.le_refl _
  clear hwd_
  have hS13 := (And.intro (F12.cl 1 0 rfl rfl) (And.intro (F12.cl 1 2 rfl rfl) (And.intro (F12.cl 2 6 rfl rfl) (And.intro (F12.cl 1 1 rfl rfl) (And.intro (F12.cl 1 3 rfl rfl) (F12.cl 2 7 rfl rfl))))))
  refine ru_t 0 [] ?_
  refine ru_t 1 [] ?_
  refine ru_t 2 [] ?_
  refine ru_t 3 [] ?_
  refine ru_t 4 [] ?_
  refine ru_t 5 [] ?_
  refine ru_t 6 [] ?_
  refine ru_t 7 [] ?_
  refine ru_t 8 [] ?_
  refine ru_t 11 [] ?_
  refine ru_t 12 [] ?_
  refine ru_t 13 [] ?_
  refine ru_t 14 [] ?_
  refine ru_t 15 [] ?_
  refine ru_t 16 [] ?_
  refine ru_t 17 [] ?_
  refine ru_t 18 [] ?_
  refine ru_t 19 [] ?_
  (try simp only [Act.put, List.setIfInBounds_toArray, List.set_cons_zero, List.set_cons_succ])
  clear hS13
  have hSS : ∀ (LA : List Res) (W : World), Bun w ([rbox (w.heap.size + 2) 27 #[.int .i64 0, .int .i64 0], rbox (w.heap.size + 1) 32 (iceC x), rbox w.heap.size 29 (froC l (.slice sa l.cov.length sc)), rsl covEnc 3 lo hi (.slice sa l.cov.length sc) l.cov] ++ LA) W ∧ w8.heap.size ≤ W.heap.size → W.cell? ⟨(w.heap.size + 1), 0, none⟩ = some (.int .i64 x.bl.lo) ∧ W.cell? ⟨(w.heap.size + 1), 2, none⟩ = some (.int .i64 x.wh.lo) ∧ W.cell? ⟨w.heap.size, 6, none⟩ = some (.int .i64 l.white.lo) ∧ W.cell? ⟨(w.heap.size + 1), 1, none⟩ = some (.int .i64 x.bl.hi) ∧ W.cell? ⟨(w.heap.size + 1), 3, none⟩ = some (.int .i64 x.wh.hi) ∧ W.cell? ⟨w.heap.size, 7, none⟩ = some (.int .i64 l.white.hi) := fun _ _ ⟨F_, _⟩ => ⟨F_.cl 1 0 rfl rfl, F_.cl 1 2 rfl rfl, F_.cl 2 6 rfl rfl, F_.cl 1 1 rfl rfl, F_.cl 1 3 rfl rfl, F_.cl 2 7 rfl rfl⟩
  refine ru_mix (goodBunS _ w8.heap.size) 43 [⟨23, 6, 27, #[.int .i64 0, .int .i64 0], ptrOf⟩] [9, 10, 20, 21, 22] 1 (by kernel_rfl) (by kernel_rfl) (fun _ _ _ _ _ h => h) (V := fun t => True) (U0 := (fun t => t 3 = .pointer (some ⟨w.heap.size + 1, 0, none⟩) ∧ t 4 = .pointer (some ⟨w.heap.size + 2, 0, none⟩) ∧ t 9 = .int .i64 x.bl.lo ∧ t 12 = .int .i64 x.wh.lo ∧ t 15 = .int .i64 l.white.lo ∧ t 20 = .int .i64 x.bl.hi ∧ t 23 = .int .i64 x.wh.hi ∧ t 26 = .int .i64 l.white.hi)) (Um := (fun t => t 3 = .pointer (some ⟨w.heap.size + 1, 0, none⟩) ∧ t 4 = .pointer (some ⟨w.heap.size + 2, 0, none⟩) ∧ t 29 = .agg #[.int .i64 (x.bl.lo + (dn x.wh.lo l.white.lo)), .int .i64 (x.bl.hi + (upp x.wh.hi l.white.hi))])) (L0 := [rbox (w.heap.size + 2) 27 #[.int .i64 0, .int .i64 0], rbox (w.heap.size + 1) 32 (iceC x), rbox w.heap.size 29 (froC l (.slice sa l.cov.length sc)), rsl covEnc 3 lo hi (.slice sa l.cov.length sc) l.cov]) (Lm := [rbox (w.heap.size + 2) 27 #[.int .i64 0, .int .i64 0], rbox (w.heap.size + 1) 32 (iceC x), rbox w.heap.size 29 (froC l (.slice sa l.cov.length sc)), rsl covEnc 3 lo hi (.slice sa l.cov.length sc) l.cov]) ?chM15 ?alM15 ⟨(by kernel_rfl), rfl, ⟨(by kernel_rfl), (by kernel_rfl), (by kernel_rfl), (by kernel_rfl), (by kernel_rfl), (by kernel_rfl), (by kernel_rfl), (by kernel_rfl)⟩⟩ ⟨F12, (by first | assumption | omega)⟩ ?restM15
  case chM15 =>
    refine Chain.callS 9 (fun t => t 3 = .pointer (some ⟨w.heap.size + 1, 0, none⟩) ∧ t 4 = .pointer (some ⟨w.heap.size + 2, 0, none⟩) ∧ t 9 = .int .i64 x.bl.lo ∧ t 16 = .int .i64 (dn x.wh.lo l.white.lo) ∧ t 20 = .int .i64 x.bl.hi ∧ t 23 = .int .i64 x.wh.hi ∧ t 26 = .int .i64 l.white.hi) (List.forall_mem_cons.2 ⟨fun _ _ u => u, fun _ h => (by cases h)⟩) hSS (fun t ⟨e3, e4, e9, e12, e15, e20, e23, e26⟩ => trivial) (by kernel_rfl) ?_ ?_
    · rintro t w_ LA ⟨e3, e4, e9, e12, e15, e20, e23, e26⟩ ⟨F_, hwn_⟩
      have hws := F_.gb.size
      rw [rng_rbears_c t, e3, e4, e9, e12, e15, e20, e23, e26]
      clear e3 e4 e9 e12 e15 e20 e23 e26
      refine wpOp_stepH rfl (fun K hK => ?_)
      go_simp
      refine (rdown_c _ _ _ (by omega) (by omega) (by omega) (by omega)).mono ?_
      rintro e _ ⟨rfl, rfl⟩
      have hd16 := dn_bd (n := x.wh.lo) (p := l.white.lo) (by omega) (by omega) (by omega)
      exact hK.out _ _ ⟨(by kernel_rfl), rfl, ⟨(by kernel_rfl), (by kernel_rfl), (by kernel_rfl), (by kernel_rfl), (by kernel_rfl), (by kernel_rfl), (by kernel_rfl)⟩, List.forall_mem_cons.2 ⟨(by kernel_rfl), fun _ h => (by cases h)⟩, ⟨F_, hwn_⟩, hSS _ _ ⟨F_, hwn_⟩⟩
    refine Chain.pureS 10 (fun t => t 3 = .pointer (some ⟨w.heap.size + 1, 0, none⟩) ∧ t 4 = .pointer (some ⟨w.heap.size + 2, 0, none⟩) ∧ t 17 = .int .i64 (x.bl.lo + (dn x.wh.lo l.white.lo)) ∧ t 20 = .int .i64 x.bl.hi ∧ t 23 = .int .i64 x.wh.hi ∧ t 26 = .int .i64 l.white.hi) rfl (List.forall_mem_cons.2 ⟨fun _ _ u => u, fun _ h => (by cases h)⟩) hSS (fun t ⟨e3, e4, e9, e16, e20, e23, e26⟩ => trivial) (by kernel_rfl) ?_ ?_
    · rintro t ⟨e3, e4, e9, e16, e20, e23, e26⟩
      rw [rng_rbears_c t, e3, e4, e9, e16, e20, e23, e26]
      clear e3 e4 e9 e16 e20 e23 e26
      have hd16 := dn_bd (n := x.wh.lo) (p := l.white.lo) (by omega) (by omega) (by omega)
      have hw17 : IntKind.i64.wrap (x.bl.lo + (dn x.wh.lo l.white.lo)) = x.bl.lo + (dn x.wh.lo l.white.lo) := IntWalk.i64_in _ (by omega)
      refine ⟨.int .i64 (x.bl.lo + (dn x.wh.lo l.white.lo)), .inl ⟨by first | kernel_rfl | rfl, ?_⟩, ⟨(by kernel_rfl), rfl⟩, ⟨(by kernel_rfl), (by kernel_rfl), (by kernel_rfl), (by kernel_rfl), (by kernel_rfl), (by kernel_rfl)⟩, List.forall_mem_cons.2 ⟨(by kernel_rfl), fun _ h => (by cases h)⟩⟩
      intro wS _
      go_simp
      (try with_reducible rfl)
    refine Chain.callS 20 (fun t => t 3 = .pointer (some ⟨w.heap.size + 1, 0, none⟩) ∧ t 4 = .pointer (some ⟨w.heap.size + 2, 0, none⟩) ∧ t 17 = .int .i64 (x.bl.lo + (dn x.wh.lo l.white.lo)) ∧ t 20 = .int .i64 x.bl.hi ∧ t 27 = .int .i64 (upp x.wh.hi l.white.hi)) (List.forall_mem_cons.2 ⟨fun _ _ u => u, fun _ h => (by cases h)⟩) hSS (fun t ⟨e3, e4, e17, e20, e23, e26⟩ => trivial) (by kernel_rfl) ?_ ?_
    · rintro t w_ LA ⟨e3, e4, e17, e20, e23, e26⟩ ⟨F_, hwn_⟩
      have hd16 := dn_bd (n := x.wh.lo) (p := l.white.lo) (by omega) (by omega) (by omega)
      have hws := F_.gb.size
      rw [rng_rbears_c t, e3, e4, e17, e20, e23, e26]
      clear e3 e4 e17 e20 e23 e26
      refine wpOp_stepH rfl (fun K hK => ?_)
      go_simp
      refine (rup_c _ _ _ (by omega) (by omega) (by omega) (by omega)).mono ?_
      rintro e _ ⟨rfl, rfl⟩
      have hd18 := up_bd (n := x.wh.hi) (p := l.white.hi) (by omega) (by omega) (by omega)
      exact hK.out _ _ ⟨(by kernel_rfl), rfl, ⟨(by kernel_rfl), (by kernel_rfl), (by kernel_rfl), (by kernel_rfl), (by kernel_rfl)⟩, List.forall_mem_cons.2 ⟨(by kernel_rfl), fun _ h => (by cases h)⟩, ⟨F_, hwn_⟩, hSS _ _ ⟨F_, hwn_⟩⟩
    refine Chain.pureS 21 (fun t => t 3 = .pointer (some ⟨w.heap.size + 1, 0, none⟩) ∧ t 4 = .pointer (some ⟨w.heap.size + 2, 0, none⟩) ∧ t 17 = .int .i64 (x.bl.lo + (dn x.wh.lo l.white.lo)) ∧ t 28 = .int .i64 (x.bl.hi + (upp x.wh.hi l.white.hi))) rfl (List.forall_mem_cons.2 ⟨fun _ _ u => u, fun _ h => (by cases h)⟩) hSS (fun t ⟨e3, e4, e17, e20, e27⟩ => trivial) (by kernel_rfl) ?_ ?_
    · rintro t ⟨e3, e4, e17, e20, e27⟩
      rw [rng_rbears_c t, e3, e4, e17, e20, e27]
      clear e3 e4 e17 e20 e27
      have hd16 := dn_bd (n := x.wh.lo) (p := l.white.lo) (by omega) (by omega) (by omega)
      have hd18 := up_bd (n := x.wh.hi) (p := l.white.hi) (by omega) (by omega) (by omega)
      have hw19 : IntKind.i64.wrap (x.bl.hi + (upp x.wh.hi l.white.hi)) = x.bl.hi + (upp x.wh.hi l.white.hi) := IntWalk.i64_in _ (by omega)
      refine ⟨.int .i64 (x.bl.hi + (upp x.wh.hi l.white.hi)), .inl ⟨by first | kernel_rfl | rfl, ?_⟩, ⟨(by kernel_rfl), rfl⟩, ⟨(by kernel_rfl), (by kernel_rfl), (by kernel_rfl), (by kernel_rfl)⟩, List.forall_mem_cons.2 ⟨(by kernel_rfl), fun _ h => (by cases h)⟩⟩
      intro wS _
      go_simp
      (try with_reducible rfl)
    refine Chain.pureS 22 (fun t => t 3 = .pointer (some ⟨w.heap.size + 1, 0, none⟩) ∧ t 4 = .pointer (some ⟨w.heap.size + 2, 0, none⟩) ∧ t 29 = .agg #[.int .i64 (x.bl.lo + (dn x.wh.lo l.white.lo)), .int .i64 (x.bl.hi + (upp x.wh.hi l.white.hi))]) rfl (List.forall_mem_cons.2 ⟨fun _ _ u => u, fun _ h => (by cases h)⟩) hSS (fun t ⟨e3, e4, e17, e28⟩ => trivial) (by kernel_rfl) ?_ ?_
    · rintro t ⟨e3, e4, e17, e28⟩
      rw [rng_rbears_c t, e3, e4, e17, e28]
      clear e3 e4 e17 e28
      have hd16 := dn_bd (n := x.wh.lo) (p := l.white.lo) (by omega) (by omega) (by omega)
      have hd18 := up_bd (n := x.wh.hi) (p := l.white.hi) (by omega) (by omega) (by omega)
      refine ⟨.agg #[.int .i64 (x.bl.lo + (dn x.wh.lo l.white.lo)), .int .i64 (x.bl.hi + (upp x.wh.hi l.white.hi))], .inl ⟨by first | kernel_rfl | rfl, ?_⟩, ⟨(by kernel_rfl), rfl⟩, ⟨(by kernel_rfl), (by kernel_rfl), (by kernel_rfl)⟩, List.forall_mem_cons.2 ⟨(by kernel_rfl), fun _ h => (by cases h)⟩⟩
      intro wS _
      go_simp
      (try with_reducible rfl)
    exact Chain.nil _ _ _ (List.forall_mem_cons.2 ⟨fun _ _ u => u, fun _ h => (by cases h)⟩) hSS (fun t ⟨e3, e4, e29⟩ => trivial)
  case alM15 => exact List.forall_mem_cons.2 ⟨fun _ _ _ _ h => wpOp_step rfl (fun K hK => by go_simp; exact hK _ _ h), fun _ h => (by cases h)⟩
  case restM15 =>
    rintro t w23 g ⟨e3, e4, e29⟩ hA ⟨F_, hwnM15⟩
    clear hSS
    clear F12
    have hA0 : t 6 = .pointer (some ⟨g 23, 0, none⟩) := hA _ (.head _)
    have F24 : Bun w [rbox (g 23) 27 #[.int .i64 0, .int .i64 0], rbox (w.heap.size + 2) 27 #[.int .i64 0, .int .i64 0], rbox (w.heap.size + 1) 32 (iceC x), rbox w.heap.size 29 (froC l (.slice sa l.cov.length sc)), rsl covEnc 3 lo hi (.slice sa l.cov.length sc) l.cov] w23 := F_
    clear hA F_
    obtain ⟨g22, hgx_⟩ : ∃ x_, g 23 = x_ := ⟨_, rfl⟩
    rw [hgx_] at hA0 F24; clear hgx_
    have hd16 := dn_bd (n := x.wh.lo) (p := l.white.lo) (by omega) (by omega) (by omega)
    have hd18 := up_bd (n := x.wh.hi) (p := l.white.hi) (by omega) (by omega) (by omega)
    have hws := F24.gb.size
    have g22l := (F24.bx2 0 rfl).2.2
    rw [rng_rbears_c t, e3, e4, e29, hA0]
    clear e3 e4 e29 hA0
    refine ru_one 24 rfl (by kernel_rfl) (fun K hK => ?_)
    have kb_ := F24.bx2 0 rfl
    go_simp
    clear kb_
    have F25 := F24.pt2 (.int .i64 (x.bl.lo + (dn x.wh.lo l.white.lo))) (.int .i64 (x.bl.hi + (upp x.wh.hi l.white.hi)))
    clear F24
    refine ru_back_late hK (by kernel_rfl) ?_
    clear hK K
    (try simp only [Act.put, List.setIfInBounds_toArray, List.set_cons_zero, List.set_cons_succ])
    refine ru_done (by kernel_rfl) ?_
    obtain ⟨w26, hx27, F29, hxs28⟩ := (show Bun w [rbox g22 27 #[.int .i64 (x.bl.lo + (dn x.wh.lo l.white.lo)), .int .i64 (x.bl.hi + (upp x.wh.hi l.white.hi))], rbox (w.heap.size + 2) 27 #[.int .i64 0, .int .i64 0], rbox (w.heap.size + 1) 32 (iceC x), rsl covEnc 3 lo hi (.slice sa l.cov.length sc) l.cov] _ from (F25.drop 3 rfl)).name
    (try simp at hxs28)
    rw [hx27]
    clear hx27 F25
    by_cases c30 : x.we.hi = 0
    · skip
      have c30a : (x.we.hi == 0) = true := beq_t c30
      have c30b : (x.we.hi != 0) = false := bne_f c30
      have c30H := Lib.hid c30
      clear c30
      have Hx31 := Lib.hid (show (((brs l x).lo : Int)) = x.bl.lo + (dn x.wh.lo l.white.lo) by rfl)
      have Hx32 := Lib.hid (show (((brs l x).hi : Int)) = x.bl.hi + (upp x.wh.hi l.white.hi) by rfl)
      have Hx33 := Lib.hid (show ((soundV x : Int)) = 1 by unfold soundV; (repeat' split) <;> first | rfl | (exfalso; have := c30H.out; omega))
      have b34 := F29.bx2 0 rfl
      have b35 := F29.bx2 1 rfl
      have b36 := F29.bx8 2 rfl
      go_wp2_with fail
      clear b34 b35 b36
      have F37 := (F29.front 1 rfl rfl).pt2 (.int .i64 (x.bl.lo + (dn x.wh.lo l.white.lo))) (.int .i64 (x.bl.hi + (upp x.wh.hi l.white.hi)))
      clear F29
      have kb38 := F37.bx2 0 rfl
      go_wp2_with fail
      exact bodyPost_ret (v := .tuple #[.agg #[.int .i64 (x.bl.lo + (dn x.wh.lo l.white.lo)), .int .i64 (x.bl.hi + (upp x.wh.hi l.white.hi))], .int .i64 1]) (by simp [results, Try.results77, go_sem, kb38]) rfl (⟨by rw [Hx31.out, Hx32.out, Hx33.out] <;> rfl, F37.gb⟩)
    · skip
      have c30a : (x.we.hi == 0) = false := beq_f c30
      have c30b : (x.we.hi != 0) = true := bne_t c30
      have c30H := Lib.hid c30
      clear c30
      by_cases c39 : 0 < x.we.lo
      · skip
        have c39H := Lib.hid c39
        have Hx40 := Lib.hid (show (((brs l x).lo : Int)) = x.bl.lo + (dn x.wh.lo l.white.lo) by rfl)
        have Hx41 := Lib.hid (show (((brs l x).hi : Int)) = x.bl.hi + (upp x.wh.hi l.white.hi) by rfl)
        have Hx42 := Lib.hid (show ((soundV x : Int)) = 2 by unfold soundV; (repeat' split) <;> first | rfl | (exfalso; have := c30H.out; have := c39H.out; omega))
        have b43 := F29.bx2 0 rfl
        have b44 := F29.bx2 1 rfl
        have b45 := F29.bx8 2 rfl
        go_wp2_with fail
        clear b43 b44 b45
        have F46 := (F29.front 1 rfl rfl).pt2 (.int .i64 (x.bl.lo + (dn x.wh.lo l.white.lo))) (.int .i64 (x.bl.hi + (upp x.wh.hi l.white.hi)))
        clear F29
        have kb47 := F46.bx2 0 rfl
        go_wp2_with fail
        exact bodyPost_ret (v := .tuple #[.agg #[.int .i64 (x.bl.lo + (dn x.wh.lo l.white.lo)), .int .i64 (x.bl.hi + (upp x.wh.hi l.white.hi))], .int .i64 2]) (by simp [results, Try.results77, go_sem, kb47]) rfl (⟨by rw [Hx40.out, Hx41.out, Hx42.out] <;> rfl, F46.gb⟩)
      · skip
        have c39H := Lib.hid c39
        have c39a : decide (0 < x.we.lo) = false := dec_f c39
        have Hx48 := Lib.hid (show (((brs l x).lo : Int)) = x.bl.lo + (dn x.wh.lo l.white.lo) by rfl)
        have Hx49 := Lib.hid (show (((brs l x).hi : Int)) = x.bl.hi + (upp x.wh.hi l.white.hi) by rfl)
        have Hx50 := Lib.hid (show ((soundV x : Int)) = 3 by unfold soundV; (repeat' split) <;> first | rfl | (exfalso; have := c30H.out; have := c39H.out; omega))
        have b51 := F29.bx2 0 rfl
        have b52 := F29.bx2 1 rfl
        have b53 := F29.bx8 2 rfl
        go_wp2_with fail
        clear b51 b52 b53
        have F54 := (F29.front 1 rfl rfl).pt2 (.int .i64 (x.bl.lo + (dn x.wh.lo l.white.lo))) (.int .i64 (x.bl.hi + (upp x.wh.hi l.white.hi)))
        clear F29
        have kb55 := F54.bx2 0 rfl
        go_wp2_with fail
        exact bodyPost_ret (v := .tuple #[.agg #[.int .i64 (x.bl.lo + (dn x.wh.lo l.white.lo)), .int .i64 (x.bl.hi + (upp x.wh.hi l.white.hi))], .int .i64 3]) (by simp [results, Try.results77, go_sem, kb55]) rfl (⟨by rw [Hx48.out, Hx49.out, Hx50.out] <;> rfl, F54.gb⟩)

set_option maxHeartbeats 8000000 in
theorem rbearing_c (lo hi : Nat) (v : Value) (l : Fro) (x : Ice) (w : World) (hl : Sl covEnc 3 lo hi w v l.cov) (h2 : hi ≤ w.heap.size) :
    Calls Try.prog 35 #[.agg (froC l v), .agg (iceC x)] w (Ret (.tuple #[.agg #[.int .i64 ((bearT l x).lo), .int .i64 ((bearT l x).hi)], .int .i64 (bearS l x), .int .i64 (allE l x [])]) w) := by
  have F1 : Bun w [] w := Bun.nil _
  have hm_cs := hl.len
  unfold maxLen at hm_cs
  obtain ⟨sa, sc, rfl⟩ := hl.any
  have F2 := F1.sl0 hl h2 rfl
  clear F1
  clear hl
  go_enter Try.func35, Try.ntmps35
  go_wp2_with fail
  have F3 := F2.new 29 (froC l (.slice sa l.cov.length sc)) (n := w.heap.size) (by simp)
  clear F2
  have F4 := F3.new 32 (iceC x) (n := (w.heap.size + 1)) (by simp)
  clear F3
  have F5 := F4.new 27 #[.int .i64 0, .int .i64 0] (n := (w.heap.size + 2)) (by simp)
  clear F4
  refine (rcheckAll_c lo hi _ l x 0 0 (.slice none 0 0) [] _ (F5.at 3 rfl : Sl covEnc 3 lo hi _ (.slice sa l.cov.length sc) l.cov) (Nat.le_trans h2 F5.gb.size) (Sl.of_nil _ _) (Nat.zero_le _)).mono ?_
  rintro e w8 ⟨rfl, hg6⟩
  have hg6s := hg6.size
  (try simp at hg6s)
  have F9 := F5.gn hg6
  clear F5
  clear hg6
  by_cases c10 : allE l x [] = 0
  · skip
    have c10a : ((allE l x []) == 0) = true := beq_t c10
    have c10b : ((allE l x []) != 0) = false := bne_f c10
    have c10H := Lib.hid c10
    clear c10
    have HOK := Lib.hid (allOk c10H.out)
    have b11 := F9.bx8 1 rfl
    have b12 := F9.bx8 2 rfl
    go_wp2_with fail
    clear b11 b12
    refine (rbears_c lo hi _ l x 0 0 _ (F9.at 3 rfl : Sl covEnc 3 lo hi _ (.slice sa l.cov.length sc) l.cov) (Nat.le_trans h2 F9.gb.size) HOK.out.1 HOK.out.2.2.1 (by omega)).mono ?_
    rintro e w15 ⟨rfl, hg13⟩
    have hg13s := hg13.size
    (try simp at hg13s)
    have F16 := F9.gn hg13
    clear F9
    clear hg13
    have Hx17 := Lib.hid (show (((bearT l x).lo : Int)) = (brs l x).lo by rw [bearT, if_pos c10H.out]; (try rfl))
    have Hx18 := Lib.hid (show (((bearT l x).hi : Int)) = (brs l x).hi by rw [bearT, if_pos c10H.out]; (try rfl))
    have Hx19 := Lib.hid (show ((bearS l x : Int)) = soundV x by rw [bearS, if_pos c10H.out])
    have Hx20 := Lib.hid (show ((allE l x [] : Int)) = 0 by exact c10H.out)
    have b21 := F16.bx2 0 rfl
    go_wp2_with fail
    clear b21
    have F22 := F16.pt2 (.int .i64 ((brs l x).lo)) (.int .i64 ((brs l x).hi))
    clear F16
    have F23 := F22.new 27 #[.int .i64 ((brs l x).lo), .int .i64 ((brs l x).hi)] (n := w15.heap.size) (by simp)
    clear F22
    have kb24 := F23.bx2 1 rfl
    go_wp2_with fail
    exact bodyPost_ret (v := .tuple #[.agg #[.int .i64 ((brs l x).lo), .int .i64 ((brs l x).hi)], .int .i64 (soundV x), .int .i64 0]) (by simp [results, Try.results35, go_sem, kb24]) rfl (⟨by rw [Hx17.out, Hx18.out, Hx19.out, Hx20.out] <;> rfl, F23.gb⟩)
  · skip
    have c10a : ((allE l x []) == 0) = false := beq_f c10
    have c10b : ((allE l x []) != 0) = true := bne_t c10
    have c10H := Lib.hid c10
    clear c10
    have Hx25 := Lib.hid (show (((bearT l x).lo : Int)) = 0 by rw [bearT, if_neg c10H.out]; (try rfl))
    have Hx26 := Lib.hid (show (((bearT l x).hi : Int)) = 0 by rw [bearT, if_neg c10H.out]; (try rfl))
    have Hx27 := Lib.hid (show ((bearS l x : Int)) = 0 by rw [bearS, if_neg c10H.out])
    have b28 := F9.bx2 0 rfl
    go_wp2_with fail
    clear b28
    have F29 := F9.pt2 (.int .i64 0) (.int .i64 0)
    clear F9
    have kb30 := F29.bx2 0 rfl
    go_wp2_with fail
    exact bodyPost_ret (v := .tuple #[.agg #[.int .i64 0, .int .i64 0], .int .i64 0, .int .i64 (allE l x [])]) (by simp [results, Try.results35, go_sem, kb30]) rfl (⟨by rw [Hx25.out, Hx26.out, Hx27.out] <;> rfl, F29.gb⟩)

end Go.Proofs.Ythblaiefalbomaa
