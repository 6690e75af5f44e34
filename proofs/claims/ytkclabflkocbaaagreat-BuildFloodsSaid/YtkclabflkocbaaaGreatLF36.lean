/- the reference of frost: when ice is ready. -/
import Derived.Test.YtkclabflkocbaaaGreatLKF4
import Derived.Test.YtkclabflkocbaaaGreatLKF1
import Derived.Test.YtkclabflkocbaaaGreatLF16
import Derived.Test.YtkclabflkocbaaaGreatLKF2
set_option linter.unusedVariables false
set_option linter.unusedSimpArgs false
set_option linter.unnecessarySimpa false
namespace Go.Proofs.YtkclabflkocbaaaGreat
open Go.RowKit
set_option maxRecDepth 100000
theorem fstP_step {q : Nat -> Bool} {k : Nat} {s : Int} (h : s = fstP q k) : fstP q (k + 1) = if s = 0 then (if q k = true then (k : Int) + 1 else 0) else s := by rw [h]; rfl
theorem stI_ok {l : Fro} {x : Ice} {dl : List Wea} (hL : LawOk l) (hF : Falls l.cov) (hx : IceK x 0 0) (hd : ∀ d ∈ dl, WeaOk d) (hn : dl.length <= 400) (ho : okI x) : ∀ k : Nat, k <= dl.length -> okI (stI l x dl k)
 | 0, _ => ho
 | k + 1, hk => by
  have h := List.getElem?_eq_getElem (l := dl) (i := k) (by omega)
  rw [stI_succ h]
  exact aft_ok hL hF (stI_K hL hx hd hn k (by omega)) (hd _ (List.mem_of_getElem? h)) (stI_ok hL hF hx hd hn ho k (by omega))
theorem allFro {l : Fro} {x : Ice} {ds : List Wea} (h : allE l x ds = 0) : froErr l = 0 := by
 unfold allE at h
 split at h
 · contradiction
 rename_i h1
 exact Classical.not_not.1 h1
theorem sure_iff {l : Fro} {need : Int} {y : Ice} : sureB l need y = true ↔ (soundV y = 1 /\ need <= (brs l y).lo) := by
 unfold sureB soundV
 simp only [Bool.and_eq_true, decide_eq_true_eq]
 constructor
 · rintro ⟨a, b⟩; exact ⟨by rw [if_pos a], b⟩
 rintro ⟨a, b⟩
 refine ⟨?_, b⟩
 split at a
 · assumption
 · split at a <;> omega
theorem perh_iff {l : Fro} {need : Int} {y : Ice} {k m : Int} (ho : okI y) (hk : IceK y k m) : perhB l need y = true ↔ (¬ soundV y = 2 /\ need <= (brs l y).hi) := by
 have h1 := ho.2.1
 have h2 := hk.we
 unfold perhB soundV
 simp only [Bool.and_eq_true, decide_eq_true_eq]
 constructor
 ·
  rintro ⟨a, b⟩
  refine ⟨?_, b⟩
  split
  · omega
  · rw [if_neg (by omega)]; omega
 rintro ⟨a, b⟩
 refine ⟨?_, b⟩
 split at a
 · omega
 split at a
 · exact absurd rfl a
 · omega
theorem rng_rready_c (t : Nat -> Value) : ((List.range 76).map t).toArray = List.toArray [t 0, t 1, t 2, t 3, t 4, t 5, t 6, t 7, t 8, t 9, t 10, t 11, t 12, t 13, t 14, t 15, t 16, t 17, t 18, t 19, t 20, t 21, t 22, t 23, t 24, t 25, t 26, t 27, t 28, t 29, t 30, t 31, t 32, t 33, t 34, t 35, t 36, t 37, t 38, t 39, t 40, t 41, t 42, t 43, t 44, t 45, t 46, t 47, t 48, t 49, t 50, t 51, t 52, t 53, t 54, t 55, t 56, t 57, t 58, t 59, t 60, t 61, t 62, t 63, t 64, t 65, t 66, t 67, t 68, t 69, t 70, t 71, t 72, t 73, t 74, t 75] := rfl
set_option maxHeartbeats 16000000 in
theorem rready_c (lo hi : Nat) (v : Value) (l : Fro) (x : Ice) (lo2 hi2 : Nat) (vd : Value) (dl : List Wea) (need : Int) (w : World) (hl : Sl covEnc 3 lo hi w v l.cov) (h2 : hi <= w.heap.size) (hl2 : Sl weaEnc 6 lo2 hi2 w vd dl) (h22 : hi2 <= w.heap.size) :
  Calls Tryz.prog 35 #[.agg (froC l v), .agg (iceC x), vd, .int .i64 need] w (Ret (.tuple #[.int .i64 (readyS l x dl need), .int .i64 (readyP l x dl need), .int .i64 (readyE l x dl need)]) w) := by
 have F1 : Bun w [] w := Bun.nil _
 have hm_cs := hl.len
 unfold maxLen at hm_cs
 obtain ⟨sa, sc, rfl⟩ := hl.any
 replace F1 := F1.sl0 hl h2 rfl
 clear hl
 have hm_ds := hl2.len
 unfold maxLen at hm_ds
 obtain ⟨da, dc, rfl⟩ := hl2.any
 replace F1 := F1.sl0 hl2 h22 rfl
 clear hl2
 go_enter Tryz.func35, Tryz.ntmps35
 go_wp2_with fail
 replace F1 := F1.new 26 (froC l (.slice sa l.cov.length sc)) (n := w.heap.size) (by simp)
 replace F1 := F1.new 28 (iceC x) (n := (w.heap.size + 1)) (by simp)
 refine (rcheckAll_c lo hi _ l x lo2 hi2 _ dl _ (F1.s 3 rfl) (Nat.le_trans h2 F1.gb.size) (F1.s 2 rfl) (Nat.le_trans h22 F1.gb.size)).mono ?_
 rintro e w8 ⟨rfl, hg6⟩
 have hg6s := hg6.size
 (try simp at hg6s)
 replace F1 := F1.gn hg6
 clear hg6
 by_cases c10 : allE l x dl = 0
 ·
  obtain ⟨c10a, c10b⟩ := bqt c10
  have c10H := lhd c10
  clear c10
  have HOK := lhd (allOk c10H.out)
  have hn4 := HOK.out.2.2.2.1
  have HK := lhd (stI_K HOK.out.1 HOK.out.2.2.1 HOK.out.2.2.2.2 HOK.out.2.2.2.1)
  have HOI := lhd (stI_ok HOK.out.1 (lawFalls (allFro c10H.out)) HOK.out.2.2.1 HOK.out.2.2.2.2 HOK.out.2.2.2.1 (okI_of HOK.out.2.1))
  go_wp2_with fail
  refine (outside_c _ _ _ _).mono ?_
  rintro e _ ⟨rfl, rfl⟩
  cases c11 : outB need 0 5000
  ·
   have c11o := outB_f c11
   have c11H := lhd c11o
   have b13 := F1.bx8 0 rfl
   have b14 := F1.bx8 1 rfl
   go_wp2_with fail
   clear b13 b14
   refine (rrunL_c lo hi _ l x lo2 hi2 _ dl _ (F1.s 3 rfl) (Nat.le_trans h2 F1.gb.size) (F1.s 2 rfl) (Nat.le_trans h22 F1.gb.size) HOK.out).mono ?_
   rintro e w17 ⟨a_12, c_12, lo_12, hi_12, rfl, hx12, hy12, hsl12, hg15⟩
   have hg15s := hg15.size
   (try simp at hg15s)
   replace F1 := F1.add (rsl iceEnc 8 lo_12 hi_12 (.slice a_12 dl.length c_12) (runN l x dl dl.length)) hg15 (hsl12) (fun g e => ⟨Nat.le_trans hx12 e.1, Nat.lt_of_lt_of_le e.2 hy12⟩)
   clear hg15
   go_wp2_with fail
   obtain ⟨HI19_, HI190⟩ : ∃ I : RelT, I = (fun t ds wr => ∃ (k : Nat) (s p : Int), t 3 = .int .i64 need /\ t 4 = .pointer (some ⟨w.heap.size, 0, none⟩) /\ t 12 = .int .i64 s /\ t 13 = .int .i64 p /\ t 14 = .slice a_12 dl.length c_12 /\ t 15 = .int .i64 (k : Int) /\ k <= dl.length /\ s = fstP (fun j => sureB l need (stI l x dl (j + 1))) k /\ p = fstP (fun j => perhB l need (stI l x dl (j + 1))) k /\ ds = [] /\ w17.heap.size <= wr.heap.size /\ Bun w [rsl iceEnc 8 lo_12 hi_12 (.slice a_12 dl.length c_12) (runN l x dl dl.length), rbox w.heap.size 26 (froC l (.slice sa l.cov.length sc)), rsl weaEnc 6 lo2 hi2 (.slice da dl.length dc) dl, rsl covEnc 3 lo hi (.slice sa l.cov.length sc) l.cov] wr) := ⟨_, rfl⟩
   have HI19 := lhd HI190
   clear HI190
   refine wp_loopS 76 rfl HI19_ (fun t wr => dl.length - (intOf (t 15)).toNat) ?atStart1 ?round1
   case round1 =>
    intro t ds wr hHid
    rw [HI19.out] at hHid
    obtain ⟨k, s, p, e3, e4, e12, e13, e14, e15, hrel⟩ := hHid
    have e : ((List.range 76).map t).toArray = #[t 0, t 1, t 2, t 3, t 4, t 5, t 6, t 7, t 8, t 9, t 10, t 11, t 12, t 13, t 14, t 15, t 16, t 17, t 18, t 19, t 20, t 21, t 22, t 23, t 24, t 25, t 26, t 27, t 28, t 29, t 30, t 31, t 32, t 33, t 34, t 35, t 36, t 37, t 38, t 39, t 40, t 41, t 42, t 43, t 44, t 45, t 46, t 47, t 48, t 49, t 50, t 51, t 52, t 53, t 54, t 55, t 56, t 57, t 58, t 59, t 60, t 61, t 62, t 63, t 64, t 65, t 66, t 67, t 68, t 69, t 70, t 71, t 72, t 73, t 74, t 75] := rfl
    (try dsimp only at e)
    rw [e3, e4, e12, e13, e14, e15] at e
    rw [e]
    simp only [e15]
    clear e e3 e4 e12 e13 e14 e15
    obtain ⟨hk, hs_, hp_, rfl, hs21, hF20⟩ := hrel
    clear F1
    obtain ⟨w22, rfl⟩ : ∃ x_ : World, x_ = wr := ⟨_, rfl⟩
    have Hs := lhd hs_
    have Hp := lhd hp_
    clear hs_ hp_
    by_cases c23 : (k : Int) < (dl.length : Int)
    ·
     have c23H := lhd c23
     obtain ⟨x24, o25, e_⟩ := Sl.addr (hF20.s 0 rfl) (by rw [runN_len]; omega)
     subst e_
     obtain ⟨z, hz26_⟩ : ∃ z_, (runN l x dl dl.length)[k]? = some z_ := ⟨_, List.getElem?_eq_getElem (by rw [runN_len]; omega)⟩
     have hz26 := lhd hz26_
     clear hz26_
     obtain rfl : z = (stI l x dl (k + 1)) := by have h_ := hz26.out; rw [runN_get (by omega)] at h_; injection h_ with h_; exact h_.symm
     go_wp2_with fail
     have F27 := hF20.drew
     clear hF20
     refine ru_begin (fun W => W.cell? ⟨w.heap.size, 0, none⟩ = some (.int .i64 l.gr) /\ W.cell? ⟨w.heap.size, 1, none⟩ = some (.int .i64 l.la) /\ W.cell? ⟨w.heap.size, 2, none⟩ = some (.slice sa l.cov.length sc) /\ W.cell? ⟨w.heap.size, 3, none⟩ = some (.int .i64 l.melt.lo) /\ W.cell? ⟨w.heap.size, 4, none⟩ = some (.int .i64 l.melt.hi) /\ W.cell? ⟨w.heap.size, 5, none⟩ = some (.int .i64 l.soak) /\ W.cell? ⟨w.heap.size, 6, none⟩ = some (.int .i64 l.white.lo) /\ W.cell? ⟨w.heap.size, 7, none⟩ = some (.int .i64 l.white.hi) /\ W.cell? ⟨x24, o25 + k * 8, none⟩ = some (.int .i64 ((stI l x dl (k + 1)).bl.lo)) /\ W.cell? ⟨x24, o25 + k * 8 + 1, none⟩ = some (.int .i64 ((stI l x dl (k + 1)).bl.hi)) /\ W.cell? ⟨x24, o25 + k * 8 + 2, none⟩ = some (.int .i64 ((stI l x dl (k + 1)).wh.lo)) /\ W.cell? ⟨x24, o25 + k * 8 + 3, none⟩ = some (.int .i64 ((stI l x dl (k + 1)).wh.hi)) /\ W.cell? ⟨x24, o25 + k * 8 + 4, none⟩ = some (.int .i64 ((stI l x dl (k + 1)).we.lo)) /\ W.cell? ⟨x24, o25 + k * 8 + 5, none⟩ = some (.int .i64 ((stI l x dl (k + 1)).we.hi)) /\ W.cell? ⟨x24, o25 + k * 8 + 6, none⟩ = some (.int .i64 ((stI l x dl (k + 1)).sn.lo)) /\ W.cell? ⟨x24, o25 + k * 8 + 7, none⟩ = some (.int .i64 ((stI l x dl (k + 1)).sn.hi))) 10 (by kernel_rfl) ?_ ?_
     · exact ⟨F27.q 1 0, F27.q 1 1, F27.q 1 2, F27.q 1 3, F27.q 1 4, F27.q 1 5, F27.q 1 6, F27.q 1 7, (Sl.cells (F27.at 0 rfl) hz26.out 0 _ rfl), (Sl.cells (F27.at 0 rfl) hz26.out 1 _ rfl), (Sl.cells (F27.at 0 rfl) hz26.out 2 _ rfl), (Sl.cells (F27.at 0 rfl) hz26.out 3 _ rfl), (Sl.cells (F27.at 0 rfl) hz26.out 4 _ rfl), (Sl.cells (F27.at 0 rfl) hz26.out 5 _ rfl), (Sl.cells (F27.at 0 rfl) hz26.out 6 _ rfl), (Sl.cells (F27.at 0 rfl) hz26.out 7 _ rfl)⟩
     obtain ⟨wd29, hwd_⟩ : ∃ x : World, w22.drew = x := ⟨_, rfl⟩
     rw [hwd_] at F27 ⊢
     have wd29s : w22.heap.size <= wd29.heap.size := by rw [← hwd_]; exact Nat.le_refl _
     clear hwd_
     have hS28 := (And.intro (F27.q 1 0) (And.intro (F27.q 1 1) (And.intro (F27.q 1 2) (And.intro (F27.q 1 3) (And.intro (F27.q 1 4) (And.intro (F27.q 1 5) (And.intro (F27.q 1 6) (And.intro (F27.q 1 7) (And.intro ((Sl.cells (F27.at 0 rfl) hz26.out 0 _ rfl)) (And.intro ((Sl.cells (F27.at 0 rfl) hz26.out 1 _ rfl)) (And.intro ((Sl.cells (F27.at 0 rfl) hz26.out 2 _ rfl)) (And.intro ((Sl.cells (F27.at 0 rfl) hz26.out 3 _ rfl)) (And.intro ((Sl.cells (F27.at 0 rfl) hz26.out 4 _ rfl)) (And.intro ((Sl.cells (F27.at 0 rfl) hz26.out 5 _ rfl)) (And.intro ((Sl.cells (F27.at 0 rfl) hz26.out 6 _ rfl)) ((Sl.cells (F27.at 0 rfl) hz26.out 7 _ rfl)))))))))))))))))
     refine ru_t 0 [] ?_
     refine ru_t 1 [] ?_
     refine ru_t 2 [] ?_
     refine ru_t 3 [] ?_
     refine ru_t 4 [] ?_
     (try simp only [lpX])
     clear hS28
     have hSS : ∀ (LA : List Res) (W : World), Bun w ([rsl iceEnc 8 lo_12 hi_12 (.slice (some ⟨x24, o25, none⟩) dl.length c_12) (runN l x dl dl.length), rbox w.heap.size 26 (froC l (.slice sa l.cov.length sc)), rsl weaEnc 6 lo2 hi2 (.slice da dl.length dc) dl, rsl covEnc 3 lo hi (.slice sa l.cov.length sc) l.cov] ++ LA) W /\ w22.heap.size <= W.heap.size -> W.cell? ⟨w.heap.size, 0, none⟩ = some (.int .i64 l.gr) /\ W.cell? ⟨w.heap.size, 1, none⟩ = some (.int .i64 l.la) /\ W.cell? ⟨w.heap.size, 2, none⟩ = some (.slice sa l.cov.length sc) /\ W.cell? ⟨w.heap.size, 3, none⟩ = some (.int .i64 l.melt.lo) /\ W.cell? ⟨w.heap.size, 4, none⟩ = some (.int .i64 l.melt.hi) /\ W.cell? ⟨w.heap.size, 5, none⟩ = some (.int .i64 l.soak) /\ W.cell? ⟨w.heap.size, 6, none⟩ = some (.int .i64 l.white.lo) /\ W.cell? ⟨w.heap.size, 7, none⟩ = some (.int .i64 l.white.hi) /\ W.cell? ⟨x24, o25 + k * 8, none⟩ = some (.int .i64 ((stI l x dl (k + 1)).bl.lo)) /\ W.cell? ⟨x24, o25 + k * 8 + 1, none⟩ = some (.int .i64 ((stI l x dl (k + 1)).bl.hi)) /\ W.cell? ⟨x24, o25 + k * 8 + 2, none⟩ = some (.int .i64 ((stI l x dl (k + 1)).wh.lo)) /\ W.cell? ⟨x24, o25 + k * 8 + 3, none⟩ = some (.int .i64 ((stI l x dl (k + 1)).wh.hi)) /\ W.cell? ⟨x24, o25 + k * 8 + 4, none⟩ = some (.int .i64 ((stI l x dl (k + 1)).we.lo)) /\ W.cell? ⟨x24, o25 + k * 8 + 5, none⟩ = some (.int .i64 ((stI l x dl (k + 1)).we.hi)) /\ W.cell? ⟨x24, o25 + k * 8 + 6, none⟩ = some (.int .i64 ((stI l x dl (k + 1)).sn.lo)) /\ W.cell? ⟨x24, o25 + k * 8 + 7, none⟩ = some (.int .i64 ((stI l x dl (k + 1)).sn.hi)) := fun _ _ ⟨F_, _⟩ => ⟨F_.q 1 0, F_.q 1 1, F_.q 1 2, F_.q 1 3, F_.q 1 4, F_.q 1 5, F_.q 1 6, F_.q 1 7, (Sl.cells (F_.at 0 rfl) hz26.out 0 _ rfl), (Sl.cells (F_.at 0 rfl) hz26.out 1 _ rfl), (Sl.cells (F_.at 0 rfl) hz26.out 2 _ rfl), (Sl.cells (F_.at 0 rfl) hz26.out 3 _ rfl), (Sl.cells (F_.at 0 rfl) hz26.out 4 _ rfl), (Sl.cells (F_.at 0 rfl) hz26.out 5 _ rfl), (Sl.cells (F_.at 0 rfl) hz26.out 6 _ rfl), (Sl.cells (F_.at 0 rfl) hz26.out 7 _ rfl)⟩
     refine ru_mix (goodBunS _ w22.heap.size) 76 [⟨9, 16, 24, #[.int .i64 0, .int .i64 0], ptrOf⟩] [5, 6, 7, 8] 2 (by kernel_rfl) (by kernel_rfl) (fun _ _ _ _ _ h => h) (V := fun t => True) (U0 := (fun t => t 3 = .int .i64 need /\ t 4 = .pointer (some ⟨w.heap.size, 0, none⟩) /\ t 12 = .int .i64 s /\ t 13 = .int .i64 p /\ t 14 = .slice (some ⟨x24, o25, none⟩) dl.length c_12 /\ t 15 = .int .i64 (k : Int) /\ t 38 = .agg (froC l (.slice sa l.cov.length sc)) /\ t 42 = .agg #[.int .i64 ((stI l x dl (k + 1)).bl.lo), .int .i64 ((stI l x dl (k + 1)).bl.hi), .int .i64 ((stI l x dl (k + 1)).wh.lo), .int .i64 ((stI l x dl (k + 1)).wh.hi), .int .i64 ((stI l x dl (k + 1)).we.lo), .int .i64 ((stI l x dl (k + 1)).we.hi), .int .i64 ((stI l x dl (k + 1)).sn.lo), .int .i64 ((stI l x dl (k + 1)).sn.hi)])) (Um := (fun t => t 3 = .int .i64 need /\ t 4 = .pointer (some ⟨w.heap.size, 0, none⟩) /\ t 12 = .int .i64 s /\ t 13 = .int .i64 p /\ t 14 = .slice (some ⟨x24, o25, none⟩) dl.length c_12 /\ t 15 = .int .i64 (k : Int) /\ t 44 = .agg #[.int .i64 ((brs l (stI l x dl (k + 1))).lo), .int .i64 ((brs l (stI l x dl (k + 1))).hi)] /\ t 45 = .int .i64 (soundV (stI l x dl (k + 1))))) (L0 := [rsl iceEnc 8 lo_12 hi_12 (.slice (some ⟨x24, o25, none⟩) dl.length c_12) (runN l x dl dl.length), rbox w.heap.size 26 (froC l (.slice sa l.cov.length sc)), rsl weaEnc 6 lo2 hi2 (.slice da dl.length dc) dl, rsl covEnc 3 lo hi (.slice sa l.cov.length sc) l.cov]) (Lm := [rsl iceEnc 8 lo_12 hi_12 (.slice (some ⟨x24, o25, none⟩) dl.length c_12) (runN l x dl dl.length), rbox w.heap.size 26 (froC l (.slice sa l.cov.length sc)), rsl weaEnc 6 lo2 hi2 (.slice da dl.length dc) dl, rsl covEnc 3 lo hi (.slice sa l.cov.length sc) l.cov]) ?chM30 ?alM30 ⟨(by kernel_rfl), rfl, (by (iterate 7 refine ⟨by kernel_rfl, ?_⟩); exact (by kernel_rfl))⟩ ⟨F27, (by first | assumption | omega)⟩ ?restM30
     case chM30 =>
      refine Chain.callS 5 (fun t => t 3 = .int .i64 need /\ t 4 = .pointer (some ⟨w.heap.size, 0, none⟩) /\ t 12 = .int .i64 s /\ t 13 = .int .i64 p /\ t 14 = .slice (some ⟨x24, o25, none⟩) dl.length c_12 /\ t 15 = .int .i64 (k : Int) /\ t 43 = .tuple #[.agg #[.int .i64 ((brs l (stI l x dl (k + 1))).lo), .int .i64 ((brs l (stI l x dl (k + 1))).hi)], .int .i64 (soundV (stI l x dl (k + 1)))]) (lfm ⟨fun _ _ u => u, fun _ h => (by cases h)⟩) hSS (fun t ⟨e3, e4, e12, e13, e14, e15, e38, e42⟩ => trivial) (by kernel_rfl) ?_ ?_
      ·
       rintro t w_ LA ⟨e3, e4, e12, e13, e14, e15, e38, e42⟩ ⟨F_, hwn_⟩
       have hws := F_.gb.size
       rw [rng_rready_c t, e3, e4, e12, e13, e14, e15, e38, e42]
       clear e3 e4 e12 e13 e14 e15 e38 e42
       refine wpOp_stepH rfl (fun K hK => ?_)
       go_simp
       refine (rbears_c lo hi _ l (stI l x dl (k + 1)) ((k : Int) + 1) ((k : Int) + 1) _ (F_.s 3 rfl) (Nat.le_trans h2 F_.gb.size) HOK.out.1 (by have h_ := HK.out (k + 1) (by omega); push_cast at h_; exact h_) (by omega)).mono ?_
       rintro e w31 ⟨rfl, hg32⟩
       exact hK.out _ _ ⟨(by kernel_rfl), rfl, (by (iterate 6 refine ⟨by kernel_rfl, ?_⟩); exact (by kernel_rfl)), lfm ⟨(by kernel_rfl), fun _ h => (by cases h)⟩, ⟨F_.gn hg32, Nat.le_trans hwn_ hg32.size⟩, hSS _ _ ⟨F_.gn hg32, Nat.le_trans hwn_ hg32.size⟩⟩
      refine Chain.pureS 6 (fun t => t 3 = .int .i64 need /\ t 4 = .pointer (some ⟨w.heap.size, 0, none⟩) /\ t 12 = .int .i64 s /\ t 13 = .int .i64 p /\ t 14 = .slice (some ⟨x24, o25, none⟩) dl.length c_12 /\ t 15 = .int .i64 (k : Int) /\ t 37 = .tuple #[.agg #[.int .i64 ((brs l (stI l x dl (k + 1))).lo), .int .i64 ((brs l (stI l x dl (k + 1))).hi)], .int .i64 (soundV (stI l x dl (k + 1)))]) rfl (lfm ⟨fun _ _ u => u, fun _ h => (by cases h)⟩) hSS (fun t ⟨e3, e4, e12, e13, e14, e15, e43⟩ => trivial) (by kernel_rfl) ?_ ?_
      ·
       rintro t ⟨e3, e4, e12, e13, e14, e15, e43⟩
       rw [rng_rready_c t, e3, e4, e12, e13, e14, e15, e43]
       clear e3 e4 e12 e13 e14 e15 e43
       refine ⟨.tuple #[.agg #[.int .i64 ((brs l (stI l x dl (k + 1))).lo), .int .i64 ((brs l (stI l x dl (k + 1))).hi)], .int .i64 (soundV (stI l x dl (k + 1)))], .inl ⟨by first | kernel_rfl | rfl, ?_⟩, ⟨(by kernel_rfl), rfl⟩, (by (iterate 6 refine ⟨by kernel_rfl, ?_⟩); exact (by kernel_rfl)), lfm ⟨(by kernel_rfl), fun _ h => (by cases h)⟩⟩
       intro wS _
       go_simp
       (try with_reducible rfl)
      refine Chain.pureS 7 (fun t => t 3 = .int .i64 need /\ t 4 = .pointer (some ⟨w.heap.size, 0, none⟩) /\ t 12 = .int .i64 s /\ t 13 = .int .i64 p /\ t 14 = .slice (some ⟨x24, o25, none⟩) dl.length c_12 /\ t 15 = .int .i64 (k : Int) /\ t 37 = .tuple #[.agg #[.int .i64 ((brs l (stI l x dl (k + 1))).lo), .int .i64 ((brs l (stI l x dl (k + 1))).hi)], .int .i64 (soundV (stI l x dl (k + 1)))] /\ t 44 = .agg #[.int .i64 ((brs l (stI l x dl (k + 1))).lo), .int .i64 ((brs l (stI l x dl (k + 1))).hi)]) rfl (lfm ⟨fun _ _ u => u, fun _ h => (by cases h)⟩) hSS (fun t ⟨e3, e4, e12, e13, e14, e15, e37⟩ => trivial) (by kernel_rfl) ?_ ?_
      ·
       rintro t ⟨e3, e4, e12, e13, e14, e15, e37⟩
       rw [rng_rready_c t, e3, e4, e12, e13, e14, e15, e37]
       clear e3 e4 e12 e13 e14 e15 e37
       refine ⟨.agg #[.int .i64 ((brs l (stI l x dl (k + 1))).lo), .int .i64 ((brs l (stI l x dl (k + 1))).hi)], .inl ⟨by first | kernel_rfl | rfl, ?_⟩, ⟨(by kernel_rfl), rfl⟩, (by (iterate 7 refine ⟨by kernel_rfl, ?_⟩); exact (by kernel_rfl)), lfm ⟨(by kernel_rfl), fun _ h => (by cases h)⟩⟩
       intro wS _
       go_simp
       (try with_reducible rfl)
      refine Chain.pureS 8 (fun t => t 3 = .int .i64 need /\ t 4 = .pointer (some ⟨w.heap.size, 0, none⟩) /\ t 12 = .int .i64 s /\ t 13 = .int .i64 p /\ t 14 = .slice (some ⟨x24, o25, none⟩) dl.length c_12 /\ t 15 = .int .i64 (k : Int) /\ t 44 = .agg #[.int .i64 ((brs l (stI l x dl (k + 1))).lo), .int .i64 ((brs l (stI l x dl (k + 1))).hi)] /\ t 45 = .int .i64 (soundV (stI l x dl (k + 1)))) rfl (lfm ⟨fun _ _ u => u, fun _ h => (by cases h)⟩) hSS (fun t ⟨e3, e4, e12, e13, e14, e15, e37, e44⟩ => trivial) (by kernel_rfl) ?_ ?_
      ·
       rintro t ⟨e3, e4, e12, e13, e14, e15, e37, e44⟩
       rw [rng_rready_c t, e3, e4, e12, e13, e14, e15, e37, e44]
       clear e3 e4 e12 e13 e14 e15 e37 e44
       refine ⟨.int .i64 (soundV (stI l x dl (k + 1))), .inl ⟨by first | kernel_rfl | rfl, ?_⟩, ⟨(by kernel_rfl), rfl⟩, (by (iterate 7 refine ⟨by kernel_rfl, ?_⟩); exact (by kernel_rfl)), lfm ⟨(by kernel_rfl), fun _ h => (by cases h)⟩⟩
       intro wS _
       go_simp
       (try with_reducible rfl)
      exact Chain.nil _ _ _ (lfm ⟨fun _ _ u => u, fun _ h => (by cases h)⟩) hSS (fun t ⟨e3, e4, e12, e13, e14, e15, e44, e45⟩ => trivial)
     case alM30 => exact lfm ⟨fun _ _ _ _ h => wpOp_step rfl (fun K hK => by go_simp; exact hK _ _ h), fun _ h => (by cases h)⟩
     case restM30 =>
      rintro t w35 g ⟨e3, e4, e12, e13, e14, e15, e44, e45⟩ hA ⟨F_, hwnM30⟩
      clear hSS
      clear F27
      have hA0 : t 16 = .pointer (some ⟨g 9, 0, none⟩) := hA _ (.head _)
      have F36 : Bun w [rbox (g 9) 24 #[.int .i64 0, .int .i64 0], rsl iceEnc 8 lo_12 hi_12 (.slice (some ⟨x24, o25, none⟩) dl.length c_12) (runN l x dl dl.length), rbox w.heap.size 26 (froC l (.slice sa l.cov.length sc)), rsl weaEnc 6 lo2 hi2 (.slice da dl.length dc) dl, rsl covEnc 3 lo hi (.slice sa l.cov.length sc) l.cov] w35 := F_
      clear hA F_
      obtain ⟨g34, hgx_⟩ : ∃ x_, g 9 = x_ := ⟨_, rfl⟩
      rw [hgx_] at hA0 F36; clear hgx_
      have hws := F36.gb.size
      have g34l := (F36.bx2 0 rfl).2.2
      rw [rng_rready_c t, e3, e4, e12, e13, e14, e15, e44, e45, hA0]
      clear e3 e4 e12 e13 e14 e15 e44 e45 hA0
      refine ru_o 10 fun K hK => ?_
      have kb_ := F36.bx2 0 rfl
      go_simp
      clear kb_
      replace F36 := F36.pt2 (.int .i64 ((brs l (stI l x dl (k + 1))).lo)) (.int .i64 ((brs l (stI l x dl (k + 1))).hi))
      refine ru_back_late hK (by kernel_rfl) ?_
      clear hK K
      (try simp only [lpX])
      refine ru_o 11 fun K hK => ?_
      go_simp
      refine ru_back_late hK (by kernel_rfl) ?_
      clear hK K
      (try simp only [lpX])
      refine ru_done (by kernel_rfl) ?_
      have Fn_ := F36
      (try dsimp only [lpF, lpG] at Fn_)
      obtain ⟨w38, hx39, F41, hxs40⟩ := Fn_.name
      (try simp at hxs40)
      rw [hx39]
      clear hx39 F36 Fn_
      by_cases c42 : s = 0
      ·
       obtain ⟨c42a, c42b⟩ := bqt c42
       have c42H := lhd c42
       clear c42
       by_cases c43 : soundV (stI l x dl (k + 1)) = 1
       ·
        obtain ⟨c43a, c43b⟩ := bqt c43
        have c43H := lhd c43
        clear c43
        by_cases c44 : need <= (brs l (stI l x dl (k + 1))).lo
        ·
         have c44H := lhd c44
         by_cases c45 : p = 0
         ·
          obtain ⟨c45a, c45b⟩ := bqt c45
          have c45H := lhd c45
          clear c45
          by_cases c46 : soundV (stI l x dl (k + 1)) = 2
          ·
           obtain ⟨c46a, c46b⟩ := bqt c46
           have c46H := lhd c46
           clear c46
           have b47 := F41.bx2 0 rfl
           go_wp2_with fail
           clear b47
           have F48 : Bun w [rsl iceEnc 8 lo_12 hi_12 (.slice (some ⟨x24, o25, none⟩) dl.length c_12) (runN l x dl dl.length), rbox w.heap.size 26 (froC l (.slice sa l.cov.length sc)), rsl weaEnc 6 lo2 hi2 (.slice da dl.length dc) dl, rsl covEnc 3 lo hi (.slice sa l.cov.length sc) l.cov] _ := F41.pick [1, 2, 3, 4] (by decide) rfl
           clear F41
           (first | refine ⟨by kernel_rfl, ?_, ?_⟩ | refine ⟨rfl, ?_, ?_⟩ | refine ⟨?_, ?_⟩)
           · rw [HI19.out]; exact ⟨k + 1, (k : Int) + 1, p, by (iterate 5 refine ⟨by kernel_rfl, ?_⟩); exact ⟨(by show Value.int .i64 ((k : Int) + 1) = _; simp), (by omega), (by rw [fstP_step Hs.out, if_pos c42H.out, if_pos ((sure_iff).2 ⟨c43H.out, c44H.out⟩)]), (by rw [fstP_step Hp.out, if_pos c45H.out, if_neg (fun h_ => ((perh_iff (HOI.out (k + 1) (by omega)) (HK.out (k + 1) (by omega))).1 h_).1 c46H.out)]; exact c45H.out), (by first | rfl | simp), (by first | omega | (simp; done) | (simp; omega)), F48⟩⟩
           · simp [slot, intOf]; omega
          obtain ⟨c46a, c46b⟩ := bqf c46
          have c46H := lhd c46
          clear c46
          by_cases c49 : need <= (brs l (stI l x dl (k + 1))).hi
          ·
           have c49H := lhd c49
           have b50 := F41.bx2 0 rfl
           go_wp2_with fail
           clear b50
           have F51 : Bun w [rsl iceEnc 8 lo_12 hi_12 (.slice (some ⟨x24, o25, none⟩) dl.length c_12) (runN l x dl dl.length), rbox w.heap.size 26 (froC l (.slice sa l.cov.length sc)), rsl weaEnc 6 lo2 hi2 (.slice da dl.length dc) dl, rsl covEnc 3 lo hi (.slice sa l.cov.length sc) l.cov] _ := F41.pick [1, 2, 3, 4] (by decide) rfl
           clear F41
           (first | refine ⟨by kernel_rfl, ?_, ?_⟩ | refine ⟨rfl, ?_, ?_⟩ | refine ⟨?_, ?_⟩)
           · rw [HI19.out]; exact ⟨k + 1, (k : Int) + 1, (k : Int) + 1, by (iterate 5 refine ⟨by kernel_rfl, ?_⟩); exact ⟨(by show Value.int .i64 ((k : Int) + 1) = _; simp), (by omega), (by rw [fstP_step Hs.out, if_pos c42H.out, if_pos ((sure_iff).2 ⟨c43H.out, c44H.out⟩)]), (by rw [fstP_step Hp.out, if_pos c45H.out, if_pos ((perh_iff (HOI.out (k + 1) (by omega)) (HK.out (k + 1) (by omega))).2 ⟨c46H.out, c49H.out⟩)]), (by first | rfl | simp), (by first | omega | (simp; done) | (simp; omega)), F51⟩⟩
           · simp [slot, intOf]; omega
          have c49H := lhd c49
          have c49a := dec_f c49
          have b52 := F41.bx2 0 rfl
          go_wp2_with fail
          clear b52
          have F53 : Bun w [rsl iceEnc 8 lo_12 hi_12 (.slice (some ⟨x24, o25, none⟩) dl.length c_12) (runN l x dl dl.length), rbox w.heap.size 26 (froC l (.slice sa l.cov.length sc)), rsl weaEnc 6 lo2 hi2 (.slice da dl.length dc) dl, rsl covEnc 3 lo hi (.slice sa l.cov.length sc) l.cov] _ := F41.pick [1, 2, 3, 4] (by decide) rfl
          clear F41
          (first | refine ⟨by kernel_rfl, ?_, ?_⟩ | refine ⟨rfl, ?_, ?_⟩ | refine ⟨?_, ?_⟩)
          · rw [HI19.out]; exact ⟨k + 1, (k : Int) + 1, p, by (iterate 5 refine ⟨by kernel_rfl, ?_⟩); exact ⟨(by show Value.int .i64 ((k : Int) + 1) = _; simp), (by omega), (by rw [fstP_step Hs.out, if_pos c42H.out, if_pos ((sure_iff).2 ⟨c43H.out, c44H.out⟩)]), (by rw [fstP_step Hp.out, if_pos c45H.out, if_neg (fun h_ => by have h1_ := c49H.out; have h2_ := ((perh_iff (HOI.out (k + 1) (by omega)) (HK.out (k + 1) (by omega))).1 h_).2; omega)]; exact c45H.out), (by first | rfl | simp), (by first | omega | (simp; done) | (simp; omega)), F53⟩⟩
          · simp [slot, intOf]; omega
         obtain ⟨c45a, c45b⟩ := bqf c45
         have c45H := lhd c45
         clear c45
         have b54 := F41.bx2 0 rfl
         go_wp2_with fail
         clear b54
         have F55 : Bun w [rsl iceEnc 8 lo_12 hi_12 (.slice (some ⟨x24, o25, none⟩) dl.length c_12) (runN l x dl dl.length), rbox w.heap.size 26 (froC l (.slice sa l.cov.length sc)), rsl weaEnc 6 lo2 hi2 (.slice da dl.length dc) dl, rsl covEnc 3 lo hi (.slice sa l.cov.length sc) l.cov] _ := F41.pick [1, 2, 3, 4] (by decide) rfl
         clear F41
         (first | refine ⟨by kernel_rfl, ?_, ?_⟩ | refine ⟨rfl, ?_, ?_⟩ | refine ⟨?_, ?_⟩)
         · rw [HI19.out]; exact ⟨k + 1, (k : Int) + 1, p, by (iterate 5 refine ⟨by kernel_rfl, ?_⟩); exact ⟨(by show Value.int .i64 ((k : Int) + 1) = _; simp), (by omega), (by rw [fstP_step Hs.out, if_pos c42H.out, if_pos ((sure_iff).2 ⟨c43H.out, c44H.out⟩)]), (by rw [fstP_step Hp.out, if_neg c45H.out]), (by first | rfl | simp), (by first | omega | (simp; done) | (simp; omega)), F55⟩⟩
         · simp [slot, intOf]; omega
        have c44H := lhd c44
        have c44a := dec_f c44
        by_cases c56 : p = 0
        ·
         obtain ⟨c56a, c56b⟩ := bqt c56
         have c56H := lhd c56
         clear c56
         by_cases c57 : soundV (stI l x dl (k + 1)) = 2
         ·
          obtain ⟨c57a, c57b⟩ := bqt c57
          have c57H := lhd c57
          clear c57
          have b58 := F41.bx2 0 rfl
          go_wp2_with fail
          clear b58
          have F59 : Bun w [rsl iceEnc 8 lo_12 hi_12 (.slice (some ⟨x24, o25, none⟩) dl.length c_12) (runN l x dl dl.length), rbox w.heap.size 26 (froC l (.slice sa l.cov.length sc)), rsl weaEnc 6 lo2 hi2 (.slice da dl.length dc) dl, rsl covEnc 3 lo hi (.slice sa l.cov.length sc) l.cov] _ := F41.pick [1, 2, 3, 4] (by decide) rfl
          clear F41
          (first | refine ⟨by kernel_rfl, ?_, ?_⟩ | refine ⟨rfl, ?_, ?_⟩ | refine ⟨?_, ?_⟩)
          · rw [HI19.out]; exact ⟨k + 1, s, p, by (iterate 5 refine ⟨by kernel_rfl, ?_⟩); exact ⟨(by show Value.int .i64 ((k : Int) + 1) = _; simp), (by omega), (by rw [fstP_step Hs.out, if_pos c42H.out, if_neg (fun h_ => by have h1_ := c44H.out; have h2_ := ((sure_iff).1 h_).2; omega)]; exact c42H.out), (by rw [fstP_step Hp.out, if_pos c56H.out, if_neg (fun h_ => ((perh_iff (HOI.out (k + 1) (by omega)) (HK.out (k + 1) (by omega))).1 h_).1 c57H.out)]; exact c56H.out), (by first | rfl | simp), (by first | omega | (simp; done) | (simp; omega)), F59⟩⟩
          · simp [slot, intOf]; omega
         obtain ⟨c57a, c57b⟩ := bqf c57
         have c57H := lhd c57
         clear c57
         by_cases c60 : need <= (brs l (stI l x dl (k + 1))).hi
         ·
          have c60H := lhd c60
          have b61 := F41.bx2 0 rfl
          go_wp2_with fail
          clear b61
          have F62 : Bun w [rsl iceEnc 8 lo_12 hi_12 (.slice (some ⟨x24, o25, none⟩) dl.length c_12) (runN l x dl dl.length), rbox w.heap.size 26 (froC l (.slice sa l.cov.length sc)), rsl weaEnc 6 lo2 hi2 (.slice da dl.length dc) dl, rsl covEnc 3 lo hi (.slice sa l.cov.length sc) l.cov] _ := F41.pick [1, 2, 3, 4] (by decide) rfl
          clear F41
          (first | refine ⟨by kernel_rfl, ?_, ?_⟩ | refine ⟨rfl, ?_, ?_⟩ | refine ⟨?_, ?_⟩)
          · rw [HI19.out]; exact ⟨k + 1, s, (k : Int) + 1, by (iterate 5 refine ⟨by kernel_rfl, ?_⟩); exact ⟨(by show Value.int .i64 ((k : Int) + 1) = _; simp), (by omega), (by rw [fstP_step Hs.out, if_pos c42H.out, if_neg (fun h_ => by have h1_ := c44H.out; have h2_ := ((sure_iff).1 h_).2; omega)]; exact c42H.out), (by rw [fstP_step Hp.out, if_pos c56H.out, if_pos ((perh_iff (HOI.out (k + 1) (by omega)) (HK.out (k + 1) (by omega))).2 ⟨c57H.out, c60H.out⟩)]), (by first | rfl | simp), (by first | omega | (simp; done) | (simp; omega)), F62⟩⟩
          · simp [slot, intOf]; omega
         have c60H := lhd c60
         have c60a := dec_f c60
         have b63 := F41.bx2 0 rfl
         go_wp2_with fail
         clear b63
         have F64 : Bun w [rsl iceEnc 8 lo_12 hi_12 (.slice (some ⟨x24, o25, none⟩) dl.length c_12) (runN l x dl dl.length), rbox w.heap.size 26 (froC l (.slice sa l.cov.length sc)), rsl weaEnc 6 lo2 hi2 (.slice da dl.length dc) dl, rsl covEnc 3 lo hi (.slice sa l.cov.length sc) l.cov] _ := F41.pick [1, 2, 3, 4] (by decide) rfl
         clear F41
         (first | refine ⟨by kernel_rfl, ?_, ?_⟩ | refine ⟨rfl, ?_, ?_⟩ | refine ⟨?_, ?_⟩)
         · rw [HI19.out]; exact ⟨k + 1, s, p, by (iterate 5 refine ⟨by kernel_rfl, ?_⟩); exact ⟨(by show Value.int .i64 ((k : Int) + 1) = _; simp), (by omega), (by rw [fstP_step Hs.out, if_pos c42H.out, if_neg (fun h_ => by have h1_ := c44H.out; have h2_ := ((sure_iff).1 h_).2; omega)]; exact c42H.out), (by rw [fstP_step Hp.out, if_pos c56H.out, if_neg (fun h_ => by have h1_ := c60H.out; have h2_ := ((perh_iff (HOI.out (k + 1) (by omega)) (HK.out (k + 1) (by omega))).1 h_).2; omega)]; exact c56H.out), (by first | rfl | simp), (by first | omega | (simp; done) | (simp; omega)), F64⟩⟩
         · simp [slot, intOf]; omega
        obtain ⟨c56a, c56b⟩ := bqf c56
        have c56H := lhd c56
        clear c56
        have b65 := F41.bx2 0 rfl
        go_wp2_with fail
        clear b65
        have F66 : Bun w [rsl iceEnc 8 lo_12 hi_12 (.slice (some ⟨x24, o25, none⟩) dl.length c_12) (runN l x dl dl.length), rbox w.heap.size 26 (froC l (.slice sa l.cov.length sc)), rsl weaEnc 6 lo2 hi2 (.slice da dl.length dc) dl, rsl covEnc 3 lo hi (.slice sa l.cov.length sc) l.cov] _ := F41.pick [1, 2, 3, 4] (by decide) rfl
        clear F41
        (first | refine ⟨by kernel_rfl, ?_, ?_⟩ | refine ⟨rfl, ?_, ?_⟩ | refine ⟨?_, ?_⟩)
        · rw [HI19.out]; exact ⟨k + 1, s, p, by (iterate 5 refine ⟨by kernel_rfl, ?_⟩); exact ⟨(by show Value.int .i64 ((k : Int) + 1) = _; simp), (by omega), (by rw [fstP_step Hs.out, if_pos c42H.out, if_neg (fun h_ => by have h1_ := c44H.out; have h2_ := ((sure_iff).1 h_).2; omega)]; exact c42H.out), (by rw [fstP_step Hp.out, if_neg c56H.out]), (by first | rfl | simp), (by first | omega | (simp; done) | (simp; omega)), F66⟩⟩
        · simp [slot, intOf]; omega
       obtain ⟨c43a, c43b⟩ := bqf c43
       have c43H := lhd c43
       clear c43
       by_cases c67 : p = 0
       ·
        obtain ⟨c67a, c67b⟩ := bqt c67
        have c67H := lhd c67
        clear c67
        by_cases c68 : soundV (stI l x dl (k + 1)) = 2
        ·
         obtain ⟨c68a, c68b⟩ := bqt c68
         have c68H := lhd c68
         clear c68
         go_wp2_with fail
         have F69 : Bun w [rsl iceEnc 8 lo_12 hi_12 (.slice (some ⟨x24, o25, none⟩) dl.length c_12) (runN l x dl dl.length), rbox w.heap.size 26 (froC l (.slice sa l.cov.length sc)), rsl weaEnc 6 lo2 hi2 (.slice da dl.length dc) dl, rsl covEnc 3 lo hi (.slice sa l.cov.length sc) l.cov] _ := F41.pick [1, 2, 3, 4] (by decide) rfl
         clear F41
         (first | refine ⟨by kernel_rfl, ?_, ?_⟩ | refine ⟨rfl, ?_, ?_⟩ | refine ⟨?_, ?_⟩)
         · rw [HI19.out]; exact ⟨k + 1, s, p, by (iterate 5 refine ⟨by kernel_rfl, ?_⟩); exact ⟨(by show Value.int .i64 ((k : Int) + 1) = _; simp), (by omega), (by rw [fstP_step Hs.out, if_pos c42H.out, if_neg (fun h_ => c43H.out ((sure_iff).1 h_).1)]; exact c42H.out), (by rw [fstP_step Hp.out, if_pos c67H.out, if_neg (fun h_ => ((perh_iff (HOI.out (k + 1) (by omega)) (HK.out (k + 1) (by omega))).1 h_).1 c68H.out)]; exact c67H.out), (by first | rfl | simp), (by first | omega | (simp; done) | (simp; omega)), F69⟩⟩
         · simp [slot, intOf]; omega
        obtain ⟨c68a, c68b⟩ := bqf c68
        have c68H := lhd c68
        clear c68
        by_cases c70 : need <= (brs l (stI l x dl (k + 1))).hi
        ·
         have c70H := lhd c70
         have b71 := F41.bx2 0 rfl
         go_wp2_with fail
         clear b71
         have F72 : Bun w [rsl iceEnc 8 lo_12 hi_12 (.slice (some ⟨x24, o25, none⟩) dl.length c_12) (runN l x dl dl.length), rbox w.heap.size 26 (froC l (.slice sa l.cov.length sc)), rsl weaEnc 6 lo2 hi2 (.slice da dl.length dc) dl, rsl covEnc 3 lo hi (.slice sa l.cov.length sc) l.cov] _ := F41.pick [1, 2, 3, 4] (by decide) rfl
         clear F41
         (first | refine ⟨by kernel_rfl, ?_, ?_⟩ | refine ⟨rfl, ?_, ?_⟩ | refine ⟨?_, ?_⟩)
         · rw [HI19.out]; exact ⟨k + 1, s, (k : Int) + 1, by (iterate 5 refine ⟨by kernel_rfl, ?_⟩); exact ⟨(by show Value.int .i64 ((k : Int) + 1) = _; simp), (by omega), (by rw [fstP_step Hs.out, if_pos c42H.out, if_neg (fun h_ => c43H.out ((sure_iff).1 h_).1)]; exact c42H.out), (by rw [fstP_step Hp.out, if_pos c67H.out, if_pos ((perh_iff (HOI.out (k + 1) (by omega)) (HK.out (k + 1) (by omega))).2 ⟨c68H.out, c70H.out⟩)]), (by first | rfl | simp), (by first | omega | (simp; done) | (simp; omega)), F72⟩⟩
         · simp [slot, intOf]; omega
        have c70H := lhd c70
        have c70a := dec_f c70
        have b73 := F41.bx2 0 rfl
        go_wp2_with fail
        clear b73
        have F74 : Bun w [rsl iceEnc 8 lo_12 hi_12 (.slice (some ⟨x24, o25, none⟩) dl.length c_12) (runN l x dl dl.length), rbox w.heap.size 26 (froC l (.slice sa l.cov.length sc)), rsl weaEnc 6 lo2 hi2 (.slice da dl.length dc) dl, rsl covEnc 3 lo hi (.slice sa l.cov.length sc) l.cov] _ := F41.pick [1, 2, 3, 4] (by decide) rfl
        clear F41
        (first | refine ⟨by kernel_rfl, ?_, ?_⟩ | refine ⟨rfl, ?_, ?_⟩ | refine ⟨?_, ?_⟩)
        · rw [HI19.out]; exact ⟨k + 1, s, p, by (iterate 5 refine ⟨by kernel_rfl, ?_⟩); exact ⟨(by show Value.int .i64 ((k : Int) + 1) = _; simp), (by omega), (by rw [fstP_step Hs.out, if_pos c42H.out, if_neg (fun h_ => c43H.out ((sure_iff).1 h_).1)]; exact c42H.out), (by rw [fstP_step Hp.out, if_pos c67H.out, if_neg (fun h_ => by have h1_ := c70H.out; have h2_ := ((perh_iff (HOI.out (k + 1) (by omega)) (HK.out (k + 1) (by omega))).1 h_).2; omega)]; exact c67H.out), (by first | rfl | simp), (by first | omega | (simp; done) | (simp; omega)), F74⟩⟩
        · simp [slot, intOf]; omega
       obtain ⟨c67a, c67b⟩ := bqf c67
       have c67H := lhd c67
       clear c67
       go_wp2_with fail
       have F75 : Bun w [rsl iceEnc 8 lo_12 hi_12 (.slice (some ⟨x24, o25, none⟩) dl.length c_12) (runN l x dl dl.length), rbox w.heap.size 26 (froC l (.slice sa l.cov.length sc)), rsl weaEnc 6 lo2 hi2 (.slice da dl.length dc) dl, rsl covEnc 3 lo hi (.slice sa l.cov.length sc) l.cov] _ := F41.pick [1, 2, 3, 4] (by decide) rfl
       clear F41
       (first | refine ⟨by kernel_rfl, ?_, ?_⟩ | refine ⟨rfl, ?_, ?_⟩ | refine ⟨?_, ?_⟩)
       · rw [HI19.out]; exact ⟨k + 1, s, p, by (iterate 5 refine ⟨by kernel_rfl, ?_⟩); exact ⟨(by show Value.int .i64 ((k : Int) + 1) = _; simp), (by omega), (by rw [fstP_step Hs.out, if_pos c42H.out, if_neg (fun h_ => c43H.out ((sure_iff).1 h_).1)]; exact c42H.out), (by rw [fstP_step Hp.out, if_neg c67H.out]), (by first | rfl | simp), (by first | omega | (simp; done) | (simp; omega)), F75⟩⟩
       · simp [slot, intOf]; omega
      obtain ⟨c42a, c42b⟩ := bqf c42
      have c42H := lhd c42
      clear c42
      by_cases c76 : p = 0
      ·
       obtain ⟨c76a, c76b⟩ := bqt c76
       have c76H := lhd c76
       clear c76
       by_cases c77 : soundV (stI l x dl (k + 1)) = 2
       ·
        obtain ⟨c77a, c77b⟩ := bqt c77
        have c77H := lhd c77
        clear c77
        go_wp2_with fail
        have F78 : Bun w [rsl iceEnc 8 lo_12 hi_12 (.slice (some ⟨x24, o25, none⟩) dl.length c_12) (runN l x dl dl.length), rbox w.heap.size 26 (froC l (.slice sa l.cov.length sc)), rsl weaEnc 6 lo2 hi2 (.slice da dl.length dc) dl, rsl covEnc 3 lo hi (.slice sa l.cov.length sc) l.cov] _ := F41.pick [1, 2, 3, 4] (by decide) rfl
        clear F41
        (first | refine ⟨by kernel_rfl, ?_, ?_⟩ | refine ⟨rfl, ?_, ?_⟩ | refine ⟨?_, ?_⟩)
        · rw [HI19.out]; exact ⟨k + 1, s, p, by (iterate 5 refine ⟨by kernel_rfl, ?_⟩); exact ⟨(by show Value.int .i64 ((k : Int) + 1) = _; simp), (by omega), (by rw [fstP_step Hs.out, if_neg c42H.out]), (by rw [fstP_step Hp.out, if_pos c76H.out, if_neg (fun h_ => ((perh_iff (HOI.out (k + 1) (by omega)) (HK.out (k + 1) (by omega))).1 h_).1 c77H.out)]; exact c76H.out), (by first | rfl | simp), (by first | omega | (simp; done) | (simp; omega)), F78⟩⟩
        · simp [slot, intOf]; omega
       obtain ⟨c77a, c77b⟩ := bqf c77
       have c77H := lhd c77
       clear c77
       by_cases c79 : need <= (brs l (stI l x dl (k + 1))).hi
       ·
        have c79H := lhd c79
        have b80 := F41.bx2 0 rfl
        go_wp2_with fail
        clear b80
        have F81 : Bun w [rsl iceEnc 8 lo_12 hi_12 (.slice (some ⟨x24, o25, none⟩) dl.length c_12) (runN l x dl dl.length), rbox w.heap.size 26 (froC l (.slice sa l.cov.length sc)), rsl weaEnc 6 lo2 hi2 (.slice da dl.length dc) dl, rsl covEnc 3 lo hi (.slice sa l.cov.length sc) l.cov] _ := F41.pick [1, 2, 3, 4] (by decide) rfl
        clear F41
        (first | refine ⟨by kernel_rfl, ?_, ?_⟩ | refine ⟨rfl, ?_, ?_⟩ | refine ⟨?_, ?_⟩)
        · rw [HI19.out]; exact ⟨k + 1, s, (k : Int) + 1, by (iterate 5 refine ⟨by kernel_rfl, ?_⟩); exact ⟨(by show Value.int .i64 ((k : Int) + 1) = _; simp), (by omega), (by rw [fstP_step Hs.out, if_neg c42H.out]), (by rw [fstP_step Hp.out, if_pos c76H.out, if_pos ((perh_iff (HOI.out (k + 1) (by omega)) (HK.out (k + 1) (by omega))).2 ⟨c77H.out, c79H.out⟩)]), (by first | rfl | simp), (by first | omega | (simp; done) | (simp; omega)), F81⟩⟩
        · simp [slot, intOf]; omega
       have c79H := lhd c79
       have c79a := dec_f c79
       have b82 := F41.bx2 0 rfl
       go_wp2_with fail
       clear b82
       have F83 : Bun w [rsl iceEnc 8 lo_12 hi_12 (.slice (some ⟨x24, o25, none⟩) dl.length c_12) (runN l x dl dl.length), rbox w.heap.size 26 (froC l (.slice sa l.cov.length sc)), rsl weaEnc 6 lo2 hi2 (.slice da dl.length dc) dl, rsl covEnc 3 lo hi (.slice sa l.cov.length sc) l.cov] _ := F41.pick [1, 2, 3, 4] (by decide) rfl
       clear F41
       (first | refine ⟨by kernel_rfl, ?_, ?_⟩ | refine ⟨rfl, ?_, ?_⟩ | refine ⟨?_, ?_⟩)
       · rw [HI19.out]; exact ⟨k + 1, s, p, by (iterate 5 refine ⟨by kernel_rfl, ?_⟩); exact ⟨(by show Value.int .i64 ((k : Int) + 1) = _; simp), (by omega), (by rw [fstP_step Hs.out, if_neg c42H.out]), (by rw [fstP_step Hp.out, if_pos c76H.out, if_neg (fun h_ => by have h1_ := c79H.out; have h2_ := ((perh_iff (HOI.out (k + 1) (by omega)) (HK.out (k + 1) (by omega))).1 h_).2; omega)]; exact c76H.out), (by first | rfl | simp), (by first | omega | (simp; done) | (simp; omega)), F83⟩⟩
       · simp [slot, intOf]; omega
      obtain ⟨c76a, c76b⟩ := bqf c76
      have c76H := lhd c76
      clear c76
      go_wp2_with fail
      have F84 : Bun w [rsl iceEnc 8 lo_12 hi_12 (.slice (some ⟨x24, o25, none⟩) dl.length c_12) (runN l x dl dl.length), rbox w.heap.size 26 (froC l (.slice sa l.cov.length sc)), rsl weaEnc 6 lo2 hi2 (.slice da dl.length dc) dl, rsl covEnc 3 lo hi (.slice sa l.cov.length sc) l.cov] _ := F41.pick [1, 2, 3, 4] (by decide) rfl
      clear F41
      (first | refine ⟨by kernel_rfl, ?_, ?_⟩ | refine ⟨rfl, ?_, ?_⟩ | refine ⟨?_, ?_⟩)
      · rw [HI19.out]; exact ⟨k + 1, s, p, by (iterate 5 refine ⟨by kernel_rfl, ?_⟩); exact ⟨(by show Value.int .i64 ((k : Int) + 1) = _; simp), (by omega), (by rw [fstP_step Hs.out, if_neg c42H.out]), (by rw [fstP_step Hp.out, if_neg c76H.out]), (by first | rfl | simp), (by first | omega | (simp; done) | (simp; omega)), F84⟩⟩
      · simp [slot, intOf]; omega
    have c23H := lhd c23
    have c23a := dec_f c23
    have Hx85 := lhd (show (readyS l x dl need) = s by rw [readyS, if_pos (by rw [readyE, if_neg (not_not_intro c10H.out), if_neg c11o]), Hs.out, show k = dl.length by omega])
    have Hx86 := lhd (show (readyP l x dl need) = p by rw [readyP, if_pos (by rw [readyE, if_neg (not_not_intro c10H.out), if_neg c11o]), Hp.out, show k = dl.length by omega])
    have Hx87 := lhd (show (readyE l x dl need) = 0 by rw [readyE, if_neg (not_not_intro c10H.out), if_neg c11o])
    go_wp2_with fail
    exact bodyPost_ret (v := .tuple #[.int .i64 s, .int .i64 p, .int .i64 0]) (by simp [results, Tryz.results35, go_sem]) rfl (⟨by rw [Hx85.out, Hx86.out, Hx87.out] <;> rfl, hF20.gb⟩)
   case atStart1 =>
    rw [HI19.out]
    exact ⟨0, 0, 0, (by kernel_rfl), (by kernel_rfl), rfl, rfl, (by kernel_rfl), rfl, Nat.zero_le _, rfl, rfl, rfl, (by first | exact Nat.le_refl _ | omega | (simp; done) | (simp; omega)), (F1.drop 1 rfl)⟩
  have c11o := outB_t c11
  have c11H := lhd c11o
  have Hx88 := lhd (show (readyS l x dl need) = 0 by rw [readyS, if_neg (by rw [readyE, if_neg (not_not_intro c10H.out), if_pos c11o]; omega)])
  have Hx89 := lhd (show (readyP l x dl need) = 0 by rw [readyP, if_neg (by rw [readyE, if_neg (not_not_intro c10H.out), if_pos c11o]; omega)])
  have Hx90 := lhd (show (readyE l x dl need) = 2 by rw [readyE, if_neg (not_not_intro c10H.out), if_pos c11o])
  go_wp2_with fail
  exact bodyPost_ret (v := .tuple #[.int .i64 0, .int .i64 0, .int .i64 2]) (by simp [results, Tryz.results35, go_sem]) rfl (⟨by rw [Hx88.out, Hx89.out, Hx90.out] <;> rfl, F1.gb⟩)
 obtain ⟨c10a, c10b⟩ := bqf c10
 have c10H := lhd c10
 clear c10
 have Hx91 := lhd (show (readyS l x dl need) = 0 by rw [readyS, if_neg (by rw [readyE, if_pos c10H.out]; exact c10H.out)])
 have Hx92 := lhd (show (readyP l x dl need) = 0 by rw [readyP, if_neg (by rw [readyE, if_pos c10H.out]; exact c10H.out)])
 have Hx93 := lhd (show (readyE l x dl need) = allE l x dl by rw [readyE, if_pos c10H.out])
 go_wp2_with fail
 exact bodyPost_ret (v := .tuple #[.int .i64 0, .int .i64 0, .int .i64 (allE l x dl)]) (by simp [results, Tryz.results35, go_sem]) rfl (⟨by rw [Hx91.out, Hx92.out, Hx93.out] <;> rfl, F1.gb⟩)
end Go.Proofs.YtkclabflkocbaaaGreat
