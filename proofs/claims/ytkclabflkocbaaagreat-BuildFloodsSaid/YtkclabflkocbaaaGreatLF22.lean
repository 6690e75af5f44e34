/- the reference of frost: a day. -/
import Derived.Test.YtkclabflkocbaaaGreatLF20
import Derived.Test.YtkclabflkocbaaaGreatLF21
import Derived.Test.YtkclabflkocbaaaGreatLK1
set_option linter.unusedVariables false
set_option linter.unusedSimpArgs false
set_option linter.unnecessarySimpa false
namespace Go.Proofs.YtkclabflkocbaaaGreat
open Go.RowKit
set_option maxRecDepth 100000
abbrev oL (l : Fro) (x : Ice) (d : Wea) := opn l (lowT x) d d.fall.lo
abbrev oH (l : Fro) (x : Ice) (d : Wea) := opn l (hiT x) d d.fall.hi
theorem rng_rstep_c (t : Nat -> Value) : ((List.range 93).map t).toArray = List.toArray [t 0, t 1, t 2, t 3, t 4, t 5, t 6, t 7, t 8, t 9, t 10, t 11, t 12, t 13, t 14, t 15, t 16, t 17, t 18, t 19, t 20, t 21, t 22, t 23, t 24, t 25, t 26, t 27, t 28, t 29, t 30, t 31, t 32, t 33, t 34, t 35, t 36, t 37, t 38, t 39, t 40, t 41, t 42, t 43, t 44, t 45, t 46, t 47, t 48, t 49, t 50, t 51, t 52, t 53, t 54, t 55, t 56, t 57, t 58, t 59, t 60, t 61, t 62, t 63, t 64, t 65, t 66, t 67, t 68, t 69, t 70, t 71, t 72, t 73, t 74, t 75, t 76, t 77, t 78, t 79, t 80, t 81, t 82, t 83, t 84, t 85, t 86, t 87, t 88, t 89, t 90, t 91, t 92] := rfl
set_option maxHeartbeats 16000000 in
theorem rstep_c (lo hi : Nat) (v : Value) (l : Fro) (x : Ice) (k : Int) (d : Wea) (w : World) (hl : Sl covEnc 3 lo hi w v l.cov) (h2 : hi <= w.heap.size) (hL : LawOk l) (hx : IceK x k k) (hk : 0 <= k /\ k <= 400) (hd : WeaOk d) :
  Calls Tryz.prog 83 #[.agg (froC l v), .agg (iceC x), .agg (weaC d d.clear)] w (Ret (.agg #[.int .i64 ((aft l x d).bl.lo), .int .i64 ((aft l x d).bl.hi), .int .i64 ((aft l x d).wh.lo), .int .i64 ((aft l x d).wh.hi), .int .i64 ((aft l x d).we.lo), .int .i64 ((aft l x d).we.hi), .int .i64 ((aft l x d).sn.lo), .int .i64 ((aft l x d).sn.hi)]) w) := by
 have F1 : Bun w [] w := Bun.nil _
 have hm_cs := hl.len
 unfold maxLen at hm_cs
 obtain ⟨sa, sc, rfl⟩ := hl.any
 replace F1 := F1.sl0 hl h2 rfl
 clear hl
 have hdc := hd.cold
 have hdf := hd.fall
 have HLO := lhd (opn_K hL (lowT_K hx) hd (f := d.fall.lo) (by omega))
 have HHI := lhd (opn_K hL (hiT_K hx) hd (f := d.fall.hi) (by omega))
 have HL := lhd hL
 have HX := lhd hx
 have HD := lhd hd
 clear hL hx hd
 go_enter Tryz.func83, Tryz.ntmps83
 go_wp2_with fail
 replace F1 := F1.new 26 (froC l (.slice sa l.cov.length sc)) (n := w.heap.size) (by simp)
 replace F1 := F1.new 28 (iceC x) (n := (w.heap.size + 1)) (by simp)
 replace F1 := F1.new 77 (weaC d d.clear) (n := (w.heap.size + 2)) (by simp)
 replace F1 := F1.new 28 (z8) (n := (w.heap.size + 3)) (by simp)
 have Fn_ := F1
 (try dsimp only [lpF, lpG] at Fn_)
 obtain ⟨w7, hx8, F10, hxs9⟩ := Fn_.name
 (try simp at hxs9)
 rw [hx8]
 clear hx8 F1 Fn_
 replace F10 := F10.drew
 refine ru_begin (fun W => W.cell? ⟨w.heap.size, 0, none⟩ = some (.int .i64 l.gr) /\ W.cell? ⟨w.heap.size, 1, none⟩ = some (.int .i64 l.la) /\ W.cell? ⟨w.heap.size, 2, none⟩ = some (.slice sa l.cov.length sc) /\ W.cell? ⟨w.heap.size, 3, none⟩ = some (.int .i64 l.melt.lo) /\ W.cell? ⟨w.heap.size, 4, none⟩ = some (.int .i64 l.melt.hi) /\ W.cell? ⟨w.heap.size, 5, none⟩ = some (.int .i64 l.soak) /\ W.cell? ⟨w.heap.size, 6, none⟩ = some (.int .i64 l.white.lo) /\ W.cell? ⟨w.heap.size, 7, none⟩ = some (.int .i64 l.white.hi) /\ W.cell? ⟨(w.heap.size + 1), 0, none⟩ = some (.int .i64 x.bl.lo) /\ W.cell? ⟨(w.heap.size + 1), 1, none⟩ = some (.int .i64 x.bl.hi) /\ W.cell? ⟨(w.heap.size + 1), 2, none⟩ = some (.int .i64 x.wh.lo) /\ W.cell? ⟨(w.heap.size + 1), 3, none⟩ = some (.int .i64 x.wh.hi) /\ W.cell? ⟨(w.heap.size + 1), 4, none⟩ = some (.int .i64 x.we.lo) /\ W.cell? ⟨(w.heap.size + 1), 5, none⟩ = some (.int .i64 x.we.hi) /\ W.cell? ⟨(w.heap.size + 1), 6, none⟩ = some (.int .i64 x.sn.lo) /\ W.cell? ⟨(w.heap.size + 1), 7, none⟩ = some (.int .i64 x.sn.hi) /\ W.cell? ⟨(w.heap.size + 2), 0, none⟩ = some (.int .i64 d.cold.lo) /\ W.cell? ⟨(w.heap.size + 2), 1, none⟩ = some (.int .i64 d.cold.hi) /\ W.cell? ⟨(w.heap.size + 2), 2, none⟩ = some (.int .i64 d.fall.lo) /\ W.cell? ⟨(w.heap.size + 2), 3, none⟩ = some (.int .i64 d.fall.hi) /\ W.cell? ⟨(w.heap.size + 2), 4, none⟩ = some (.int .i64 d.water) /\ W.cell? ⟨(w.heap.size + 2), 5, none⟩ = some (.bool d.clear)) 19 (by kernel_rfl) ?_ ?_
 · exact ⟨F10.q 3 0, F10.q 3 1, F10.q 3 2, F10.q 3 3, F10.q 3 4, F10.q 3 5, F10.q 3 6, F10.q 3 7, F10.q 2 0, F10.q 2 1, F10.q 2 2, F10.q 2 3, F10.q 2 4, F10.q 2 5, F10.q 2 6, F10.q 2 7, F10.q 1 0, F10.q 1 1, F10.q 1 2, F10.q 1 3, F10.q 1 4, F10.q 1 5⟩
 obtain ⟨wd13, hwd_⟩ : ∃ x : World, w7.drew = x := ⟨_, rfl⟩
 rw [hwd_] at F10 ⊢
 have wd13s : w7.heap.size <= wd13.heap.size := by rw [← hwd_]; exact Nat.le_refl _
 clear hwd_
 have hS12 := (And.intro (F10.q 3 0) (And.intro (F10.q 3 1) (And.intro (F10.q 3 2) (And.intro (F10.q 3 3) (And.intro (F10.q 3 4) (And.intro (F10.q 3 5) (And.intro (F10.q 3 6) (And.intro (F10.q 3 7) (And.intro (F10.q 2 0) (And.intro (F10.q 2 1) (And.intro (F10.q 2 2) (And.intro (F10.q 2 3) (And.intro (F10.q 2 4) (And.intro (F10.q 2 5) (And.intro (F10.q 2 6) (And.intro (F10.q 2 7) (And.intro (F10.q 1 0) (And.intro (F10.q 1 1) (And.intro (F10.q 1 2) (And.intro (F10.q 1 3) (And.intro (F10.q 1 4) (F10.q 1 5))))))))))))))))))))))
 refine ru_t 0 [] ?_
 refine ru_t 1 [] ?_
 refine ru_t 3 [] ?_
 refine ru_t 4 [] ?_
 refine ru_t 5 [] ?_
 refine ru_t 6 [] ?_
 refine ru_t 8 [] ?_
 refine ru_t 9 [] ?_
 refine ru_t 11 [] ?_
 refine ru_t 12 [] ?_
 refine ru_t 13 [] ?_
 refine ru_t 14 [] ?_
 (try simp only [lpX])
 clear hS12
 have hSS : ∀ (LA : List Res) (W : World), Bun w ([rbox (w.heap.size + 3) 28 (z8), rbox (w.heap.size + 2) 77 (weaC d d.clear), rbox (w.heap.size + 1) 28 (iceC x), rbox w.heap.size 26 (froC l (.slice sa l.cov.length sc)), rsl covEnc 3 lo hi (.slice sa l.cov.length sc) l.cov] ++ LA) W /\ w7.heap.size <= W.heap.size -> W.cell? ⟨w.heap.size, 0, none⟩ = some (.int .i64 l.gr) /\ W.cell? ⟨w.heap.size, 1, none⟩ = some (.int .i64 l.la) /\ W.cell? ⟨w.heap.size, 2, none⟩ = some (.slice sa l.cov.length sc) /\ W.cell? ⟨w.heap.size, 3, none⟩ = some (.int .i64 l.melt.lo) /\ W.cell? ⟨w.heap.size, 4, none⟩ = some (.int .i64 l.melt.hi) /\ W.cell? ⟨w.heap.size, 5, none⟩ = some (.int .i64 l.soak) /\ W.cell? ⟨w.heap.size, 6, none⟩ = some (.int .i64 l.white.lo) /\ W.cell? ⟨w.heap.size, 7, none⟩ = some (.int .i64 l.white.hi) /\ W.cell? ⟨(w.heap.size + 1), 0, none⟩ = some (.int .i64 x.bl.lo) /\ W.cell? ⟨(w.heap.size + 1), 1, none⟩ = some (.int .i64 x.bl.hi) /\ W.cell? ⟨(w.heap.size + 1), 2, none⟩ = some (.int .i64 x.wh.lo) /\ W.cell? ⟨(w.heap.size + 1), 3, none⟩ = some (.int .i64 x.wh.hi) /\ W.cell? ⟨(w.heap.size + 1), 4, none⟩ = some (.int .i64 x.we.lo) /\ W.cell? ⟨(w.heap.size + 1), 5, none⟩ = some (.int .i64 x.we.hi) /\ W.cell? ⟨(w.heap.size + 1), 6, none⟩ = some (.int .i64 x.sn.lo) /\ W.cell? ⟨(w.heap.size + 1), 7, none⟩ = some (.int .i64 x.sn.hi) /\ W.cell? ⟨(w.heap.size + 2), 0, none⟩ = some (.int .i64 d.cold.lo) /\ W.cell? ⟨(w.heap.size + 2), 1, none⟩ = some (.int .i64 d.cold.hi) /\ W.cell? ⟨(w.heap.size + 2), 2, none⟩ = some (.int .i64 d.fall.lo) /\ W.cell? ⟨(w.heap.size + 2), 3, none⟩ = some (.int .i64 d.fall.hi) /\ W.cell? ⟨(w.heap.size + 2), 4, none⟩ = some (.int .i64 d.water) /\ W.cell? ⟨(w.heap.size + 2), 5, none⟩ = some (.bool d.clear) := fun _ _ ⟨F_, _⟩ => ⟨F_.q 3 0, F_.q 3 1, F_.q 3 2, F_.q 3 3, F_.q 3 4, F_.q 3 5, F_.q 3 6, F_.q 3 7, F_.q 2 0, F_.q 2 1, F_.q 2 2, F_.q 2 3, F_.q 2 4, F_.q 2 5, F_.q 2 6, F_.q 2 7, F_.q 1 0, F_.q 1 1, F_.q 1 2, F_.q 1 3, F_.q 1 4, F_.q 1 5⟩
 refine ru_mix (goodBunS _ w7.heap.size) 93 [⟨16, 7, 158, #[.int .i64 0, .int .i64 0, .int .i64 0, .int .i64 0], ptrOf⟩, ⟨17, 8, 158, #[.int .i64 0, .int .i64 0, .int .i64 0, .int .i64 0], ptrOf⟩] [2, 7, 10, 15] 2 (by kernel_rfl) (by kernel_rfl) (fun _ _ _ _ _ h => h) (V := fun t => True) (U0 := (fun t => t 3 = .pointer (some ⟨w.heap.size, 0, none⟩) /\ t 5 = .pointer (some ⟨w.heap.size + 2, 0, none⟩) /\ t 6 = .pointer (some ⟨w.heap.size + 3, 0, none⟩) /\ t 11 = .agg (froC l (.slice sa l.cov.length sc)) /\ t 12 = .agg (iceC x) /\ t 14 = .agg (weaC d d.clear) /\ t 17 = .int .i64 d.fall.lo /\ t 19 = .agg (froC l (.slice sa l.cov.length sc)) /\ t 20 = .agg (iceC x) /\ t 22 = .agg (weaC d d.clear) /\ t 25 = .int .i64 d.fall.hi)) (Um := (fun t => t 3 = .pointer (some ⟨w.heap.size, 0, none⟩) /\ t 5 = .pointer (some ⟨w.heap.size + 2, 0, none⟩) /\ t 6 = .pointer (some ⟨w.heap.size + 3, 0, none⟩) /\ t 18 = .agg #[.int .i64 ((oL l x d).bl), .int .i64 ((oL l x d).wh), .int .i64 ((oL l x d).we), .int .i64 ((oL l x d).sn)] /\ t 26 = .agg #[.int .i64 ((oH l x d).bl), .int .i64 ((oH l x d).wh), .int .i64 ((oH l x d).we), .int .i64 ((oH l x d).sn)])) (L0 := [rbox (w.heap.size + 3) 28 (z8), rbox (w.heap.size + 2) 77 (weaC d d.clear), rbox (w.heap.size + 1) 28 (iceC x), rbox w.heap.size 26 (froC l (.slice sa l.cov.length sc)), rsl covEnc 3 lo hi (.slice sa l.cov.length sc) l.cov]) (Lm := [rbox (w.heap.size + 3) 28 (z8), rbox (w.heap.size + 2) 77 (weaC d d.clear), rbox (w.heap.size + 1) 28 (iceC x), rbox w.heap.size 26 (froC l (.slice sa l.cov.length sc)), rsl covEnc 3 lo hi (.slice sa l.cov.length sc) l.cov]) ?chM14 ?alM14 ⟨(by kernel_rfl), rfl, ⟨(by kernel_rfl), (by kernel_rfl), (by kernel_rfl), (by kernel_rfl), (by kernel_rfl), (by kernel_rfl), (by kernel_rfl), (by kernel_rfl), (by kernel_rfl), (by kernel_rfl), (by kernel_rfl)⟩⟩ ⟨F10, (by first | assumption | omega)⟩ ?restM14
 case chM14 =>
  refine Chain.callS 2 (fun t => t 3 = .pointer (some ⟨w.heap.size, 0, none⟩) /\ t 5 = .pointer (some ⟨w.heap.size + 2, 0, none⟩) /\ t 6 = .pointer (some ⟨w.heap.size + 3, 0, none⟩) /\ t 11 = .agg (froC l (.slice sa l.cov.length sc)) /\ t 13 = .agg #[.int .i64 ((lowT x).bl), .int .i64 ((lowT x).wh), .int .i64 ((lowT x).we), .int .i64 ((lowT x).sn)] /\ t 14 = .agg (weaC d d.clear) /\ t 17 = .int .i64 d.fall.lo /\ t 19 = .agg (froC l (.slice sa l.cov.length sc)) /\ t 20 = .agg (iceC x) /\ t 22 = .agg (weaC d d.clear) /\ t 25 = .int .i64 d.fall.hi) (lfm ⟨fun _ _ u => u, lfm ⟨fun _ _ u => u, fun _ h => (by cases h)⟩⟩) hSS (fun t ⟨e3, e5, e6, e11, e12, e14, e17, e19, e20, e22, e25⟩ => trivial) (by kernel_rfl) ?_ ?_
  ·
   rintro t w_ LA ⟨e3, e5, e6, e11, e12, e14, e17, e19, e20, e22, e25⟩ ⟨F_, hwn_⟩
   have hws := F_.gb.size
   rw [rng_rstep_c t, e3, e5, e6, e11, e12, e14, e17, e19, e20, e22, e25]
   clear e3 e5 e6 e11 e12 e14 e17 e19 e20 e22 e25
   refine wpOp_stepH rfl (fun K hK => ?_)
   go_simp
   refine (least_c x _).mono ?_
   rintro e w15 ⟨rfl, hg16⟩
   exact hK.out _ _ ⟨(by kernel_rfl), rfl, ⟨(by kernel_rfl), (by kernel_rfl), (by kernel_rfl), (by kernel_rfl), (by kernel_rfl), (by kernel_rfl), (by kernel_rfl), (by kernel_rfl), (by kernel_rfl), (by kernel_rfl), (by kernel_rfl)⟩, lfm ⟨(by kernel_rfl), lfm ⟨(by kernel_rfl), fun _ h => (by cases h)⟩⟩, ⟨F_.gn hg16, Nat.le_trans hwn_ hg16.size⟩, hSS _ _ ⟨F_.gn hg16, Nat.le_trans hwn_ hg16.size⟩⟩
  refine Chain.callS 7 (fun t => t 3 = .pointer (some ⟨w.heap.size, 0, none⟩) /\ t 5 = .pointer (some ⟨w.heap.size + 2, 0, none⟩) /\ t 6 = .pointer (some ⟨w.heap.size + 3, 0, none⟩) /\ t 18 = .agg #[.int .i64 ((oL l x d).bl), .int .i64 ((oL l x d).wh), .int .i64 ((oL l x d).we), .int .i64 ((oL l x d).sn)] /\ t 19 = .agg (froC l (.slice sa l.cov.length sc)) /\ t 20 = .agg (iceC x) /\ t 22 = .agg (weaC d d.clear) /\ t 25 = .int .i64 d.fall.hi) (lfm ⟨fun _ _ u => u, lfm ⟨fun _ _ u => u, fun _ h => (by cases h)⟩⟩) hSS (fun t ⟨e3, e5, e6, e11, e13, e14, e17, e19, e20, e22, e25⟩ => trivial) (by kernel_rfl) ?_ ?_
  ·
   rintro t w_ LA ⟨e3, e5, e6, e11, e13, e14, e17, e19, e20, e22, e25⟩ ⟨F_, hwn_⟩
   have hws := F_.gb.size
   rw [rng_rstep_c t, e3, e5, e6, e11, e13, e14, e17, e19, e20, e22, e25]
   clear e3 e5 e6 e11 e13 e14 e17 e19 e20 e22 e25
   refine wpOp_stepH rfl (fun K hK => ?_)
   go_simp
   refine (opened_c lo hi _ l (lowT x) k k d d.fall.lo _ (F_.s 4 rfl) (Nat.le_trans h2 F_.gb.size) HL.out (lowT_K HX.out) (by omega) HD.out (by omega)).mono ?_
   rintro e w18 ⟨rfl, hg19⟩
   exact hK.out _ _ ⟨(by kernel_rfl), rfl, ⟨(by kernel_rfl), (by kernel_rfl), (by kernel_rfl), (by kernel_rfl), (by kernel_rfl), (by kernel_rfl), (by kernel_rfl), (by kernel_rfl)⟩, lfm ⟨(by kernel_rfl), lfm ⟨(by kernel_rfl), fun _ h => (by cases h)⟩⟩, ⟨F_.gn hg19, Nat.le_trans hwn_ hg19.size⟩, hSS _ _ ⟨F_.gn hg19, Nat.le_trans hwn_ hg19.size⟩⟩
  refine Chain.callS 10 (fun t => t 3 = .pointer (some ⟨w.heap.size, 0, none⟩) /\ t 5 = .pointer (some ⟨w.heap.size + 2, 0, none⟩) /\ t 6 = .pointer (some ⟨w.heap.size + 3, 0, none⟩) /\ t 18 = .agg #[.int .i64 ((oL l x d).bl), .int .i64 ((oL l x d).wh), .int .i64 ((oL l x d).we), .int .i64 ((oL l x d).sn)] /\ t 19 = .agg (froC l (.slice sa l.cov.length sc)) /\ t 21 = .agg #[.int .i64 ((hiT x).bl), .int .i64 ((hiT x).wh), .int .i64 ((hiT x).we), .int .i64 ((hiT x).sn)] /\ t 22 = .agg (weaC d d.clear) /\ t 25 = .int .i64 d.fall.hi) (lfm ⟨fun _ _ u => u, lfm ⟨fun _ _ u => u, fun _ h => (by cases h)⟩⟩) hSS (fun t ⟨e3, e5, e6, e18, e19, e20, e22, e25⟩ => trivial) (by kernel_rfl) ?_ ?_
  ·
   rintro t w_ LA ⟨e3, e5, e6, e18, e19, e20, e22, e25⟩ ⟨F_, hwn_⟩
   have hws := F_.gb.size
   rw [rng_rstep_c t, e3, e5, e6, e18, e19, e20, e22, e25]
   clear e3 e5 e6 e18 e19 e20 e22 e25
   refine wpOp_stepH rfl (fun K hK => ?_)
   go_simp
   refine (greatest_c x _).mono ?_
   rintro e w21 ⟨rfl, hg22⟩
   exact hK.out _ _ ⟨(by kernel_rfl), rfl, ⟨(by kernel_rfl), (by kernel_rfl), (by kernel_rfl), (by kernel_rfl), (by kernel_rfl), (by kernel_rfl), (by kernel_rfl), (by kernel_rfl)⟩, lfm ⟨(by kernel_rfl), lfm ⟨(by kernel_rfl), fun _ h => (by cases h)⟩⟩, ⟨F_.gn hg22, Nat.le_trans hwn_ hg22.size⟩, hSS _ _ ⟨F_.gn hg22, Nat.le_trans hwn_ hg22.size⟩⟩
  refine Chain.callS 15 (fun t => t 3 = .pointer (some ⟨w.heap.size, 0, none⟩) /\ t 5 = .pointer (some ⟨w.heap.size + 2, 0, none⟩) /\ t 6 = .pointer (some ⟨w.heap.size + 3, 0, none⟩) /\ t 18 = .agg #[.int .i64 ((oL l x d).bl), .int .i64 ((oL l x d).wh), .int .i64 ((oL l x d).we), .int .i64 ((oL l x d).sn)] /\ t 26 = .agg #[.int .i64 ((oH l x d).bl), .int .i64 ((oH l x d).wh), .int .i64 ((oH l x d).we), .int .i64 ((oH l x d).sn)]) (lfm ⟨fun _ _ u => u, lfm ⟨fun _ _ u => u, fun _ h => (by cases h)⟩⟩) hSS (fun t ⟨e3, e5, e6, e18, e19, e21, e22, e25⟩ => trivial) (by kernel_rfl) ?_ ?_
  ·
   rintro t w_ LA ⟨e3, e5, e6, e18, e19, e21, e22, e25⟩ ⟨F_, hwn_⟩
   have hws := F_.gb.size
   rw [rng_rstep_c t, e3, e5, e6, e18, e19, e21, e22, e25]
   clear e3 e5 e6 e18 e19 e21 e22 e25
   refine wpOp_stepH rfl (fun K hK => ?_)
   go_simp
   refine (opened_c lo hi _ l (hiT x) k k d d.fall.hi _ (F_.s 4 rfl) (Nat.le_trans h2 F_.gb.size) HL.out (hiT_K HX.out) (by omega) HD.out (by omega)).mono ?_
   rintro e w24 ⟨rfl, hg25⟩
   exact hK.out _ _ ⟨(by kernel_rfl), rfl, ⟨(by kernel_rfl), (by kernel_rfl), (by kernel_rfl), (by kernel_rfl), (by kernel_rfl)⟩, lfm ⟨(by kernel_rfl), lfm ⟨(by kernel_rfl), fun _ h => (by cases h)⟩⟩, ⟨F_.gn hg25, Nat.le_trans hwn_ hg25.size⟩, hSS _ _ ⟨F_.gn hg25, Nat.le_trans hwn_ hg25.size⟩⟩
  exact Chain.nil _ _ _ (lfm ⟨fun _ _ u => u, lfm ⟨fun _ _ u => u, fun _ h => (by cases h)⟩⟩) hSS (fun t ⟨e3, e5, e6, e18, e26⟩ => trivial)
 case alM14 => exact lfm ⟨fun _ _ _ _ h => wpOp_step rfl (fun K hK => by go_simp; exact hK _ _ h), lfm ⟨fun _ _ _ _ h => wpOp_step rfl (fun K hK => by go_simp; exact hK _ _ h), fun _ h => (by cases h)⟩⟩
 case restM14 =>
  rintro t w29 g ⟨e3, e5, e6, e18, e26⟩ hA ⟨F_, hwnM14⟩
  clear hSS
  clear F10
  have hA0 : t 7 = .pointer (some ⟨g 16, 0, none⟩) := hA _ (.head _)
  have hA1 : t 8 = .pointer (some ⟨g 17, 0, none⟩) := hA _ (.tail _ (.head _))
  have F30 : Bun w [rbox (g 16) 158 #[.int .i64 0, .int .i64 0, .int .i64 0, .int .i64 0], rbox (g 17) 158 #[.int .i64 0, .int .i64 0, .int .i64 0, .int .i64 0], rbox (w.heap.size + 3) 28 (z8), rbox (w.heap.size + 2) 77 (weaC d d.clear), rbox (w.heap.size + 1) 28 (iceC x), rbox w.heap.size 26 (froC l (.slice sa l.cov.length sc)), rsl covEnc 3 lo hi (.slice sa l.cov.length sc) l.cov] w29 := F_
  clear hA F_
  obtain ⟨g27, hgx_⟩ : ∃ x_, g 16 = x_ := ⟨_, rfl⟩
  rw [hgx_] at hA0 F30; clear hgx_
  obtain ⟨g28, hgx_⟩ : ∃ x_, g 17 = x_ := ⟨_, rfl⟩
  rw [hgx_] at hA1 F30; clear hgx_
  have hws := F30.gb.size
  have g27l := (F30.bx4 0 rfl).2.2
  have g28l := (F30.bx4 1 rfl).2.2
  rw [rng_rstep_c t, e3, e5, e6, e18, e26, hA0, hA1]
  clear e3 e5 e6 e18 e26 hA0 hA1
  refine ru_o 18 fun K hK => ?_
  have kb_ := F30.bx4 0 rfl
  go_simp
  clear kb_
  replace F30 := F30.pt4 (.int .i64 ((oL l x d).bl)) (.int .i64 ((oL l x d).wh)) (.int .i64 ((oL l x d).we)) (.int .i64 ((oL l x d).sn))
  refine ru_back hK (by exact ⟨F30.q 5 0, F30.q 5 1, F30.q 5 2, F30.q 5 3, F30.q 5 4, F30.q 5 5, F30.q 5 6, F30.q 5 7, F30.q 4 0, F30.q 4 1, F30.q 4 2, F30.q 4 3, F30.q 4 4, F30.q 4 5, F30.q 4 6, F30.q 4 7, F30.q 3 0, F30.q 3 1, F30.q 3 2, F30.q 3 3, F30.q 3 4, F30.q 3 5⟩) (fun _ => ?_)
  clear hK K
  (try simp only [lpX])
  refine ru_o 19 fun K hK => ?_
  have kb_ := F30.bx4 1 rfl
  go_simp
  clear kb_
  have F32 := (F30.front 1 rfl rfl).pt4 (.int .i64 ((oH l x d).bl)) (.int .i64 ((oH l x d).wh)) (.int .i64 ((oH l x d).we)) (.int .i64 ((oH l x d).sn))
  clear F30
  refine ru_back_late hK (by kernel_rfl) ?_
  clear hK K
  (try simp only [lpX])
  refine ru_done (by kernel_rfl) ?_
  have Fn_ := (F32.drop 4 rfl)
  (try dsimp only [lpF, lpG] at Fn_)
  obtain ⟨w33, hx34, F36, hxs35⟩ := Fn_.name
  (try simp at hxs35)
  rw [hx34]
  clear hx34 F32 Fn_
  by_cases c37 : 0 <= d.cold.lo
  ·
   have c37H := lhd c37
   have b38 := F36.bx4 0 rfl
   have b39 := F36.bx4 1 rfl
   have b40 := F36.bx6 3 rfl
   have b41 := F36.bx8 4 rfl
   go_wp2_with fail
   clear b38 b39 b40 b41
   refine (rcold_c lo hi _ l (oL l x d) (oH l x d) k (k + 1) d.cold.lo d.cold.hi _ (F36.s 5 rfl) (Nat.le_trans h2 F36.gb.size) HL.out HLO.out HHI.out (by omega) (by omega) (by omega)).mono ?_
   rintro e w44 ⟨rfl, hg42⟩
   have hg42s := hg42.size
   (try simp at hg42s)
   replace F36 := F36.gn hg42
   clear hg42
   have Hx46 := lhd (show ((aft l x d).bl.lo) = (rcold l (oL l x d) (oH l x d) d.cold.lo d.cold.hi).bl.lo by rw [← rstep_eq HL.out HX.out HD.out, rstep, if_pos c37H.out])
   have Hx47 := lhd (show ((aft l x d).bl.hi) = (rcold l (oL l x d) (oH l x d) d.cold.lo d.cold.hi).bl.hi by rw [← rstep_eq HL.out HX.out HD.out, rstep, if_pos c37H.out])
   have Hx48 := lhd (show ((aft l x d).wh.lo) = (rcold l (oL l x d) (oH l x d) d.cold.lo d.cold.hi).wh.lo by rw [← rstep_eq HL.out HX.out HD.out, rstep, if_pos c37H.out])
   have Hx49 := lhd (show ((aft l x d).wh.hi) = (rcold l (oL l x d) (oH l x d) d.cold.lo d.cold.hi).wh.hi by rw [← rstep_eq HL.out HX.out HD.out, rstep, if_pos c37H.out])
   have Hx50 := lhd (show ((aft l x d).we.lo) = (rcold l (oL l x d) (oH l x d) d.cold.lo d.cold.hi).we.lo by rw [← rstep_eq HL.out HX.out HD.out, rstep, if_pos c37H.out])
   have Hx51 := lhd (show ((aft l x d).we.hi) = (rcold l (oL l x d) (oH l x d) d.cold.lo d.cold.hi).we.hi by rw [← rstep_eq HL.out HX.out HD.out, rstep, if_pos c37H.out])
   have Hx52 := lhd (show ((aft l x d).sn.lo) = (rcold l (oL l x d) (oH l x d) d.cold.lo d.cold.hi).sn.lo by rw [← rstep_eq HL.out HX.out HD.out, rstep, if_pos c37H.out])
   have Hx53 := lhd (show ((aft l x d).sn.hi) = (rcold l (oL l x d) (oH l x d) d.cold.lo d.cold.hi).sn.hi by rw [← rstep_eq HL.out HX.out HD.out, rstep, if_pos c37H.out])
   have b54 := F36.bx8 2 rfl
   go_wp2_with fail
   clear b54
   have F55 := (F36.front 2 rfl rfl).pt8 (.int .i64 ((rcold l (oL l x d) (oH l x d) d.cold.lo d.cold.hi).bl.lo)) (.int .i64 ((rcold l (oL l x d) (oH l x d) d.cold.lo d.cold.hi).bl.hi)) (.int .i64 ((rcold l (oL l x d) (oH l x d) d.cold.lo d.cold.hi).wh.lo)) (.int .i64 ((rcold l (oL l x d) (oH l x d) d.cold.lo d.cold.hi).wh.hi)) (.int .i64 ((rcold l (oL l x d) (oH l x d) d.cold.lo d.cold.hi).we.lo)) (.int .i64 ((rcold l (oL l x d) (oH l x d) d.cold.lo d.cold.hi).we.hi)) (.int .i64 ((rcold l (oL l x d) (oH l x d) d.cold.lo d.cold.hi).sn.lo)) (.int .i64 ((rcold l (oL l x d) (oH l x d) d.cold.lo d.cold.hi).sn.hi))
   clear F36
   have kb56 := F55.bx8 0 rfl
   go_wp2_with fail
   exact bodyPost_ret (v := .agg #[.int .i64 ((rcold l (oL l x d) (oH l x d) d.cold.lo d.cold.hi).bl.lo), .int .i64 ((rcold l (oL l x d) (oH l x d) d.cold.lo d.cold.hi).bl.hi), .int .i64 ((rcold l (oL l x d) (oH l x d) d.cold.lo d.cold.hi).wh.lo), .int .i64 ((rcold l (oL l x d) (oH l x d) d.cold.lo d.cold.hi).wh.hi), .int .i64 ((rcold l (oL l x d) (oH l x d) d.cold.lo d.cold.hi).we.lo), .int .i64 ((rcold l (oL l x d) (oH l x d) d.cold.lo d.cold.hi).we.hi), .int .i64 ((rcold l (oL l x d) (oH l x d) d.cold.lo d.cold.hi).sn.lo), .int .i64 ((rcold l (oL l x d) (oH l x d) d.cold.lo d.cold.hi).sn.hi)]) (by simp [results, Tryz.results83, go_sem, kb56]) rfl (⟨by rw [Hx46.out, Hx47.out, Hx48.out, Hx49.out, Hx50.out, Hx51.out, Hx52.out, Hx53.out] <;> rfl, F55.gb⟩)
  have c37H := lhd c37
  have c37a := dec_f c37
  by_cases c57 : d.cold.hi < 0
  ·
   have c57H := lhd c57
   have b58 := F36.bx4 0 rfl
   have b59 := F36.bx4 1 rfl
   have b60 := F36.bx6 3 rfl
   have b61 := F36.bx8 4 rfl
   go_wp2_with fail
   clear b58 b59 b60 b61
   refine (rwarm_c lo hi _ l (oL l x d) (oH l x d) k (k + 1) (-d.cold.hi) (-d.cold.lo) _ (F36.s 5 rfl) (Nat.le_trans h2 F36.gb.size) HL.out HLO.out HHI.out (by omega) (by omega) (by omega)).mono ?_
   rintro e w64 ⟨rfl, hg62⟩
   have hg62s := hg62.size
   (try simp at hg62s)
   replace F36 := F36.gn hg62
   clear hg62
   have Hx66 := lhd (show ((aft l x d).bl.lo) = (rwarm l (oL l x d) (oH l x d) (-d.cold.hi) (-d.cold.lo)).bl.lo by rw [← rstep_eq HL.out HX.out HD.out, rstep, if_neg (by have := c37H.out; omega), if_pos c57H.out])
   have Hx67 := lhd (show ((aft l x d).bl.hi) = (rwarm l (oL l x d) (oH l x d) (-d.cold.hi) (-d.cold.lo)).bl.hi by rw [← rstep_eq HL.out HX.out HD.out, rstep, if_neg (by have := c37H.out; omega), if_pos c57H.out])
   have Hx68 := lhd (show ((aft l x d).wh.lo) = (rwarm l (oL l x d) (oH l x d) (-d.cold.hi) (-d.cold.lo)).wh.lo by rw [← rstep_eq HL.out HX.out HD.out, rstep, if_neg (by have := c37H.out; omega), if_pos c57H.out])
   have Hx69 := lhd (show ((aft l x d).wh.hi) = (rwarm l (oL l x d) (oH l x d) (-d.cold.hi) (-d.cold.lo)).wh.hi by rw [← rstep_eq HL.out HX.out HD.out, rstep, if_neg (by have := c37H.out; omega), if_pos c57H.out])
   have Hx70 := lhd (show ((aft l x d).we.lo) = (rwarm l (oL l x d) (oH l x d) (-d.cold.hi) (-d.cold.lo)).we.lo by rw [← rstep_eq HL.out HX.out HD.out, rstep, if_neg (by have := c37H.out; omega), if_pos c57H.out])
   have Hx71 := lhd (show ((aft l x d).we.hi) = (rwarm l (oL l x d) (oH l x d) (-d.cold.hi) (-d.cold.lo)).we.hi by rw [← rstep_eq HL.out HX.out HD.out, rstep, if_neg (by have := c37H.out; omega), if_pos c57H.out])
   have Hx72 := lhd (show ((aft l x d).sn.lo) = (rwarm l (oL l x d) (oH l x d) (-d.cold.hi) (-d.cold.lo)).sn.lo by rw [← rstep_eq HL.out HX.out HD.out, rstep, if_neg (by have := c37H.out; omega), if_pos c57H.out])
   have Hx73 := lhd (show ((aft l x d).sn.hi) = (rwarm l (oL l x d) (oH l x d) (-d.cold.hi) (-d.cold.lo)).sn.hi by rw [← rstep_eq HL.out HX.out HD.out, rstep, if_neg (by have := c37H.out; omega), if_pos c57H.out])
   have b74 := F36.bx8 2 rfl
   go_wp2_with fail
   clear b74
   have F75 := (F36.front 2 rfl rfl).pt8 (.int .i64 ((rwarm l (oL l x d) (oH l x d) (-d.cold.hi) (-d.cold.lo)).bl.lo)) (.int .i64 ((rwarm l (oL l x d) (oH l x d) (-d.cold.hi) (-d.cold.lo)).bl.hi)) (.int .i64 ((rwarm l (oL l x d) (oH l x d) (-d.cold.hi) (-d.cold.lo)).wh.lo)) (.int .i64 ((rwarm l (oL l x d) (oH l x d) (-d.cold.hi) (-d.cold.lo)).wh.hi)) (.int .i64 ((rwarm l (oL l x d) (oH l x d) (-d.cold.hi) (-d.cold.lo)).we.lo)) (.int .i64 ((rwarm l (oL l x d) (oH l x d) (-d.cold.hi) (-d.cold.lo)).we.hi)) (.int .i64 ((rwarm l (oL l x d) (oH l x d) (-d.cold.hi) (-d.cold.lo)).sn.lo)) (.int .i64 ((rwarm l (oL l x d) (oH l x d) (-d.cold.hi) (-d.cold.lo)).sn.hi))
   clear F36
   have kb76 := F75.bx8 0 rfl
   go_wp2_with fail
   exact bodyPost_ret (v := .agg #[.int .i64 ((rwarm l (oL l x d) (oH l x d) (-d.cold.hi) (-d.cold.lo)).bl.lo), .int .i64 ((rwarm l (oL l x d) (oH l x d) (-d.cold.hi) (-d.cold.lo)).bl.hi), .int .i64 ((rwarm l (oL l x d) (oH l x d) (-d.cold.hi) (-d.cold.lo)).wh.lo), .int .i64 ((rwarm l (oL l x d) (oH l x d) (-d.cold.hi) (-d.cold.lo)).wh.hi), .int .i64 ((rwarm l (oL l x d) (oH l x d) (-d.cold.hi) (-d.cold.lo)).we.lo), .int .i64 ((rwarm l (oL l x d) (oH l x d) (-d.cold.hi) (-d.cold.lo)).we.hi), .int .i64 ((rwarm l (oL l x d) (oH l x d) (-d.cold.hi) (-d.cold.lo)).sn.lo), .int .i64 ((rwarm l (oL l x d) (oH l x d) (-d.cold.hi) (-d.cold.lo)).sn.hi)]) (by simp [results, Tryz.results83, go_sem, kb76]) rfl (⟨by rw [Hx66.out, Hx67.out, Hx68.out, Hx69.out, Hx70.out, Hx71.out, Hx72.out, Hx73.out] <;> rfl, F75.gb⟩)
  have c57H := lhd c57
  have c57a := dec_f c57
  have b78 := F36.bx6 3 rfl
  go_wp2_with fail
  clear b78
  have hw77 : IntKind.i64.wrap (-d.cold.lo) = -d.cold.lo := IntWalk.i64_in _ (by omega)
  replace F36 := F36.drew
  refine ru_begin (fun W => W.cell? ⟨w.heap.size, 0, none⟩ = some (.int .i64 l.gr) /\ W.cell? ⟨w.heap.size, 1, none⟩ = some (.int .i64 l.la) /\ W.cell? ⟨w.heap.size, 2, none⟩ = some (.slice sa l.cov.length sc) /\ W.cell? ⟨w.heap.size, 3, none⟩ = some (.int .i64 l.melt.lo) /\ W.cell? ⟨w.heap.size, 4, none⟩ = some (.int .i64 l.melt.hi) /\ W.cell? ⟨w.heap.size, 5, none⟩ = some (.int .i64 l.soak) /\ W.cell? ⟨w.heap.size, 6, none⟩ = some (.int .i64 l.white.lo) /\ W.cell? ⟨w.heap.size, 7, none⟩ = some (.int .i64 l.white.hi) /\ W.cell? ⟨g27, 0, none⟩ = some (.int .i64 ((oL l x d).bl)) /\ W.cell? ⟨g27, 1, none⟩ = some (.int .i64 ((oL l x d).wh)) /\ W.cell? ⟨g27, 2, none⟩ = some (.int .i64 ((oL l x d).we)) /\ W.cell? ⟨g27, 3, none⟩ = some (.int .i64 ((oL l x d).sn)) /\ W.cell? ⟨g28, 0, none⟩ = some (.int .i64 ((oH l x d).bl)) /\ W.cell? ⟨g28, 1, none⟩ = some (.int .i64 ((oH l x d).wh)) /\ W.cell? ⟨g28, 2, none⟩ = some (.int .i64 ((oH l x d).we)) /\ W.cell? ⟨g28, 3, none⟩ = some (.int .i64 ((oH l x d).sn)) /\ W.cell? ⟨(w.heap.size + 2), 1, none⟩ = some (.int .i64 d.cold.hi) /\ W.cell? ⟨(w.heap.size + 2), 0, none⟩ = some (.int .i64 d.cold.lo)) 18 (by kernel_rfl) ?_ ?_
  · exact ⟨F36.q 4 0, F36.q 4 1, F36.q 4 2, F36.q 4 3, F36.q 4 4, F36.q 4 5, F36.q 4 6, F36.q 4 7, F36.q 1 0, F36.q 1 1, F36.q 1 2, F36.q 1 3, F36.q 0 0, F36.q 0 1, F36.q 0 2, F36.q 0 3, F36.q 3 1, F36.q 3 0⟩
  obtain ⟨wd81, hwd_⟩ : ∃ x : World, w33.drew = x := ⟨_, rfl⟩
  rw [hwd_] at F36 ⊢
  have wd81s : w33.heap.size <= wd81.heap.size := by rw [← hwd_]; exact Nat.le_refl _
  clear hwd_
  have hS80 := (And.intro (F36.q 4 0) (And.intro (F36.q 4 1) (And.intro (F36.q 4 2) (And.intro (F36.q 4 3) (And.intro (F36.q 4 4) (And.intro (F36.q 4 5) (And.intro (F36.q 4 6) (And.intro (F36.q 4 7) (And.intro (F36.q 1 0) (And.intro (F36.q 1 1) (And.intro (F36.q 1 2) (And.intro (F36.q 1 3) (And.intro (F36.q 0 0) (And.intro (F36.q 0 1) (And.intro (F36.q 0 2) (And.intro (F36.q 0 3) (And.intro (F36.q 3 1) (F36.q 3 0))))))))))))))))))
  refine ru_t 0 [] ?_
  refine ru_t 1 [] ?_
  refine ru_t 2 [] ?_
  refine ru_t 3 [] ?_
  refine ru_t 4 [] ?_
  refine ru_t 5 [] ?_
  refine ru_t 7 [] ?_
  refine ru_t 8 [] ?_
  refine ru_t 9 [] ?_
  refine ru_t 10 [] ?_
  refine ru_t 11 [] ?_
  refine ru_t 12 [] ?_
  refine ru_t 13 [] ?_
  (try simp only [lpX])
  clear hS80
  have hSS : ∀ (LA : List Res) (W : World), Bun w ([rbox g28 158 #[.int .i64 ((oH l x d).bl), .int .i64 ((oH l x d).wh), .int .i64 ((oH l x d).we), .int .i64 ((oH l x d).sn)], rbox g27 158 #[.int .i64 ((oL l x d).bl), .int .i64 ((oL l x d).wh), .int .i64 ((oL l x d).we), .int .i64 ((oL l x d).sn)], rbox (w.heap.size + 3) 28 (z8), rbox (w.heap.size + 2) 77 (weaC d d.clear), rbox w.heap.size 26 (froC l (.slice sa l.cov.length sc)), rsl covEnc 3 lo hi (.slice sa l.cov.length sc) l.cov] ++ LA) W /\ w33.heap.size <= W.heap.size -> W.cell? ⟨w.heap.size, 0, none⟩ = some (.int .i64 l.gr) /\ W.cell? ⟨w.heap.size, 1, none⟩ = some (.int .i64 l.la) /\ W.cell? ⟨w.heap.size, 2, none⟩ = some (.slice sa l.cov.length sc) /\ W.cell? ⟨w.heap.size, 3, none⟩ = some (.int .i64 l.melt.lo) /\ W.cell? ⟨w.heap.size, 4, none⟩ = some (.int .i64 l.melt.hi) /\ W.cell? ⟨w.heap.size, 5, none⟩ = some (.int .i64 l.soak) /\ W.cell? ⟨w.heap.size, 6, none⟩ = some (.int .i64 l.white.lo) /\ W.cell? ⟨w.heap.size, 7, none⟩ = some (.int .i64 l.white.hi) /\ W.cell? ⟨g27, 0, none⟩ = some (.int .i64 ((oL l x d).bl)) /\ W.cell? ⟨g27, 1, none⟩ = some (.int .i64 ((oL l x d).wh)) /\ W.cell? ⟨g27, 2, none⟩ = some (.int .i64 ((oL l x d).we)) /\ W.cell? ⟨g27, 3, none⟩ = some (.int .i64 ((oL l x d).sn)) /\ W.cell? ⟨g28, 0, none⟩ = some (.int .i64 ((oH l x d).bl)) /\ W.cell? ⟨g28, 1, none⟩ = some (.int .i64 ((oH l x d).wh)) /\ W.cell? ⟨g28, 2, none⟩ = some (.int .i64 ((oH l x d).we)) /\ W.cell? ⟨g28, 3, none⟩ = some (.int .i64 ((oH l x d).sn)) /\ W.cell? ⟨(w.heap.size + 2), 1, none⟩ = some (.int .i64 d.cold.hi) /\ W.cell? ⟨(w.heap.size + 2), 0, none⟩ = some (.int .i64 d.cold.lo) := fun _ _ ⟨F_, _⟩ => ⟨F_.q 4 0, F_.q 4 1, F_.q 4 2, F_.q 4 3, F_.q 4 4, F_.q 4 5, F_.q 4 6, F_.q 4 7, F_.q 1 0, F_.q 1 1, F_.q 1 2, F_.q 1 3, F_.q 0 0, F_.q 0 1, F_.q 0 2, F_.q 0 3, F_.q 3 1, F_.q 3 0⟩
  refine ru_mix (goodBunS _ w33.heap.size) 93 [⟨15, 9, 28, (z8), ptrOf⟩, ⟨16, 10, 28, (z8), ptrOf⟩] [6, 14] 2 (by kernel_rfl) (by kernel_rfl) (fun _ _ _ _ _ h => h) (V := fun t => True) (U0 := (fun t => t 6 = .pointer (some ⟨w.heap.size + 3, 0, none⟩) /\ t 57 = .agg (froC l (.slice sa l.cov.length sc)) /\ t 58 = .agg #[.int .i64 ((oL l x d).bl), .int .i64 ((oL l x d).wh), .int .i64 ((oL l x d).we), .int .i64 ((oL l x d).sn)] /\ t 59 = .agg #[.int .i64 ((oH l x d).bl), .int .i64 ((oH l x d).wh), .int .i64 ((oH l x d).we), .int .i64 ((oH l x d).sn)] /\ t 62 = .int .i64 d.cold.hi /\ t 64 = .agg (froC l (.slice sa l.cov.length sc)) /\ t 65 = .agg #[.int .i64 ((oL l x d).bl), .int .i64 ((oL l x d).wh), .int .i64 ((oL l x d).we), .int .i64 ((oL l x d).sn)] /\ t 66 = .agg #[.int .i64 ((oH l x d).bl), .int .i64 ((oH l x d).wh), .int .i64 ((oH l x d).we), .int .i64 ((oH l x d).sn)] /\ t 70 = .int .i64 (-d.cold.lo))) (Um := (fun t => t 6 = .pointer (some ⟨w.heap.size + 3, 0, none⟩) /\ t 63 = .agg #[.int .i64 ((rcold l (oL l x d) (oH l x d) 0 d.cold.hi).bl.lo), .int .i64 ((rcold l (oL l x d) (oH l x d) 0 d.cold.hi).bl.hi), .int .i64 ((rcold l (oL l x d) (oH l x d) 0 d.cold.hi).wh.lo), .int .i64 ((rcold l (oL l x d) (oH l x d) 0 d.cold.hi).wh.hi), .int .i64 ((rcold l (oL l x d) (oH l x d) 0 d.cold.hi).we.lo), .int .i64 ((rcold l (oL l x d) (oH l x d) 0 d.cold.hi).we.hi), .int .i64 ((rcold l (oL l x d) (oH l x d) 0 d.cold.hi).sn.lo), .int .i64 ((rcold l (oL l x d) (oH l x d) 0 d.cold.hi).sn.hi)] /\ t 71 = .agg #[.int .i64 ((rwarm l (oL l x d) (oH l x d) 1 (-d.cold.lo)).bl.lo), .int .i64 ((rwarm l (oL l x d) (oH l x d) 1 (-d.cold.lo)).bl.hi), .int .i64 ((rwarm l (oL l x d) (oH l x d) 1 (-d.cold.lo)).wh.lo), .int .i64 ((rwarm l (oL l x d) (oH l x d) 1 (-d.cold.lo)).wh.hi), .int .i64 ((rwarm l (oL l x d) (oH l x d) 1 (-d.cold.lo)).we.lo), .int .i64 ((rwarm l (oL l x d) (oH l x d) 1 (-d.cold.lo)).we.hi), .int .i64 ((rwarm l (oL l x d) (oH l x d) 1 (-d.cold.lo)).sn.lo), .int .i64 ((rwarm l (oL l x d) (oH l x d) 1 (-d.cold.lo)).sn.hi)])) (L0 := [rbox g28 158 #[.int .i64 ((oH l x d).bl), .int .i64 ((oH l x d).wh), .int .i64 ((oH l x d).we), .int .i64 ((oH l x d).sn)], rbox g27 158 #[.int .i64 ((oL l x d).bl), .int .i64 ((oL l x d).wh), .int .i64 ((oL l x d).we), .int .i64 ((oL l x d).sn)], rbox (w.heap.size + 3) 28 (z8), rbox (w.heap.size + 2) 77 (weaC d d.clear), rbox w.heap.size 26 (froC l (.slice sa l.cov.length sc)), rsl covEnc 3 lo hi (.slice sa l.cov.length sc) l.cov]) (Lm := [rbox g28 158 #[.int .i64 ((oH l x d).bl), .int .i64 ((oH l x d).wh), .int .i64 ((oH l x d).we), .int .i64 ((oH l x d).sn)], rbox g27 158 #[.int .i64 ((oL l x d).bl), .int .i64 ((oL l x d).wh), .int .i64 ((oL l x d).we), .int .i64 ((oL l x d).sn)], rbox (w.heap.size + 3) 28 (z8), rbox (w.heap.size + 2) 77 (weaC d d.clear), rbox w.heap.size 26 (froC l (.slice sa l.cov.length sc)), rsl covEnc 3 lo hi (.slice sa l.cov.length sc) l.cov]) ?chM82 ?alM82 ⟨(by kernel_rfl), rfl, ⟨(by kernel_rfl), (by kernel_rfl), (by kernel_rfl), (by kernel_rfl), (by kernel_rfl), (by kernel_rfl), (by kernel_rfl), (by kernel_rfl), (by kernel_rfl)⟩⟩ ⟨F36, (by first | assumption | omega)⟩ ?restM82
  case chM82 =>
   refine Chain.callS 6 (fun t => t 6 = .pointer (some ⟨w.heap.size + 3, 0, none⟩) /\ t 63 = .agg #[.int .i64 ((rcold l (oL l x d) (oH l x d) 0 d.cold.hi).bl.lo), .int .i64 ((rcold l (oL l x d) (oH l x d) 0 d.cold.hi).bl.hi), .int .i64 ((rcold l (oL l x d) (oH l x d) 0 d.cold.hi).wh.lo), .int .i64 ((rcold l (oL l x d) (oH l x d) 0 d.cold.hi).wh.hi), .int .i64 ((rcold l (oL l x d) (oH l x d) 0 d.cold.hi).we.lo), .int .i64 ((rcold l (oL l x d) (oH l x d) 0 d.cold.hi).we.hi), .int .i64 ((rcold l (oL l x d) (oH l x d) 0 d.cold.hi).sn.lo), .int .i64 ((rcold l (oL l x d) (oH l x d) 0 d.cold.hi).sn.hi)] /\ t 64 = .agg (froC l (.slice sa l.cov.length sc)) /\ t 65 = .agg #[.int .i64 ((oL l x d).bl), .int .i64 ((oL l x d).wh), .int .i64 ((oL l x d).we), .int .i64 ((oL l x d).sn)] /\ t 66 = .agg #[.int .i64 ((oH l x d).bl), .int .i64 ((oH l x d).wh), .int .i64 ((oH l x d).we), .int .i64 ((oH l x d).sn)] /\ t 70 = .int .i64 (-d.cold.lo)) (lfm ⟨fun _ _ u => u, lfm ⟨fun _ _ u => u, fun _ h => (by cases h)⟩⟩) hSS (fun t ⟨e6, e57, e58, e59, e62, e64, e65, e66, e70⟩ => trivial) (by kernel_rfl) ?_ ?_
   ·
    rintro t w_ LA ⟨e6, e57, e58, e59, e62, e64, e65, e66, e70⟩ ⟨F_, hwn_⟩
    have hws := F_.gb.size
    rw [rng_rstep_c t, e6, e57, e58, e59, e62, e64, e65, e66, e70]
    clear e6 e57 e58 e59 e62 e64 e65 e66 e70
    refine wpOp_stepH rfl (fun K hK => ?_)
    go_simp
    refine (rcold_c lo hi _ l (oL l x d) (oH l x d) k (k + 1) 0 d.cold.hi _ (F_.s 5 rfl) (Nat.le_trans h2 F_.gb.size) HL.out HLO.out HHI.out (by omega) (by omega) (by omega)).mono ?_
    rintro e w83 ⟨rfl, hg84⟩
    exact hK.out _ _ ⟨(by kernel_rfl), rfl, ⟨(by kernel_rfl), (by kernel_rfl), (by kernel_rfl), (by kernel_rfl), (by kernel_rfl), (by kernel_rfl)⟩, lfm ⟨(by kernel_rfl), lfm ⟨(by kernel_rfl), fun _ h => (by cases h)⟩⟩, ⟨F_.gn hg84, Nat.le_trans hwn_ hg84.size⟩, hSS _ _ ⟨F_.gn hg84, Nat.le_trans hwn_ hg84.size⟩⟩
   refine Chain.callS 14 (fun t => t 6 = .pointer (some ⟨w.heap.size + 3, 0, none⟩) /\ t 63 = .agg #[.int .i64 ((rcold l (oL l x d) (oH l x d) 0 d.cold.hi).bl.lo), .int .i64 ((rcold l (oL l x d) (oH l x d) 0 d.cold.hi).bl.hi), .int .i64 ((rcold l (oL l x d) (oH l x d) 0 d.cold.hi).wh.lo), .int .i64 ((rcold l (oL l x d) (oH l x d) 0 d.cold.hi).wh.hi), .int .i64 ((rcold l (oL l x d) (oH l x d) 0 d.cold.hi).we.lo), .int .i64 ((rcold l (oL l x d) (oH l x d) 0 d.cold.hi).we.hi), .int .i64 ((rcold l (oL l x d) (oH l x d) 0 d.cold.hi).sn.lo), .int .i64 ((rcold l (oL l x d) (oH l x d) 0 d.cold.hi).sn.hi)] /\ t 71 = .agg #[.int .i64 ((rwarm l (oL l x d) (oH l x d) 1 (-d.cold.lo)).bl.lo), .int .i64 ((rwarm l (oL l x d) (oH l x d) 1 (-d.cold.lo)).bl.hi), .int .i64 ((rwarm l (oL l x d) (oH l x d) 1 (-d.cold.lo)).wh.lo), .int .i64 ((rwarm l (oL l x d) (oH l x d) 1 (-d.cold.lo)).wh.hi), .int .i64 ((rwarm l (oL l x d) (oH l x d) 1 (-d.cold.lo)).we.lo), .int .i64 ((rwarm l (oL l x d) (oH l x d) 1 (-d.cold.lo)).we.hi), .int .i64 ((rwarm l (oL l x d) (oH l x d) 1 (-d.cold.lo)).sn.lo), .int .i64 ((rwarm l (oL l x d) (oH l x d) 1 (-d.cold.lo)).sn.hi)]) (lfm ⟨fun _ _ u => u, lfm ⟨fun _ _ u => u, fun _ h => (by cases h)⟩⟩) hSS (fun t ⟨e6, e63, e64, e65, e66, e70⟩ => trivial) (by kernel_rfl) ?_ ?_
   ·
    rintro t w_ LA ⟨e6, e63, e64, e65, e66, e70⟩ ⟨F_, hwn_⟩
    have hws := F_.gb.size
    rw [rng_rstep_c t, e6, e63, e64, e65, e66, e70]
    clear e6 e63 e64 e65 e66 e70
    refine wpOp_stepH rfl (fun K hK => ?_)
    go_simp
    refine (rwarm_c lo hi _ l (oL l x d) (oH l x d) k (k + 1) 1 (-d.cold.lo) _ (F_.s 5 rfl) (Nat.le_trans h2 F_.gb.size) HL.out HLO.out HHI.out (by omega) (by omega) (by omega)).mono ?_
    rintro e w86 ⟨rfl, hg87⟩
    exact hK.out _ _ ⟨(by kernel_rfl), rfl, ⟨(by kernel_rfl), (by kernel_rfl), (by kernel_rfl)⟩, lfm ⟨(by kernel_rfl), lfm ⟨(by kernel_rfl), fun _ h => (by cases h)⟩⟩, ⟨F_.gn hg87, Nat.le_trans hwn_ hg87.size⟩, hSS _ _ ⟨F_.gn hg87, Nat.le_trans hwn_ hg87.size⟩⟩
   exact Chain.nil _ _ _ (lfm ⟨fun _ _ u => u, lfm ⟨fun _ _ u => u, fun _ h => (by cases h)⟩⟩) hSS (fun t ⟨e6, e63, e71⟩ => trivial)
  case alM82 => exact lfm ⟨fun _ _ _ _ h => wpOp_step rfl (fun K hK => by go_simp; exact hK _ _ h), lfm ⟨fun _ _ _ _ h => wpOp_step rfl (fun K hK => by go_simp; exact hK _ _ h), fun _ h => (by cases h)⟩⟩
  case restM82 =>
   rintro t w91 g ⟨e6, e63, e71⟩ hA ⟨F_, hwnM82⟩
   clear hSS
   clear F36
   have hA0 : t 9 = .pointer (some ⟨g 15, 0, none⟩) := hA _ (.head _)
   have hA1 : t 10 = .pointer (some ⟨g 16, 0, none⟩) := hA _ (.tail _ (.head _))
   have F92 : Bun w [rbox (g 15) 28 (z8), rbox (g 16) 28 (z8), rbox g28 158 #[.int .i64 ((oH l x d).bl), .int .i64 ((oH l x d).wh), .int .i64 ((oH l x d).we), .int .i64 ((oH l x d).sn)], rbox g27 158 #[.int .i64 ((oL l x d).bl), .int .i64 ((oL l x d).wh), .int .i64 ((oL l x d).we), .int .i64 ((oL l x d).sn)], rbox (w.heap.size + 3) 28 (z8), rbox (w.heap.size + 2) 77 (weaC d d.clear), rbox w.heap.size 26 (froC l (.slice sa l.cov.length sc)), rsl covEnc 3 lo hi (.slice sa l.cov.length sc) l.cov] w91 := F_
   clear hA F_
   obtain ⟨g89, hgx_⟩ : ∃ x_, g 15 = x_ := ⟨_, rfl⟩
   rw [hgx_] at hA0 F92; clear hgx_
   obtain ⟨g90, hgx_⟩ : ∃ x_, g 16 = x_ := ⟨_, rfl⟩
   rw [hgx_] at hA1 F92; clear hgx_
   have hws := F92.gb.size
   have g89l := (F92.bx8 0 rfl).2.2
   have g90l := (F92.bx8 1 rfl).2.2
   rw [rng_rstep_c t, e6, e63, e71, hA0, hA1]
   clear e6 e63 e71 hA0 hA1
   refine ru_o 17 fun K hK => ?_
   have kb_ := F92.bx8 0 rfl
   go_simp
   clear kb_
   replace F92 := F92.pt8 (.int .i64 ((rcold l (oL l x d) (oH l x d) 0 d.cold.hi).bl.lo)) (.int .i64 ((rcold l (oL l x d) (oH l x d) 0 d.cold.hi).bl.hi)) (.int .i64 ((rcold l (oL l x d) (oH l x d) 0 d.cold.hi).wh.lo)) (.int .i64 ((rcold l (oL l x d) (oH l x d) 0 d.cold.hi).wh.hi)) (.int .i64 ((rcold l (oL l x d) (oH l x d) 0 d.cold.hi).we.lo)) (.int .i64 ((rcold l (oL l x d) (oH l x d) 0 d.cold.hi).we.hi)) (.int .i64 ((rcold l (oL l x d) (oH l x d) 0 d.cold.hi).sn.lo)) (.int .i64 ((rcold l (oL l x d) (oH l x d) 0 d.cold.hi).sn.hi))
   refine ru_back hK (by exact ⟨F92.q 6 0, F92.q 6 1, F92.q 6 2, F92.q 6 3, F92.q 6 4, F92.q 6 5, F92.q 6 6, F92.q 6 7, F92.q 3 0, F92.q 3 1, F92.q 3 2, F92.q 3 3, F92.q 2 0, F92.q 2 1, F92.q 2 2, F92.q 2 3, F92.q 5 1, F92.q 5 0⟩) (fun _ => ?_)
   clear hK K
   (try simp only [lpX])
   refine ru_o 18 fun K hK => ?_
   have kb_ := F92.bx8 1 rfl
   go_simp
   clear kb_
   have F94 := (F92.front 1 rfl rfl).pt8 (.int .i64 ((rwarm l (oL l x d) (oH l x d) 1 (-d.cold.lo)).bl.lo)) (.int .i64 ((rwarm l (oL l x d) (oH l x d) 1 (-d.cold.lo)).bl.hi)) (.int .i64 ((rwarm l (oL l x d) (oH l x d) 1 (-d.cold.lo)).wh.lo)) (.int .i64 ((rwarm l (oL l x d) (oH l x d) 1 (-d.cold.lo)).wh.hi)) (.int .i64 ((rwarm l (oL l x d) (oH l x d) 1 (-d.cold.lo)).we.lo)) (.int .i64 ((rwarm l (oL l x d) (oH l x d) 1 (-d.cold.lo)).we.hi)) (.int .i64 ((rwarm l (oL l x d) (oH l x d) 1 (-d.cold.lo)).sn.lo)) (.int .i64 ((rwarm l (oL l x d) (oH l x d) 1 (-d.cold.lo)).sn.hi))
   clear F92
   refine ru_back_late hK (by kernel_rfl) ?_
   clear hK K
   (try simp only [lpX])
   refine ru_done (by kernel_rfl) ?_
   (try clear hw77)
   have Fn_ := ((((F94.drop 2 rfl).drop 2 rfl).drop 3 rfl).drop 3 rfl)
   (try dsimp only [lpF, lpG] at Fn_)
   obtain ⟨w95, hx96, F98, hxs97⟩ := Fn_.name
   (try simp at hxs97)
   rw [hx96]
   clear hx96 F94 Fn_
   go_wp2_with fail
   replace F98 := F98.drew
   refine ru_begin (fun W => C2 W g89 (.int .i64 ((rcold l (oL l x d) (oH l x d) 0 d.cold.hi).bl.lo)) (.int .i64 ((rcold l (oL l x d) (oH l x d) 0 d.cold.hi).bl.hi)) /\ C2 W g90 (.int .i64 ((rwarm l (oL l x d) (oH l x d) 1 (-d.cold.lo)).bl.lo)) (.int .i64 ((rwarm l (oL l x d) (oH l x d) 1 (-d.cold.lo)).bl.hi)) /\ W.cell? ⟨g89, 2, none⟩ = some (.int .i64 ((rcold l (oL l x d) (oH l x d) 0 d.cold.hi).wh.lo)) /\ W.cell? ⟨g89, 3, none⟩ = some (.int .i64 ((rcold l (oL l x d) (oH l x d) 0 d.cold.hi).wh.hi)) /\ W.cell? ⟨g90, 2, none⟩ = some (.int .i64 ((rwarm l (oL l x d) (oH l x d) 1 (-d.cold.lo)).wh.lo)) /\ W.cell? ⟨g90, 3, none⟩ = some (.int .i64 ((rwarm l (oL l x d) (oH l x d) 1 (-d.cold.lo)).wh.hi)) /\ W.cell? ⟨g89, 4, none⟩ = some (.int .i64 ((rcold l (oL l x d) (oH l x d) 0 d.cold.hi).we.lo)) /\ W.cell? ⟨g89, 5, none⟩ = some (.int .i64 ((rcold l (oL l x d) (oH l x d) 0 d.cold.hi).we.hi)) /\ W.cell? ⟨g90, 4, none⟩ = some (.int .i64 ((rwarm l (oL l x d) (oH l x d) 1 (-d.cold.lo)).we.lo)) /\ W.cell? ⟨g90, 5, none⟩ = some (.int .i64 ((rwarm l (oL l x d) (oH l x d) 1 (-d.cold.lo)).we.hi)) /\ W.cell? ⟨g89, 6, none⟩ = some (.int .i64 ((rcold l (oL l x d) (oH l x d) 0 d.cold.hi).sn.lo)) /\ W.cell? ⟨g89, 7, none⟩ = some (.int .i64 ((rcold l (oL l x d) (oH l x d) 0 d.cold.hi).sn.hi)) /\ W.cell? ⟨g90, 6, none⟩ = some (.int .i64 ((rwarm l (oL l x d) (oH l x d) 1 (-d.cold.lo)).sn.lo)) /\ W.cell? ⟨g90, 7, none⟩ = some (.int .i64 ((rwarm l (oL l x d) (oH l x d) 1 (-d.cold.lo)).sn.hi))) 21 (by kernel_rfl) ?_ ?_
   · exact ⟨F98.c2 1, F98.c2 0, F98.q 1 2, F98.q 1 3, F98.q 0 2, F98.q 0 3, F98.q 1 4, F98.q 1 5, F98.q 0 4, F98.q 0 5, F98.q 1 6, F98.q 1 7, F98.q 0 6, F98.q 0 7⟩
   obtain ⟨wd101, hwd_⟩ : ∃ x : World, w95.drew = x := ⟨_, rfl⟩
   rw [hwd_] at F98 ⊢
   have wd101s : w95.heap.size <= wd101.heap.size := by rw [← hwd_]; exact Nat.le_refl _
   clear hwd_
   have hS100 := (And.intro (F98.c2 1) (And.intro (F98.c2 0) (And.intro (F98.q 1 2) (And.intro (F98.q 1 3) (And.intro (F98.q 0 2) (And.intro (F98.q 0 3) (And.intro (F98.q 1 4) (And.intro (F98.q 1 5) (And.intro (F98.q 0 4) (And.intro (F98.q 0 5) (And.intro (F98.q 1 6) (And.intro (F98.q 1 7) (And.intro (F98.q 0 6) (F98.q 0 7))))))))))))))
   refine ru_t 0 [] ?_
   refine ru_t 1 [] ?_
   refine ru_t 2 [] ?_
   refine ru_t 3 [] ?_
   refine ru_t 5 [] ?_
   refine ru_t 6 [] ?_
   refine ru_t 7 [] ?_
   refine ru_t 8 [] ?_
   refine ru_t 10 [] ?_
   refine ru_t 11 [] ?_
   refine ru_t 12 [] ?_
   refine ru_t 13 [] ?_
   refine ru_t 15 [] ?_
   refine ru_t 16 [] ?_
   refine ru_t 17 [] ?_
   refine ru_t 18 [] ?_
   (try simp only [lpX])
   clear hS100
   refine ru_o 4 fun K hK => ?_
   go_simp
   refine (hull_c ((rcold l (oL l x d) (oH l x d) 0 d.cold.hi).bl) ((rwarm l (oL l x d) (oH l x d) 1 (-d.cold.lo)).bl) _).mono ?_
   rintro e w104 ⟨rfl, hg102⟩
   have hg102s := hg102.size
   (try simp at hg102s)
   replace F98 := F98.gn hg102
   refine ru_back hK (by exact ⟨F98.c2 1, F98.c2 0, F98.q 1 2, F98.q 1 3, F98.q 0 2, F98.q 0 3, F98.q 1 4, F98.q 1 5, F98.q 0 4, F98.q 0 5, F98.q 1 6, F98.q 1 7, F98.q 0 6, F98.q 0 7⟩) (fun _ => ?_)
   clear hK K
   (try simp only [lpX])
   refine ru_o 9 fun K hK => ?_
   go_simp
   refine (hull_c ((rcold l (oL l x d) (oH l x d) 0 d.cold.hi).wh) ((rwarm l (oL l x d) (oH l x d) 1 (-d.cold.lo)).wh) _).mono ?_
   rintro e w108 ⟨rfl, hg106⟩
   have hg106s := hg106.size
   (try simp at hg106s)
   replace F98 := F98.gn hg106
   refine ru_back hK (by exact ⟨F98.c2 1, F98.c2 0, F98.q 1 2, F98.q 1 3, F98.q 0 2, F98.q 0 3, F98.q 1 4, F98.q 1 5, F98.q 0 4, F98.q 0 5, F98.q 1 6, F98.q 1 7, F98.q 0 6, F98.q 0 7⟩) (fun _ => ?_)
   clear hK K
   (try simp only [lpX])
   refine ru_o 14 fun K hK => ?_
   go_simp
   refine (hull_c ((rcold l (oL l x d) (oH l x d) 0 d.cold.hi).we) ((rwarm l (oL l x d) (oH l x d) 1 (-d.cold.lo)).we) _).mono ?_
   rintro e w112 ⟨rfl, hg110⟩
   have hg110s := hg110.size
   (try simp at hg110s)
   replace F98 := F98.gn hg110
   refine ru_back hK (by exact ⟨F98.c2 1, F98.c2 0, F98.q 1 2, F98.q 1 3, F98.q 0 2, F98.q 0 3, F98.q 1 4, F98.q 1 5, F98.q 0 4, F98.q 0 5, F98.q 1 6, F98.q 1 7, F98.q 0 6, F98.q 0 7⟩) (fun _ => ?_)
   clear hK K
   (try simp only [lpX])
   refine ru_o 19 fun K hK => ?_
   go_simp
   refine (hull_c ((rcold l (oL l x d) (oH l x d) 0 d.cold.hi).sn) ((rwarm l (oL l x d) (oH l x d) 1 (-d.cold.lo)).sn) _).mono ?_
   rintro e w116 ⟨rfl, hg114⟩
   have hg114s := hg114.size
   (try simp at hg114s)
   replace F98 := F98.gn hg114
   refine ru_back hK (by exact ⟨F98.c2 1, F98.c2 0, F98.q 1 2, F98.q 1 3, F98.q 0 2, F98.q 0 3, F98.q 1 4, F98.q 1 5, F98.q 0 4, F98.q 0 5, F98.q 1 6, F98.q 1 7, F98.q 0 6, F98.q 0 7⟩) (fun _ => ?_)
   clear hK K
   (try simp only [lpX])
   refine ru_p 20 ?_
   (try simp only [lpX])
   refine ru_o 21 fun K hK => ?_
   have kb_ := F98.bx8 2 rfl
   go_simp
   clear kb_
   have F118 := (F98.front 2 rfl rfl).pt8 (.int .i64 (min ((rcold l (oL l x d) (oH l x d) 0 d.cold.hi).bl.lo) ((rwarm l (oL l x d) (oH l x d) 1 (-d.cold.lo)).bl.lo))) (.int .i64 (max ((rcold l (oL l x d) (oH l x d) 0 d.cold.hi).bl.hi) ((rwarm l (oL l x d) (oH l x d) 1 (-d.cold.lo)).bl.hi))) (.int .i64 (min ((rcold l (oL l x d) (oH l x d) 0 d.cold.hi).wh.lo) ((rwarm l (oL l x d) (oH l x d) 1 (-d.cold.lo)).wh.lo))) (.int .i64 (max ((rcold l (oL l x d) (oH l x d) 0 d.cold.hi).wh.hi) ((rwarm l (oL l x d) (oH l x d) 1 (-d.cold.lo)).wh.hi))) (.int .i64 (min ((rcold l (oL l x d) (oH l x d) 0 d.cold.hi).we.lo) ((rwarm l (oL l x d) (oH l x d) 1 (-d.cold.lo)).we.lo))) (.int .i64 (max ((rcold l (oL l x d) (oH l x d) 0 d.cold.hi).we.hi) ((rwarm l (oL l x d) (oH l x d) 1 (-d.cold.lo)).we.hi))) (.int .i64 (min ((rcold l (oL l x d) (oH l x d) 0 d.cold.hi).sn.lo) ((rwarm l (oL l x d) (oH l x d) 1 (-d.cold.lo)).sn.lo))) (.int .i64 (max ((rcold l (oL l x d) (oH l x d) 0 d.cold.hi).sn.hi) ((rwarm l (oL l x d) (oH l x d) 1 (-d.cold.lo)).sn.hi)))
   clear F98
   refine ru_back_late hK (by kernel_rfl) ?_
   clear hK K
   (try simp only [lpX])
   refine ru_done (by kernel_rfl) ?_
   have Fn_ := ((F118.drop 1 rfl).drop 1 rfl)
   (try dsimp only [lpF, lpG] at Fn_)
   obtain ⟨w119, hx120, F122, hxs121⟩ := Fn_.name
   (try simp at hxs121)
   rw [hx120]
   clear hx120 F118 Fn_
   have Hx123 := lhd (show ((aft l x d).bl.lo) = min ((rcold l (oL l x d) (oH l x d) 0 d.cold.hi).bl.lo) ((rwarm l (oL l x d) (oH l x d) 1 (-d.cold.lo)).bl.lo) by rw [← rstep_eq HL.out HX.out HD.out, rstep, if_neg (by have := c37H.out; omega), if_neg (by have := c57H.out; omega)]; rfl)
   have Hx124 := lhd (show ((aft l x d).bl.hi) = max ((rcold l (oL l x d) (oH l x d) 0 d.cold.hi).bl.hi) ((rwarm l (oL l x d) (oH l x d) 1 (-d.cold.lo)).bl.hi) by rw [← rstep_eq HL.out HX.out HD.out, rstep, if_neg (by have := c37H.out; omega), if_neg (by have := c57H.out; omega)]; rfl)
   have Hx125 := lhd (show ((aft l x d).wh.lo) = min ((rcold l (oL l x d) (oH l x d) 0 d.cold.hi).wh.lo) ((rwarm l (oL l x d) (oH l x d) 1 (-d.cold.lo)).wh.lo) by rw [← rstep_eq HL.out HX.out HD.out, rstep, if_neg (by have := c37H.out; omega), if_neg (by have := c57H.out; omega)]; rfl)
   have Hx126 := lhd (show ((aft l x d).wh.hi) = max ((rcold l (oL l x d) (oH l x d) 0 d.cold.hi).wh.hi) ((rwarm l (oL l x d) (oH l x d) 1 (-d.cold.lo)).wh.hi) by rw [← rstep_eq HL.out HX.out HD.out, rstep, if_neg (by have := c37H.out; omega), if_neg (by have := c57H.out; omega)]; rfl)
   have Hx127 := lhd (show ((aft l x d).we.lo) = min ((rcold l (oL l x d) (oH l x d) 0 d.cold.hi).we.lo) ((rwarm l (oL l x d) (oH l x d) 1 (-d.cold.lo)).we.lo) by rw [← rstep_eq HL.out HX.out HD.out, rstep, if_neg (by have := c37H.out; omega), if_neg (by have := c57H.out; omega)]; rfl)
   have Hx128 := lhd (show ((aft l x d).we.hi) = max ((rcold l (oL l x d) (oH l x d) 0 d.cold.hi).we.hi) ((rwarm l (oL l x d) (oH l x d) 1 (-d.cold.lo)).we.hi) by rw [← rstep_eq HL.out HX.out HD.out, rstep, if_neg (by have := c37H.out; omega), if_neg (by have := c57H.out; omega)]; rfl)
   have Hx129 := lhd (show ((aft l x d).sn.lo) = min ((rcold l (oL l x d) (oH l x d) 0 d.cold.hi).sn.lo) ((rwarm l (oL l x d) (oH l x d) 1 (-d.cold.lo)).sn.lo) by rw [← rstep_eq HL.out HX.out HD.out, rstep, if_neg (by have := c37H.out; omega), if_neg (by have := c57H.out; omega)]; rfl)
   have Hx130 := lhd (show ((aft l x d).sn.hi) = max ((rcold l (oL l x d) (oH l x d) 0 d.cold.hi).sn.hi) ((rwarm l (oL l x d) (oH l x d) 1 (-d.cold.lo)).sn.hi) by rw [← rstep_eq HL.out HX.out HD.out, rstep, if_neg (by have := c37H.out; omega), if_neg (by have := c57H.out; omega)]; rfl)
   go_wp2_with fail
   have kb131 := F122.bx8 0 rfl
   go_wp2_with fail
   exact bodyPost_ret (v := .agg #[.int .i64 (min ((rcold l (oL l x d) (oH l x d) 0 d.cold.hi).bl.lo) ((rwarm l (oL l x d) (oH l x d) 1 (-d.cold.lo)).bl.lo)), .int .i64 (max ((rcold l (oL l x d) (oH l x d) 0 d.cold.hi).bl.hi) ((rwarm l (oL l x d) (oH l x d) 1 (-d.cold.lo)).bl.hi)), .int .i64 (min ((rcold l (oL l x d) (oH l x d) 0 d.cold.hi).wh.lo) ((rwarm l (oL l x d) (oH l x d) 1 (-d.cold.lo)).wh.lo)), .int .i64 (max ((rcold l (oL l x d) (oH l x d) 0 d.cold.hi).wh.hi) ((rwarm l (oL l x d) (oH l x d) 1 (-d.cold.lo)).wh.hi)), .int .i64 (min ((rcold l (oL l x d) (oH l x d) 0 d.cold.hi).we.lo) ((rwarm l (oL l x d) (oH l x d) 1 (-d.cold.lo)).we.lo)), .int .i64 (max ((rcold l (oL l x d) (oH l x d) 0 d.cold.hi).we.hi) ((rwarm l (oL l x d) (oH l x d) 1 (-d.cold.lo)).we.hi)), .int .i64 (min ((rcold l (oL l x d) (oH l x d) 0 d.cold.hi).sn.lo) ((rwarm l (oL l x d) (oH l x d) 1 (-d.cold.lo)).sn.lo)), .int .i64 (max ((rcold l (oL l x d) (oH l x d) 0 d.cold.hi).sn.hi) ((rwarm l (oL l x d) (oH l x d) 1 (-d.cold.lo)).sn.hi))]) (by simp [results, Tryz.results83, go_sem, kb131]) rfl (⟨by rw [Hx123.out, Hx124.out, Hx125.out, Hx126.out, Hx127.out, Hx128.out, Hx129.out, Hx130.out] <;> rfl, F122.gb⟩)
end Go.Proofs.YtkclabflkocbaaaGreat
