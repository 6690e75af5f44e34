/- the reference of frost: a cold day. -/
import Derived.Test.YtkclabflkocbaaaGreatLKF2
import Derived.Test.YtkclabflkocbaaaGreatLK1
set_option linter.unusedVariables false
set_option linter.unusedSimpArgs false
set_option linter.unnecessarySimpa false
namespace Go.Proofs.YtkclabflkocbaaaGreat
open Go.RowKit
set_option maxRecDepth 100000
theorem rng_rcold_c (t : Nat -> Value) : ((List.range 86).map t).toArray = List.toArray [t 0, t 1, t 2, t 3, t 4, t 5, t 6, t 7, t 8, t 9, t 10, t 11, t 12, t 13, t 14, t 15, t 16, t 17, t 18, t 19, t 20, t 21, t 22, t 23, t 24, t 25, t 26, t 27, t 28, t 29, t 30, t 31, t 32, t 33, t 34, t 35, t 36, t 37, t 38, t 39, t 40, t 41, t 42, t 43, t 44, t 45, t 46, t 47, t 48, t 49, t 50, t 51, t 52, t 53, t 54, t 55, t 56, t 57, t 58, t 59, t 60, t 61, t 62, t 63, t 64, t 65, t 66, t 67, t 68, t 69, t 70, t 71, t 72, t 73, t 74, t 75, t 76, t 77, t 78, t 79, t 80, t 81, t 82, t 83, t 84, t 85] := rfl
set_option maxHeartbeats 16000000 in
theorem rcold_c (lo hi : Nat) (v : Value) (l : Fro) (low high : Tr) (k m a b : Int) (w : World) (hl : Sl covEnc 3 lo hi w v l.cov) (h2 : hi <= w.heap.size) (hL : LawOk l) (hlo : TrK low k m) (hhi : TrK high k m) (hk : (0 <= k /\ k <= 401) /\ 0 <= m /\ m <= 401) (ha : 0 <= a /\ a <= 1000) (hb : 0 <= b /\ b <= 1000) :
  Calls Tryz.prog 102 #[.agg (froC l v), .agg #[.int .i64 low.bl, .int .i64 low.wh, .int .i64 low.we, .int .i64 low.sn], .agg #[.int .i64 high.bl, .int .i64 high.wh, .int .i64 high.we, .int .i64 high.sn], .int .i64 a, .int .i64 b] w (Ret (.agg #[.int .i64 ((rcold l low high a b).bl.lo), .int .i64 ((rcold l low high a b).bl.hi), .int .i64 ((rcold l low high a b).wh.lo), .int .i64 ((rcold l low high a b).wh.hi), .int .i64 ((rcold l low high a b).we.lo), .int .i64 ((rcold l low high a b).we.hi), .int .i64 ((rcold l low high a b).sn.lo), .int .i64 ((rcold l low high a b).sn.hi)]) w) := by
 have F1 : Bun w [] w := Bun.nil _
 have hm_cs := hl.len
 unfold maxLen at hm_cs
 obtain ⟨sa, sc, rfl⟩ := hl.any
 replace F1 := F1.sl0 hl h2 rfl
 clear hl
 have HL := lhd hL
 have HLO := lhd hlo
 have HHI := lhd hhi
 clear hL hlo hhi
 go_enter Tryz.func102, Tryz.ntmps102
 go_wp2_with fail
 replace F1 := F1.new 26 (froC l (.slice sa l.cov.length sc)) (n := w.heap.size) (by simp)
 replace F1 := F1.new 158 #[.int .i64 low.bl, .int .i64 low.wh, .int .i64 low.we, .int .i64 low.sn] (n := (w.heap.size + 1)) (by simp)
 replace F1 := F1.new 158 #[.int .i64 high.bl, .int .i64 high.wh, .int .i64 high.we, .int .i64 high.sn] (n := (w.heap.size + 2)) (by simp)
 replace F1 := F1.new 28 (z8) (n := (w.heap.size + 3)) (by simp)
 have Fn_ := F1
 (try dsimp only [lpF, lpG] at Fn_)
 obtain ⟨w10, hx11, F13, hxs12⟩ := Fn_.name
 (try simp at hxs12)
 rw [hx11]
 clear hx11 F1 Fn_
 replace F13 := F13.drew
 refine ru_begin (fun W => C8 W w.heap.size (.int .i64 l.gr) (.int .i64 l.la) (.slice sa l.cov.length sc) (.int .i64 l.melt.lo) (.int .i64 l.melt.hi) (.int .i64 l.soak) (.int .i64 l.white.lo) (.int .i64 l.white.hi) /\ W.cell? ⟨(w.heap.size + 2), 3, none⟩ = some (.int .i64 high.sn) /\ W.cell? ⟨(w.heap.size + 1), 3, none⟩ = some (.int .i64 low.sn)) 13 (by kernel_rfl) ?_ ?_
 · exact ⟨F13.c8 3, F13.q 1 3, F13.q 2 3⟩
 obtain ⟨wd16, hwd_⟩ : ∃ x : World, w10.drew = x := ⟨_, rfl⟩
 rw [hwd_] at F13 ⊢
 have wd16s : w10.heap.size <= wd16.heap.size := by rw [← hwd_]; exact Nat.le_refl _
 clear hwd_
 have hS15 := (And.intro (F13.c8 3) (And.intro (F13.q 1 3) (F13.q 2 3)))
 refine ru_t 0 [] ?_
 refine ru_t 1 [] ?_
 refine ru_t 2 [] ?_
 refine ru_t 3 [] ?_
 refine ru_t 6 [] ?_
 refine ru_t 7 [] ?_
 refine ru_t 8 [] ?_
 refine ru_t 9 [] ?_
 (try simp only [lpX])
 clear hS15
 refine ru_o 4 fun K hK => ?_
 go_simp
 refine (rthrough_c lo hi _ l high.sn a _ (F13.s 4 rfl) (Nat.le_trans h2 F13.gb.size) HL.out (by omega)).mono ?_
 rintro e w20 ⟨rfl, hg18⟩
 have htc17 := thC_bd HL.out high.sn (c := a) (by omega)
 have hg18s := hg18.size
 (try simp at hg18s)
 replace F13 := F13.gn hg18
 refine ru_back hK (by exact ⟨F13.c8 3, F13.q 1 3, F13.q 2 3⟩) (fun _ => ?_)
 clear hK K
 (try simp only [lpX])
 have hi22 : ∀ w, (Instr.field 24 (.agg #[.int .i64 ((thC l high.sn a).lo), .int .i64 ((thC l high.sn a).hi)]) 0).run Tryz.prog w = .ok (.int .i64 ((thC l high.sn a).lo)) w := fun _ => by kernel_rfl
 refine ru_p 5 ?_
 (try simp only [lpX])
 refine ru_o 10 fun K hK => ?_
 go_simp
 refine (rthrough_c lo hi _ l low.sn b _ (F13.s 4 rfl) (Nat.le_trans h2 F13.gb.size) HL.out (by omega)).mono ?_
 rintro e w26 ⟨rfl, hg24⟩
 have htc23 := thC_bd HL.out low.sn (c := b) (by omega)
 have hg24s := hg24.size
 (try simp at hg24s)
 replace F13 := F13.gn hg24
 refine ru_back hK (by exact ⟨F13.c8 3, F13.q 1 3, F13.q 2 3⟩) (fun _ => ?_)
 clear hK K
 (try simp only [lpX])
 have hi28 : ∀ w, (Instr.field 24 (.agg #[.int .i64 ((thC l low.sn b).lo), .int .i64 ((thC l low.sn b).hi)]) 1).run Tryz.prog w = .ok (.int .i64 ((thC l low.sn b).hi)) w := fun _ => by kernel_rfl
 refine ru_p 11 ?_
 refine ru_p 12 ?_
 (try simp only [lpX])
 refine ru_o 13 fun K hK => ?_
 go_simp
 refine ru_back_late hK (by kernel_rfl) ?_
 clear hK K
 (try simp only [lpX])
 refine ru_done (by kernel_rfl) ?_
 (try clear hi22 hi28)
 have Fn_ := F13
 (try dsimp only [lpF, lpG] at Fn_)
 obtain ⟨w29, hx30, F32, hxs31⟩ := Fn_.name
 (try simp at hxs31)
 rw [hx30]
 clear hx30 F13 Fn_
 go_wp2_with fail
 replace F32 := F32.drew
 refine ru_begin (fun W => W.cell? ⟨w.heap.size, 0, none⟩ = some (.int .i64 l.gr) /\ W.cell? ⟨w.heap.size, 1, none⟩ = some (.int .i64 l.la) /\ W.cell? ⟨w.heap.size, 2, none⟩ = some (.slice sa l.cov.length sc) /\ W.cell? ⟨w.heap.size, 3, none⟩ = some (.int .i64 l.melt.lo) /\ W.cell? ⟨w.heap.size, 4, none⟩ = some (.int .i64 l.melt.hi) /\ W.cell? ⟨w.heap.size, 5, none⟩ = some (.int .i64 l.soak) /\ W.cell? ⟨w.heap.size, 6, none⟩ = some (.int .i64 l.white.lo) /\ W.cell? ⟨w.heap.size, 7, none⟩ = some (.int .i64 l.white.hi) /\ W.cell? ⟨(w.heap.size + 1), 0, none⟩ = some (.int .i64 low.bl) /\ W.cell? ⟨(w.heap.size + 1), 1, none⟩ = some (.int .i64 low.wh) /\ W.cell? ⟨(w.heap.size + 1), 2, none⟩ = some (.int .i64 low.we) /\ W.cell? ⟨(w.heap.size + 1), 3, none⟩ = some (.int .i64 low.sn) /\ W.cell? ⟨(w.heap.size + 2), 0, none⟩ = some (.int .i64 high.bl) /\ W.cell? ⟨(w.heap.size + 2), 1, none⟩ = some (.int .i64 high.wh) /\ W.cell? ⟨(w.heap.size + 2), 2, none⟩ = some (.int .i64 high.we) /\ W.cell? ⟨(w.heap.size + 2), 3, none⟩ = some (.int .i64 high.sn)) 11 (by kernel_rfl) ?_ ?_
 · exact ⟨F32.q 3 0, F32.q 3 1, F32.q 3 2, F32.q 3 3, F32.q 3 4, F32.q 3 5, F32.q 3 6, F32.q 3 7, F32.q 2 0, F32.q 2 1, F32.q 2 2, F32.q 2 3, F32.q 1 0, F32.q 1 1, F32.q 1 2, F32.q 1 3⟩
 obtain ⟨wd35, hwd_⟩ : ∃ x : World, w29.drew = x := ⟨_, rfl⟩
 rw [hwd_] at F32 ⊢
 have wd35s : w29.heap.size <= wd35.heap.size := by rw [← hwd_]; exact Nat.le_refl _
 clear hwd_
 have hS34 := (And.intro (F32.q 3 0) (And.intro (F32.q 3 1) (And.intro (F32.q 3 2) (And.intro (F32.q 3 3) (And.intro (F32.q 3 4) (And.intro (F32.q 3 5) (And.intro (F32.q 3 6) (And.intro (F32.q 3 7) (And.intro (F32.q 2 0) (And.intro (F32.q 2 1) (And.intro (F32.q 2 2) (And.intro (F32.q 2 3) (And.intro (F32.q 1 0) (And.intro (F32.q 1 1) (And.intro (F32.q 1 2) (F32.q 1 3))))))))))))))))
 refine ru_t 0 [] ?_
 refine ru_t 1 [] ?_
 refine ru_t 2 [] ?_
 refine ru_t 4 [] ?_
 refine ru_t 5 [] ?_
 refine ru_t 6 [] ?_
 (try simp only [lpX])
 clear hS34
 have hSS : ∀ (LA : List Res) (W : World), Bun w ([rbox (w.heap.size + 3) 28 (z8), rbox (w.heap.size + 2) 158 #[.int .i64 high.bl, .int .i64 high.wh, .int .i64 high.we, .int .i64 high.sn], rbox (w.heap.size + 1) 158 #[.int .i64 low.bl, .int .i64 low.wh, .int .i64 low.we, .int .i64 low.sn], rbox w.heap.size 26 (froC l (.slice sa l.cov.length sc)), rsl covEnc 3 lo hi (.slice sa l.cov.length sc) l.cov] ++ LA) W /\ w29.heap.size <= W.heap.size -> W.cell? ⟨w.heap.size, 0, none⟩ = some (.int .i64 l.gr) /\ W.cell? ⟨w.heap.size, 1, none⟩ = some (.int .i64 l.la) /\ W.cell? ⟨w.heap.size, 2, none⟩ = some (.slice sa l.cov.length sc) /\ W.cell? ⟨w.heap.size, 3, none⟩ = some (.int .i64 l.melt.lo) /\ W.cell? ⟨w.heap.size, 4, none⟩ = some (.int .i64 l.melt.hi) /\ W.cell? ⟨w.heap.size, 5, none⟩ = some (.int .i64 l.soak) /\ W.cell? ⟨w.heap.size, 6, none⟩ = some (.int .i64 l.white.lo) /\ W.cell? ⟨w.heap.size, 7, none⟩ = some (.int .i64 l.white.hi) /\ W.cell? ⟨(w.heap.size + 1), 0, none⟩ = some (.int .i64 low.bl) /\ W.cell? ⟨(w.heap.size + 1), 1, none⟩ = some (.int .i64 low.wh) /\ W.cell? ⟨(w.heap.size + 1), 2, none⟩ = some (.int .i64 low.we) /\ W.cell? ⟨(w.heap.size + 1), 3, none⟩ = some (.int .i64 low.sn) /\ W.cell? ⟨(w.heap.size + 2), 0, none⟩ = some (.int .i64 high.bl) /\ W.cell? ⟨(w.heap.size + 2), 1, none⟩ = some (.int .i64 high.wh) /\ W.cell? ⟨(w.heap.size + 2), 2, none⟩ = some (.int .i64 high.we) /\ W.cell? ⟨(w.heap.size + 2), 3, none⟩ = some (.int .i64 high.sn) := fun _ _ ⟨F_, _⟩ => ⟨F_.q 3 0, F_.q 3 1, F_.q 3 2, F_.q 3 3, F_.q 3 4, F_.q 3 5, F_.q 3 6, F_.q 3 7, F_.q 2 0, F_.q 2 1, F_.q 2 2, F_.q 2 3, F_.q 1 0, F_.q 1 1, F_.q 1 2, F_.q 1 3⟩
 refine ru_mix (goodBunS _ w29.heap.size) 86 [⟨8, 13, 158, #[.int .i64 0, .int .i64 0, .int .i64 0, .int .i64 0], ptrOf⟩, ⟨9, 14, 158, #[.int .i64 0, .int .i64 0, .int .i64 0, .int .i64 0], ptrOf⟩] [3, 7] 2 (by kernel_rfl) (by kernel_rfl) (fun _ _ _ _ _ h => h) (V := fun t => True) (U0 := (fun t => t 5 = .pointer (some ⟨w.heap.size, 0, none⟩) /\ t 6 = .pointer (some ⟨w.heap.size + 1, 0, none⟩) /\ t 7 = .pointer (some ⟨w.heap.size + 2, 0, none⟩) /\ t 10 = .pointer (some ⟨w.heap.size + 3, 0, none⟩) /\ t 11 = .int .i64 ((thC l high.sn a).lo) /\ t 12 = .int .i64 ((thC l low.sn b).hi) /\ t 30 = .agg (froC l (.slice sa l.cov.length sc)) /\ t 31 = .agg #[.int .i64 low.bl, .int .i64 low.wh, .int .i64 low.we, .int .i64 low.sn] /\ t 32 = .int .i64 ((thC l high.sn a).lo) /\ t 34 = .agg (froC l (.slice sa l.cov.length sc)) /\ t 35 = .agg #[.int .i64 high.bl, .int .i64 high.wh, .int .i64 high.we, .int .i64 high.sn] /\ t 36 = .int .i64 ((thC l low.sn b).hi))) (Um := (fun t => t 5 = .pointer (some ⟨w.heap.size, 0, none⟩) /\ t 6 = .pointer (some ⟨w.heap.size + 1, 0, none⟩) /\ t 7 = .pointer (some ⟨w.heap.size + 2, 0, none⟩) /\ t 10 = .pointer (some ⟨w.heap.size + 3, 0, none⟩) /\ t 11 = .int .i64 ((thC l high.sn a).lo) /\ t 12 = .int .i64 ((thC l low.sn b).hi) /\ t 33 = .agg #[.int .i64 ((frT l low ((thC l high.sn a).lo) false).bl), .int .i64 ((frT l low ((thC l high.sn a).lo) false).wh), .int .i64 ((frT l low ((thC l high.sn a).lo) false).we), .int .i64 ((frT l low ((thC l high.sn a).lo) false).sn)] /\ t 37 = .agg #[.int .i64 ((frT l high ((thC l low.sn b).hi) true).bl), .int .i64 ((frT l high ((thC l low.sn b).hi) true).wh), .int .i64 ((frT l high ((thC l low.sn b).hi) true).we), .int .i64 ((frT l high ((thC l low.sn b).hi) true).sn)])) (L0 := [rbox (w.heap.size + 3) 28 (z8), rbox (w.heap.size + 2) 158 #[.int .i64 high.bl, .int .i64 high.wh, .int .i64 high.we, .int .i64 high.sn], rbox (w.heap.size + 1) 158 #[.int .i64 low.bl, .int .i64 low.wh, .int .i64 low.we, .int .i64 low.sn], rbox w.heap.size 26 (froC l (.slice sa l.cov.length sc)), rsl covEnc 3 lo hi (.slice sa l.cov.length sc) l.cov]) (Lm := [rbox (w.heap.size + 3) 28 (z8), rbox (w.heap.size + 2) 158 #[.int .i64 high.bl, .int .i64 high.wh, .int .i64 high.we, .int .i64 high.sn], rbox (w.heap.size + 1) 158 #[.int .i64 low.bl, .int .i64 low.wh, .int .i64 low.we, .int .i64 low.sn], rbox w.heap.size 26 (froC l (.slice sa l.cov.length sc)), rsl covEnc 3 lo hi (.slice sa l.cov.length sc) l.cov]) ?chM36 ?alM36 ⟨(by kernel_rfl), rfl, (by (iterate 11 refine ⟨by kernel_rfl, ?_⟩); exact (by kernel_rfl))⟩ ⟨F32, (by first | assumption | omega)⟩ ?restM36
 case chM36 =>
  refine Chain.callS 3 (fun t => t 5 = .pointer (some ⟨w.heap.size, 0, none⟩) /\ t 6 = .pointer (some ⟨w.heap.size + 1, 0, none⟩) /\ t 7 = .pointer (some ⟨w.heap.size + 2, 0, none⟩) /\ t 10 = .pointer (some ⟨w.heap.size + 3, 0, none⟩) /\ t 11 = .int .i64 ((thC l high.sn a).lo) /\ t 12 = .int .i64 ((thC l low.sn b).hi) /\ t 33 = .agg #[.int .i64 ((frT l low ((thC l high.sn a).lo) false).bl), .int .i64 ((frT l low ((thC l high.sn a).lo) false).wh), .int .i64 ((frT l low ((thC l high.sn a).lo) false).we), .int .i64 ((frT l low ((thC l high.sn a).lo) false).sn)] /\ t 34 = .agg (froC l (.slice sa l.cov.length sc)) /\ t 35 = .agg #[.int .i64 high.bl, .int .i64 high.wh, .int .i64 high.we, .int .i64 high.sn] /\ t 36 = .int .i64 ((thC l low.sn b).hi)) (lfm ⟨fun _ _ u => u, lfm ⟨fun _ _ u => u, fun _ h => (by cases h)⟩⟩) hSS (fun t ⟨e5, e6, e7, e10, e11, e12, e30, e31, e32, e34, e35, e36⟩ => trivial) (by kernel_rfl) ?_ ?_
  ·
   rintro t w_ LA ⟨e5, e6, e7, e10, e11, e12, e30, e31, e32, e34, e35, e36⟩ ⟨F_, hwn_⟩
   have hws := F_.gb.size
   rw [rng_rcold_c t, e5, e6, e7, e10, e11, e12, e30, e31, e32, e34, e35, e36]
   clear e5 e6 e7 e10 e11 e12 e30 e31 e32 e34 e35 e36
   refine wpOp_stepH rfl (fun K hK => ?_)
   go_simp
   refine (rfrozen_c lo hi _ l low k m ((thC l high.sn a).lo) false _ (F_.s 4 rfl) (Nat.le_trans h2 F_.gb.size) HL.out HLO.out (by omega) (by omega)).mono ?_
   rintro e w37 ⟨rfl, hg38⟩
   exact hK.out _ _ ⟨(by kernel_rfl), rfl, (by (iterate 9 refine ⟨by kernel_rfl, ?_⟩); exact (by kernel_rfl)), lfm ⟨(by kernel_rfl), lfm ⟨(by kernel_rfl), fun _ h => (by cases h)⟩⟩, ⟨F_.gn hg38, Nat.le_trans hwn_ hg38.size⟩, hSS _ _ ⟨F_.gn hg38, Nat.le_trans hwn_ hg38.size⟩⟩
  refine Chain.callS 7 (fun t => t 5 = .pointer (some ⟨w.heap.size, 0, none⟩) /\ t 6 = .pointer (some ⟨w.heap.size + 1, 0, none⟩) /\ t 7 = .pointer (some ⟨w.heap.size + 2, 0, none⟩) /\ t 10 = .pointer (some ⟨w.heap.size + 3, 0, none⟩) /\ t 11 = .int .i64 ((thC l high.sn a).lo) /\ t 12 = .int .i64 ((thC l low.sn b).hi) /\ t 33 = .agg #[.int .i64 ((frT l low ((thC l high.sn a).lo) false).bl), .int .i64 ((frT l low ((thC l high.sn a).lo) false).wh), .int .i64 ((frT l low ((thC l high.sn a).lo) false).we), .int .i64 ((frT l low ((thC l high.sn a).lo) false).sn)] /\ t 37 = .agg #[.int .i64 ((frT l high ((thC l low.sn b).hi) true).bl), .int .i64 ((frT l high ((thC l low.sn b).hi) true).wh), .int .i64 ((frT l high ((thC l low.sn b).hi) true).we), .int .i64 ((frT l high ((thC l low.sn b).hi) true).sn)]) (lfm ⟨fun _ _ u => u, lfm ⟨fun _ _ u => u, fun _ h => (by cases h)⟩⟩) hSS (fun t ⟨e5, e6, e7, e10, e11, e12, e33, e34, e35, e36⟩ => trivial) (by kernel_rfl) ?_ ?_
  ·
   rintro t w_ LA ⟨e5, e6, e7, e10, e11, e12, e33, e34, e35, e36⟩ ⟨F_, hwn_⟩
   have hws := F_.gb.size
   rw [rng_rcold_c t, e5, e6, e7, e10, e11, e12, e33, e34, e35, e36]
   clear e5 e6 e7 e10 e11 e12 e33 e34 e35 e36
   refine wpOp_stepH rfl (fun K hK => ?_)
   go_simp
   refine (rfrozen_c lo hi _ l high k m ((thC l low.sn b).hi) true _ (F_.s 4 rfl) (Nat.le_trans h2 F_.gb.size) HL.out HHI.out (by omega) (by omega)).mono ?_
   rintro e w40 ⟨rfl, hg41⟩
   exact hK.out _ _ ⟨(by kernel_rfl), rfl, (by (iterate 7 refine ⟨by kernel_rfl, ?_⟩); exact (by kernel_rfl)), lfm ⟨(by kernel_rfl), lfm ⟨(by kernel_rfl), fun _ h => (by cases h)⟩⟩, ⟨F_.gn hg41, Nat.le_trans hwn_ hg41.size⟩, hSS _ _ ⟨F_.gn hg41, Nat.le_trans hwn_ hg41.size⟩⟩
  exact Chain.nil _ _ _ (lfm ⟨fun _ _ u => u, lfm ⟨fun _ _ u => u, fun _ h => (by cases h)⟩⟩) hSS (fun t ⟨e5, e6, e7, e10, e11, e12, e33, e37⟩ => trivial)
 case alM36 => exact lfm ⟨fun _ _ _ _ h => wpOp_step rfl (fun K hK => by go_simp; exact hK _ _ h), lfm ⟨fun _ _ _ _ h => wpOp_step rfl (fun K hK => by go_simp; exact hK _ _ h), fun _ h => (by cases h)⟩⟩
 case restM36 =>
  rintro t w45 g ⟨e5, e6, e7, e10, e11, e12, e33, e37⟩ hA ⟨F_, hwnM36⟩
  clear hSS
  clear F32
  have hA0 : t 13 = .pointer (some ⟨g 8, 0, none⟩) := hA _ (.head _)
  have hA1 : t 14 = .pointer (some ⟨g 9, 0, none⟩) := hA _ (.tail _ (.head _))
  have F46 : Bun w [rbox (g 8) 158 #[.int .i64 0, .int .i64 0, .int .i64 0, .int .i64 0], rbox (g 9) 158 #[.int .i64 0, .int .i64 0, .int .i64 0, .int .i64 0], rbox (w.heap.size + 3) 28 (z8), rbox (w.heap.size + 2) 158 #[.int .i64 high.bl, .int .i64 high.wh, .int .i64 high.we, .int .i64 high.sn], rbox (w.heap.size + 1) 158 #[.int .i64 low.bl, .int .i64 low.wh, .int .i64 low.we, .int .i64 low.sn], rbox w.heap.size 26 (froC l (.slice sa l.cov.length sc)), rsl covEnc 3 lo hi (.slice sa l.cov.length sc) l.cov] w45 := F_
  clear hA F_
  obtain ⟨g43, hgx_⟩ : ∃ x_, g 8 = x_ := ⟨_, rfl⟩
  rw [hgx_] at hA0 F46; clear hgx_
  obtain ⟨g44, hgx_⟩ : ∃ x_, g 9 = x_ := ⟨_, rfl⟩
  rw [hgx_] at hA1 F46; clear hgx_
  have hws := F46.gb.size
  have g43l := (F46.bx4 0 rfl).2.2
  have g44l := (F46.bx4 1 rfl).2.2
  rw [rng_rcold_c t, e5, e6, e7, e10, e11, e12, e33, e37, hA0, hA1]
  clear e5 e6 e7 e10 e11 e12 e33 e37 hA0 hA1
  refine ru_o 10 fun K hK => ?_
  have kb_ := F46.bx4 0 rfl
  go_simp
  clear kb_
  replace F46 := F46.pt4 (.int .i64 ((frT l low ((thC l high.sn a).lo) false).bl)) (.int .i64 ((frT l low ((thC l high.sn a).lo) false).wh)) (.int .i64 ((frT l low ((thC l high.sn a).lo) false).we)) (.int .i64 ((frT l low ((thC l high.sn a).lo) false).sn))
  refine ru_back hK (by exact ⟨F46.q 5 0, F46.q 5 1, F46.q 5 2, F46.q 5 3, F46.q 5 4, F46.q 5 5, F46.q 5 6, F46.q 5 7, F46.q 4 0, F46.q 4 1, F46.q 4 2, F46.q 4 3, F46.q 3 0, F46.q 3 1, F46.q 3 2, F46.q 3 3⟩) (fun _ => ?_)
  clear hK K
  (try simp only [lpX])
  refine ru_o 11 fun K hK => ?_
  have kb_ := F46.bx4 1 rfl
  go_simp
  clear kb_
  have F48 := (F46.front 1 rfl rfl).pt4 (.int .i64 ((frT l high ((thC l low.sn b).hi) true).bl)) (.int .i64 ((frT l high ((thC l low.sn b).hi) true).wh)) (.int .i64 ((frT l high ((thC l low.sn b).hi) true).we)) (.int .i64 ((frT l high ((thC l low.sn b).hi) true).sn))
  clear F46
  refine ru_back_late hK (by kernel_rfl) ?_
  clear hK K
  (try simp only [lpX])
  refine ru_done (by kernel_rfl) ?_
  have Fn_ := F48
  (try dsimp only [lpF, lpG] at Fn_)
  obtain ⟨w49, hx50, F52, hxs51⟩ := Fn_.name
  (try simp at hxs51)
  rw [hx50]
  clear hx50 F48 Fn_
  go_wp2_with fail
  replace F52 := F52.drew
  refine ru_begin (fun W => W.cell? ⟨w.heap.size, 0, none⟩ = some (.int .i64 l.gr) /\ W.cell? ⟨w.heap.size, 1, none⟩ = some (.int .i64 l.la) /\ W.cell? ⟨w.heap.size, 2, none⟩ = some (.slice sa l.cov.length sc) /\ W.cell? ⟨w.heap.size, 3, none⟩ = some (.int .i64 l.melt.lo) /\ W.cell? ⟨w.heap.size, 4, none⟩ = some (.int .i64 l.melt.hi) /\ W.cell? ⟨w.heap.size, 5, none⟩ = some (.int .i64 l.soak) /\ W.cell? ⟨w.heap.size, 6, none⟩ = some (.int .i64 l.white.lo) /\ W.cell? ⟨w.heap.size, 7, none⟩ = some (.int .i64 l.white.hi) /\ W.cell? ⟨(w.heap.size + 1), 0, none⟩ = some (.int .i64 low.bl) /\ W.cell? ⟨(w.heap.size + 1), 1, none⟩ = some (.int .i64 low.wh) /\ W.cell? ⟨(w.heap.size + 1), 2, none⟩ = some (.int .i64 low.we) /\ W.cell? ⟨(w.heap.size + 1), 3, none⟩ = some (.int .i64 low.sn) /\ W.cell? ⟨(w.heap.size + 2), 0, none⟩ = some (.int .i64 high.bl) /\ W.cell? ⟨(w.heap.size + 2), 1, none⟩ = some (.int .i64 high.wh) /\ W.cell? ⟨(w.heap.size + 2), 2, none⟩ = some (.int .i64 high.we) /\ W.cell? ⟨(w.heap.size + 2), 3, none⟩ = some (.int .i64 high.sn)) 12 (by kernel_rfl) ?_ ?_
  · exact ⟨F52.q 5 0, F52.q 5 1, F52.q 5 2, F52.q 5 3, F52.q 5 4, F52.q 5 5, F52.q 5 6, F52.q 5 7, F52.q 4 0, F52.q 4 1, F52.q 4 2, F52.q 4 3, F52.q 3 0, F52.q 3 1, F52.q 3 2, F52.q 3 3⟩
  obtain ⟨wd55, hwd_⟩ : ∃ x : World, w49.drew = x := ⟨_, rfl⟩
  rw [hwd_] at F52 ⊢
  have wd55s : w49.heap.size <= wd55.heap.size := by rw [← hwd_]; exact Nat.le_refl _
  clear hwd_
  have hS54 := (And.intro (F52.q 5 0) (And.intro (F52.q 5 1) (And.intro (F52.q 5 2) (And.intro (F52.q 5 3) (And.intro (F52.q 5 4) (And.intro (F52.q 5 5) (And.intro (F52.q 5 6) (And.intro (F52.q 5 7) (And.intro (F52.q 4 0) (And.intro (F52.q 4 1) (And.intro (F52.q 4 2) (And.intro (F52.q 4 3) (And.intro (F52.q 3 0) (And.intro (F52.q 3 1) (And.intro (F52.q 3 2) (F52.q 3 3))))))))))))))))
  refine ru_t 0 [] ?_
  refine ru_t 1 [] ?_
  refine ru_t 2 [] ?_
  refine ru_t 5 [] ?_
  refine ru_t 6 [] ?_
  refine ru_t 7 [] ?_
  (try simp only [lpX])
  clear hS54
  have hSS : ∀ (LA : List Res) (W : World), Bun w ([rbox g44 158 #[.int .i64 ((frT l high ((thC l low.sn b).hi) true).bl), .int .i64 ((frT l high ((thC l low.sn b).hi) true).wh), .int .i64 ((frT l high ((thC l low.sn b).hi) true).we), .int .i64 ((frT l high ((thC l low.sn b).hi) true).sn)], rbox g43 158 #[.int .i64 ((frT l low ((thC l high.sn a).lo) false).bl), .int .i64 ((frT l low ((thC l high.sn a).lo) false).wh), .int .i64 ((frT l low ((thC l high.sn a).lo) false).we), .int .i64 ((frT l low ((thC l high.sn a).lo) false).sn)], rbox (w.heap.size + 3) 28 (z8), rbox (w.heap.size + 2) 158 #[.int .i64 high.bl, .int .i64 high.wh, .int .i64 high.we, .int .i64 high.sn], rbox (w.heap.size + 1) 158 #[.int .i64 low.bl, .int .i64 low.wh, .int .i64 low.we, .int .i64 low.sn], rbox w.heap.size 26 (froC l (.slice sa l.cov.length sc)), rsl covEnc 3 lo hi (.slice sa l.cov.length sc) l.cov] ++ LA) W /\ w49.heap.size <= W.heap.size -> W.cell? ⟨w.heap.size, 0, none⟩ = some (.int .i64 l.gr) /\ W.cell? ⟨w.heap.size, 1, none⟩ = some (.int .i64 l.la) /\ W.cell? ⟨w.heap.size, 2, none⟩ = some (.slice sa l.cov.length sc) /\ W.cell? ⟨w.heap.size, 3, none⟩ = some (.int .i64 l.melt.lo) /\ W.cell? ⟨w.heap.size, 4, none⟩ = some (.int .i64 l.melt.hi) /\ W.cell? ⟨w.heap.size, 5, none⟩ = some (.int .i64 l.soak) /\ W.cell? ⟨w.heap.size, 6, none⟩ = some (.int .i64 l.white.lo) /\ W.cell? ⟨w.heap.size, 7, none⟩ = some (.int .i64 l.white.hi) /\ W.cell? ⟨(w.heap.size + 1), 0, none⟩ = some (.int .i64 low.bl) /\ W.cell? ⟨(w.heap.size + 1), 1, none⟩ = some (.int .i64 low.wh) /\ W.cell? ⟨(w.heap.size + 1), 2, none⟩ = some (.int .i64 low.we) /\ W.cell? ⟨(w.heap.size + 1), 3, none⟩ = some (.int .i64 low.sn) /\ W.cell? ⟨(w.heap.size + 2), 0, none⟩ = some (.int .i64 high.bl) /\ W.cell? ⟨(w.heap.size + 2), 1, none⟩ = some (.int .i64 high.wh) /\ W.cell? ⟨(w.heap.size + 2), 2, none⟩ = some (.int .i64 high.we) /\ W.cell? ⟨(w.heap.size + 2), 3, none⟩ = some (.int .i64 high.sn) := fun _ _ ⟨F_, _⟩ => ⟨F_.q 5 0, F_.q 5 1, F_.q 5 2, F_.q 5 3, F_.q 5 4, F_.q 5 5, F_.q 5 6, F_.q 5 7, F_.q 4 0, F_.q 4 1, F_.q 4 2, F_.q 4 3, F_.q 3 0, F_.q 3 1, F_.q 3 2, F_.q 3 3⟩
  refine ru_mix (goodBunS _ w49.heap.size) 86 [⟨11, 15, 24, #[.int .i64 0, .int .i64 0], ptrOf⟩] [3, 4, 8, 9, 10] 1 (by kernel_rfl) (by kernel_rfl) (fun _ _ _ _ _ h => h) (V := fun t => True) (U0 := (fun t => t 5 = .pointer (some ⟨w.heap.size, 0, none⟩) /\ t 6 = .pointer (some ⟨w.heap.size + 1, 0, none⟩) /\ t 7 = .pointer (some ⟨w.heap.size + 2, 0, none⟩) /\ t 10 = .pointer (some ⟨w.heap.size + 3, 0, none⟩) /\ t 11 = .int .i64 ((thC l high.sn a).lo) /\ t 12 = .int .i64 ((thC l low.sn b).hi) /\ t 13 = .pointer (some ⟨g43, 0, none⟩) /\ t 14 = .pointer (some ⟨g44, 0, none⟩) /\ t 38 = .agg (froC l (.slice sa l.cov.length sc)) /\ t 39 = .agg #[.int .i64 low.bl, .int .i64 low.wh, .int .i64 low.we, .int .i64 low.sn] /\ t 40 = .int .i64 ((thC l low.sn b).hi) /\ t 43 = .agg (froC l (.slice sa l.cov.length sc)) /\ t 44 = .agg #[.int .i64 high.bl, .int .i64 high.wh, .int .i64 high.we, .int .i64 high.sn] /\ t 45 = .int .i64 ((thC l high.sn a).lo))) (Um := (fun t => t 5 = .pointer (some ⟨w.heap.size, 0, none⟩) /\ t 6 = .pointer (some ⟨w.heap.size + 1, 0, none⟩) /\ t 7 = .pointer (some ⟨w.heap.size + 2, 0, none⟩) /\ t 10 = .pointer (some ⟨w.heap.size + 3, 0, none⟩) /\ t 11 = .int .i64 ((thC l high.sn a).lo) /\ t 12 = .int .i64 ((thC l low.sn b).hi) /\ t 13 = .pointer (some ⟨g43, 0, none⟩) /\ t 14 = .pointer (some ⟨g44, 0, none⟩) /\ t 48 = .agg #[.int .i64 ((frT l low ((thC l low.sn b).hi) false).we), .int .i64 ((frT l high ((thC l high.sn a).lo) false).we)])) (L0 := [rbox g44 158 #[.int .i64 ((frT l high ((thC l low.sn b).hi) true).bl), .int .i64 ((frT l high ((thC l low.sn b).hi) true).wh), .int .i64 ((frT l high ((thC l low.sn b).hi) true).we), .int .i64 ((frT l high ((thC l low.sn b).hi) true).sn)], rbox g43 158 #[.int .i64 ((frT l low ((thC l high.sn a).lo) false).bl), .int .i64 ((frT l low ((thC l high.sn a).lo) false).wh), .int .i64 ((frT l low ((thC l high.sn a).lo) false).we), .int .i64 ((frT l low ((thC l high.sn a).lo) false).sn)], rbox (w.heap.size + 3) 28 (z8), rbox (w.heap.size + 2) 158 #[.int .i64 high.bl, .int .i64 high.wh, .int .i64 high.we, .int .i64 high.sn], rbox (w.heap.size + 1) 158 #[.int .i64 low.bl, .int .i64 low.wh, .int .i64 low.we, .int .i64 low.sn], rbox w.heap.size 26 (froC l (.slice sa l.cov.length sc)), rsl covEnc 3 lo hi (.slice sa l.cov.length sc) l.cov]) (Lm := [rbox g44 158 #[.int .i64 ((frT l high ((thC l low.sn b).hi) true).bl), .int .i64 ((frT l high ((thC l low.sn b).hi) true).wh), .int .i64 ((frT l high ((thC l low.sn b).hi) true).we), .int .i64 ((frT l high ((thC l low.sn b).hi) true).sn)], rbox g43 158 #[.int .i64 ((frT l low ((thC l high.sn a).lo) false).bl), .int .i64 ((frT l low ((thC l high.sn a).lo) false).wh), .int .i64 ((frT l low ((thC l high.sn a).lo) false).we), .int .i64 ((frT l low ((thC l high.sn a).lo) false).sn)], rbox (w.heap.size + 3) 28 (z8), rbox (w.heap.size + 2) 158 #[.int .i64 high.bl, .int .i64 high.wh, .int .i64 high.we, .int .i64 high.sn], rbox (w.heap.size + 1) 158 #[.int .i64 low.bl, .int .i64 low.wh, .int .i64 low.we, .int .i64 low.sn], rbox w.heap.size 26 (froC l (.slice sa l.cov.length sc)), rsl covEnc 3 lo hi (.slice sa l.cov.length sc) l.cov]) ?chM56 ?alM56 ⟨(by kernel_rfl), rfl, (by (iterate 13 refine ⟨by kernel_rfl, ?_⟩); exact (by kernel_rfl))⟩ ⟨F52, (by first | assumption | omega)⟩ ?restM56
  case chM56 =>
   refine Chain.callS 3 (fun t => t 5 = .pointer (some ⟨w.heap.size, 0, none⟩) /\ t 6 = .pointer (some ⟨w.heap.size + 1, 0, none⟩) /\ t 7 = .pointer (some ⟨w.heap.size + 2, 0, none⟩) /\ t 10 = .pointer (some ⟨w.heap.size + 3, 0, none⟩) /\ t 11 = .int .i64 ((thC l high.sn a).lo) /\ t 12 = .int .i64 ((thC l low.sn b).hi) /\ t 13 = .pointer (some ⟨g43, 0, none⟩) /\ t 14 = .pointer (some ⟨g44, 0, none⟩) /\ t 41 = .agg #[.int .i64 ((frT l low ((thC l low.sn b).hi) false).bl), .int .i64 ((frT l low ((thC l low.sn b).hi) false).wh), .int .i64 ((frT l low ((thC l low.sn b).hi) false).we), .int .i64 ((frT l low ((thC l low.sn b).hi) false).sn)] /\ t 43 = .agg (froC l (.slice sa l.cov.length sc)) /\ t 44 = .agg #[.int .i64 high.bl, .int .i64 high.wh, .int .i64 high.we, .int .i64 high.sn] /\ t 45 = .int .i64 ((thC l high.sn a).lo)) (lfm ⟨fun _ _ u => u, fun _ h => (by cases h)⟩) hSS (fun t ⟨e5, e6, e7, e10, e11, e12, e13, e14, e38, e39, e40, e43, e44, e45⟩ => trivial) (by kernel_rfl) ?_ ?_
   ·
    rintro t w_ LA ⟨e5, e6, e7, e10, e11, e12, e13, e14, e38, e39, e40, e43, e44, e45⟩ ⟨F_, hwn_⟩
    have hws := F_.gb.size
    rw [rng_rcold_c t, e5, e6, e7, e10, e11, e12, e13, e14, e38, e39, e40, e43, e44, e45]
    clear e5 e6 e7 e10 e11 e12 e13 e14 e38 e39 e40 e43 e44 e45
    refine wpOp_stepH rfl (fun K hK => ?_)
    go_simp
    refine (rfrozen_c lo hi _ l low k m ((thC l low.sn b).hi) false _ (F_.s 6 rfl) (Nat.le_trans h2 F_.gb.size) HL.out HLO.out (by omega) (by omega)).mono ?_
    rintro e w57 ⟨rfl, hg58⟩
    exact hK.out _ _ ⟨(by kernel_rfl), rfl, (by (iterate 11 refine ⟨by kernel_rfl, ?_⟩); exact (by kernel_rfl)), lfm ⟨(by kernel_rfl), fun _ h => (by cases h)⟩, ⟨F_.gn hg58, Nat.le_trans hwn_ hg58.size⟩, hSS _ _ ⟨F_.gn hg58, Nat.le_trans hwn_ hg58.size⟩⟩
   refine Chain.pureS 4 (fun t => t 5 = .pointer (some ⟨w.heap.size, 0, none⟩) /\ t 6 = .pointer (some ⟨w.heap.size + 1, 0, none⟩) /\ t 7 = .pointer (some ⟨w.heap.size + 2, 0, none⟩) /\ t 10 = .pointer (some ⟨w.heap.size + 3, 0, none⟩) /\ t 11 = .int .i64 ((thC l high.sn a).lo) /\ t 12 = .int .i64 ((thC l low.sn b).hi) /\ t 13 = .pointer (some ⟨g43, 0, none⟩) /\ t 14 = .pointer (some ⟨g44, 0, none⟩) /\ t 42 = .int .i64 ((frT l low ((thC l low.sn b).hi) false).we) /\ t 43 = .agg (froC l (.slice sa l.cov.length sc)) /\ t 44 = .agg #[.int .i64 high.bl, .int .i64 high.wh, .int .i64 high.we, .int .i64 high.sn] /\ t 45 = .int .i64 ((thC l high.sn a).lo)) rfl (lfm ⟨fun _ _ u => u, fun _ h => (by cases h)⟩) hSS (fun t ⟨e5, e6, e7, e10, e11, e12, e13, e14, e41, e43, e44, e45⟩ => trivial) (by kernel_rfl) ?_ ?_
   ·
    rintro t ⟨e5, e6, e7, e10, e11, e12, e13, e14, e41, e43, e44, e45⟩
    rw [rng_rcold_c t, e5, e6, e7, e10, e11, e12, e13, e14, e41, e43, e44, e45]
    clear e5 e6 e7 e10 e11 e12 e13 e14 e41 e43 e44 e45
    have hi60 : ∀ w, (Instr.field 158 (.agg #[.int .i64 ((frT l low ((thC l low.sn b).hi) false).bl), .int .i64 ((frT l low ((thC l low.sn b).hi) false).wh), .int .i64 ((frT l low ((thC l low.sn b).hi) false).we), .int .i64 ((frT l low ((thC l low.sn b).hi) false).sn)]) 2).run Tryz.prog w = .ok (.int .i64 ((frT l low ((thC l low.sn b).hi) false).we)) w := fun _ => by kernel_rfl
    refine ⟨.int .i64 ((frT l low ((thC l low.sn b).hi) false).we), .inl ⟨by first | kernel_rfl | rfl, ?_⟩, ⟨(by kernel_rfl), rfl⟩, (by (iterate 11 refine ⟨by kernel_rfl, ?_⟩); exact (by kernel_rfl)), lfm ⟨(by kernel_rfl), fun _ h => (by cases h)⟩⟩
    intro wS _
    go_simp
    (try with_reducible rfl)
   refine Chain.callS 8 (fun t => t 5 = .pointer (some ⟨w.heap.size, 0, none⟩) /\ t 6 = .pointer (some ⟨w.heap.size + 1, 0, none⟩) /\ t 7 = .pointer (some ⟨w.heap.size + 2, 0, none⟩) /\ t 10 = .pointer (some ⟨w.heap.size + 3, 0, none⟩) /\ t 11 = .int .i64 ((thC l high.sn a).lo) /\ t 12 = .int .i64 ((thC l low.sn b).hi) /\ t 13 = .pointer (some ⟨g43, 0, none⟩) /\ t 14 = .pointer (some ⟨g44, 0, none⟩) /\ t 42 = .int .i64 ((frT l low ((thC l low.sn b).hi) false).we) /\ t 46 = .agg #[.int .i64 ((frT l high ((thC l high.sn a).lo) false).bl), .int .i64 ((frT l high ((thC l high.sn a).lo) false).wh), .int .i64 ((frT l high ((thC l high.sn a).lo) false).we), .int .i64 ((frT l high ((thC l high.sn a).lo) false).sn)]) (lfm ⟨fun _ _ u => u, fun _ h => (by cases h)⟩) hSS (fun t ⟨e5, e6, e7, e10, e11, e12, e13, e14, e42, e43, e44, e45⟩ => trivial) (by kernel_rfl) ?_ ?_
   ·
    rintro t w_ LA ⟨e5, e6, e7, e10, e11, e12, e13, e14, e42, e43, e44, e45⟩ ⟨F_, hwn_⟩
    have hws := F_.gb.size
    rw [rng_rcold_c t, e5, e6, e7, e10, e11, e12, e13, e14, e42, e43, e44, e45]
    clear e5 e6 e7 e10 e11 e12 e13 e14 e42 e43 e44 e45
    refine wpOp_stepH rfl (fun K hK => ?_)
    go_simp
    refine (rfrozen_c lo hi _ l high k m ((thC l high.sn a).lo) false _ (F_.s 6 rfl) (Nat.le_trans h2 F_.gb.size) HL.out HHI.out (by omega) (by omega)).mono ?_
    rintro e w61 ⟨rfl, hg62⟩
    exact hK.out _ _ ⟨(by kernel_rfl), rfl, (by (iterate 9 refine ⟨by kernel_rfl, ?_⟩); exact (by kernel_rfl)), lfm ⟨(by kernel_rfl), fun _ h => (by cases h)⟩, ⟨F_.gn hg62, Nat.le_trans hwn_ hg62.size⟩, hSS _ _ ⟨F_.gn hg62, Nat.le_trans hwn_ hg62.size⟩⟩
   refine Chain.pureS 9 (fun t => t 5 = .pointer (some ⟨w.heap.size, 0, none⟩) /\ t 6 = .pointer (some ⟨w.heap.size + 1, 0, none⟩) /\ t 7 = .pointer (some ⟨w.heap.size + 2, 0, none⟩) /\ t 10 = .pointer (some ⟨w.heap.size + 3, 0, none⟩) /\ t 11 = .int .i64 ((thC l high.sn a).lo) /\ t 12 = .int .i64 ((thC l low.sn b).hi) /\ t 13 = .pointer (some ⟨g43, 0, none⟩) /\ t 14 = .pointer (some ⟨g44, 0, none⟩) /\ t 42 = .int .i64 ((frT l low ((thC l low.sn b).hi) false).we) /\ t 47 = .int .i64 ((frT l high ((thC l high.sn a).lo) false).we)) rfl (lfm ⟨fun _ _ u => u, fun _ h => (by cases h)⟩) hSS (fun t ⟨e5, e6, e7, e10, e11, e12, e13, e14, e42, e46⟩ => trivial) (by kernel_rfl) ?_ ?_
   ·
    rintro t ⟨e5, e6, e7, e10, e11, e12, e13, e14, e42, e46⟩
    rw [rng_rcold_c t, e5, e6, e7, e10, e11, e12, e13, e14, e42, e46]
    clear e5 e6 e7 e10 e11 e12 e13 e14 e42 e46
    have hi64 : ∀ w, (Instr.field 158 (.agg #[.int .i64 ((frT l high ((thC l high.sn a).lo) false).bl), .int .i64 ((frT l high ((thC l high.sn a).lo) false).wh), .int .i64 ((frT l high ((thC l high.sn a).lo) false).we), .int .i64 ((frT l high ((thC l high.sn a).lo) false).sn)]) 2).run Tryz.prog w = .ok (.int .i64 ((frT l high ((thC l high.sn a).lo) false).we)) w := fun _ => by kernel_rfl
    refine ⟨.int .i64 ((frT l high ((thC l high.sn a).lo) false).we), .inl ⟨by first | kernel_rfl | rfl, ?_⟩, ⟨(by kernel_rfl), rfl⟩, (by (iterate 9 refine ⟨by kernel_rfl, ?_⟩); exact (by kernel_rfl)), lfm ⟨(by kernel_rfl), fun _ h => (by cases h)⟩⟩
    intro wS _
    go_simp
    (try with_reducible rfl)
   refine Chain.pureS 10 (fun t => t 5 = .pointer (some ⟨w.heap.size, 0, none⟩) /\ t 6 = .pointer (some ⟨w.heap.size + 1, 0, none⟩) /\ t 7 = .pointer (some ⟨w.heap.size + 2, 0, none⟩) /\ t 10 = .pointer (some ⟨w.heap.size + 3, 0, none⟩) /\ t 11 = .int .i64 ((thC l high.sn a).lo) /\ t 12 = .int .i64 ((thC l low.sn b).hi) /\ t 13 = .pointer (some ⟨g43, 0, none⟩) /\ t 14 = .pointer (some ⟨g44, 0, none⟩) /\ t 48 = .agg #[.int .i64 ((frT l low ((thC l low.sn b).hi) false).we), .int .i64 ((frT l high ((thC l high.sn a).lo) false).we)]) rfl (lfm ⟨fun _ _ u => u, fun _ h => (by cases h)⟩) hSS (fun t ⟨e5, e6, e7, e10, e11, e12, e13, e14, e42, e47⟩ => trivial) (by kernel_rfl) ?_ ?_
   ·
    rintro t ⟨e5, e6, e7, e10, e11, e12, e13, e14, e42, e47⟩
    rw [rng_rcold_c t, e5, e6, e7, e10, e11, e12, e13, e14, e42, e47]
    clear e5 e6 e7 e10 e11 e12 e13 e14 e42 e47
    refine ⟨.agg #[.int .i64 ((frT l low ((thC l low.sn b).hi) false).we), .int .i64 ((frT l high ((thC l high.sn a).lo) false).we)], .inl ⟨by first | kernel_rfl | rfl, ?_⟩, ⟨(by kernel_rfl), rfl⟩, (by (iterate 8 refine ⟨by kernel_rfl, ?_⟩); exact (by kernel_rfl)), lfm ⟨(by kernel_rfl), fun _ h => (by cases h)⟩⟩
    intro wS _
    go_simp
    (try with_reducible rfl)
   exact Chain.nil _ _ _ (lfm ⟨fun _ _ u => u, fun _ h => (by cases h)⟩) hSS (fun t ⟨e5, e6, e7, e10, e11, e12, e13, e14, e48⟩ => trivial)
  case alM56 => exact lfm ⟨fun _ _ _ _ h => wpOp_step rfl (fun K hK => by go_simp; exact hK _ _ h), fun _ h => (by cases h)⟩
  case restM56 =>
   rintro t w66 g ⟨e5, e6, e7, e10, e11, e12, e13, e14, e48⟩ hA ⟨F_, hwnM56⟩
   clear hSS
   clear F52
   have hA0 : t 15 = .pointer (some ⟨g 11, 0, none⟩) := hA _ (.head _)
   have F67 : Bun w [rbox (g 11) 24 #[.int .i64 0, .int .i64 0], rbox g44 158 #[.int .i64 ((frT l high ((thC l low.sn b).hi) true).bl), .int .i64 ((frT l high ((thC l low.sn b).hi) true).wh), .int .i64 ((frT l high ((thC l low.sn b).hi) true).we), .int .i64 ((frT l high ((thC l low.sn b).hi) true).sn)], rbox g43 158 #[.int .i64 ((frT l low ((thC l high.sn a).lo) false).bl), .int .i64 ((frT l low ((thC l high.sn a).lo) false).wh), .int .i64 ((frT l low ((thC l high.sn a).lo) false).we), .int .i64 ((frT l low ((thC l high.sn a).lo) false).sn)], rbox (w.heap.size + 3) 28 (z8), rbox (w.heap.size + 2) 158 #[.int .i64 high.bl, .int .i64 high.wh, .int .i64 high.we, .int .i64 high.sn], rbox (w.heap.size + 1) 158 #[.int .i64 low.bl, .int .i64 low.wh, .int .i64 low.we, .int .i64 low.sn], rbox w.heap.size 26 (froC l (.slice sa l.cov.length sc)), rsl covEnc 3 lo hi (.slice sa l.cov.length sc) l.cov] w66 := F_
   clear hA F_
   obtain ⟨g65, hgx_⟩ : ∃ x_, g 11 = x_ := ⟨_, rfl⟩
   rw [hgx_] at hA0 F67; clear hgx_
   have hws := F67.gb.size
   have g65l := (F67.bx2 0 rfl).2.2
   rw [rng_rcold_c t, e5, e6, e7, e10, e11, e12, e13, e14, e48, hA0]
   clear e5 e6 e7 e10 e11 e12 e13 e14 e48 hA0
   refine ru_o 12 fun K hK => ?_
   have kb_ := F67.bx2 0 rfl
   go_simp
   clear kb_
   replace F67 := F67.pt2 (.int .i64 ((frT l low ((thC l low.sn b).hi) false).we)) (.int .i64 ((frT l high ((thC l high.sn a).lo) false).we))
   refine ru_back_late hK (by kernel_rfl) ?_
   clear hK K
   (try simp only [lpX])
   refine ru_done (by kernel_rfl) ?_
   have Fn_ := F67
   (try dsimp only [lpF, lpG] at Fn_)
   obtain ⟨w69, hx70, F72, hxs71⟩ := Fn_.name
   (try simp at hxs71)
   rw [hx70]
   clear hx70 F67 Fn_
   have b73 := F72.bx4 4 rfl
   have b74 := F72.bx4 5 rfl
   have b75 := F72.bx8 6 rfl
   go_wp2_with fail
   clear b73 b74 b75
   refine (rfrozen_c lo hi _ l (⟨low.bl, high.wh, high.we, 0⟩) k m ((thC l high.sn a).lo) false _ (F72.s 7 rfl) (Nat.le_trans h2 F72.gb.size) HL.out (⟨by have := HLO.out.bl; have := HHI.out.bl; simp only; omega, by have := HLO.out.wh; have := HHI.out.wh; simp only; omega, by have := HLO.out.we; have := HHI.out.we; simp only; omega, Int.le_refl _, by have := HLO.out.sum; have := HLO.out.sn; have := HHI.out.sum; have := HHI.out.sn; simp only; omega⟩) (by omega) (by omega)).mono ?_
   rintro e w78 ⟨rfl, hg76⟩
   have hg76s := hg76.size
   (try simp at hg76s)
   replace F72 := F72.gn hg76
   clear hg76
   have b80 := F72.bx4 4 rfl
   have b81 := F72.bx4 5 rfl
   have b82 := F72.bx8 6 rfl
   go_wp2_with fail
   clear b80 b81 b82
   replace F72 := F72.new 158 #[.int .i64 ((frT l ⟨low.bl, high.wh, high.we, 0⟩ ((thC l high.sn a).lo) false).bl), .int .i64 ((frT l ⟨low.bl, high.wh, high.we, 0⟩ ((thC l high.sn a).lo) false).wh), .int .i64 ((frT l ⟨low.bl, high.wh, high.we, 0⟩ ((thC l high.sn a).lo) false).we), .int .i64 ((frT l ⟨low.bl, high.wh, high.we, 0⟩ ((thC l high.sn a).lo) false).sn)] (n := w78.heap.size) (by simp)
   refine (rfrozen_c lo hi _ l (⟨high.bl, low.wh, low.we, 0⟩) k m ((thC l low.sn b).hi) true _ (F72.s 8 rfl) (Nat.le_trans h2 F72.gb.size) HL.out (⟨by have := HLO.out.bl; have := HHI.out.bl; simp only; omega, by have := HLO.out.wh; have := HHI.out.wh; simp only; omega, by have := HLO.out.we; have := HHI.out.we; simp only; omega, Int.le_refl _, by have := HLO.out.sum; have := HLO.out.sn; have := HHI.out.sum; have := HHI.out.sn; simp only; omega⟩) (by omega) (by omega)).mono ?_
   rintro e w86 ⟨rfl, hg84⟩
   have hg84s := hg84.size
   (try simp at hg84s)
   replace F72 := F72.gn hg84
   clear hg84
   have Hx88 := lhd (show ((rcold l low high a b).bl.lo) = (frT l ⟨low.bl, high.wh, high.we, 0⟩ ((thC l high.sn a).lo) false).bl by rfl)
   have Hx89 := lhd (show ((rcold l low high a b).bl.hi) = (frT l ⟨high.bl, low.wh, low.we, 0⟩ ((thC l low.sn b).hi) true).bl by rfl)
   have Hx90 := lhd (show ((rcold l low high a b).wh.lo) = (frT l low ((thC l high.sn a).lo) false).wh by rfl)
   have Hx91 := lhd (show ((rcold l low high a b).wh.hi) = (frT l high ((thC l low.sn b).hi) true).wh by rfl)
   have Hx92 := lhd (show ((rcold l low high a b).we.lo) = (frT l low ((thC l low.sn b).hi) false).we by rfl)
   have Hx93 := lhd (show ((rcold l low high a b).we.hi) = (frT l high ((thC l high.sn a).lo) false).we by rfl)
   have Hx94 := lhd (show ((rcold l low high a b).sn.lo) = low.sn by rfl)
   have Hx95 := lhd (show ((rcold l low high a b).sn.hi) = high.sn by rfl)
   have b96 := F72.bx4 0 rfl
   have b97 := F72.bx2 1 rfl
   have b98 := F72.bx4 2 rfl
   have b99 := F72.bx4 3 rfl
   have b100 := F72.bx8 4 rfl
   have b101 := F72.bx4 5 rfl
   have b102 := F72.bx4 6 rfl
   go_wp2_with fail
   clear b96 b97 b98 b99 b100 b101 b102
   have F103 := (F72.front 4 rfl rfl).pt8 (.int .i64 ((frT l ⟨low.bl, high.wh, high.we, 0⟩ ((thC l high.sn a).lo) false).bl)) (.int .i64 ((frT l ⟨high.bl, low.wh, low.we, 0⟩ ((thC l low.sn b).hi) true).bl)) (.int .i64 ((frT l low ((thC l high.sn a).lo) false).wh)) (.int .i64 ((frT l high ((thC l low.sn b).hi) true).wh)) (.int .i64 ((frT l low ((thC l low.sn b).hi) false).we)) (.int .i64 ((frT l high ((thC l high.sn a).lo) false).we)) (.int .i64 low.sn) (.int .i64 high.sn)
   clear F72
   replace F103 := F103.new 158 #[.int .i64 ((frT l ⟨high.bl, low.wh, low.we, 0⟩ ((thC l low.sn b).hi) true).bl), .int .i64 ((frT l ⟨high.bl, low.wh, low.we, 0⟩ ((thC l low.sn b).hi) true).wh), .int .i64 ((frT l ⟨high.bl, low.wh, low.we, 0⟩ ((thC l low.sn b).hi) true).we), .int .i64 ((frT l ⟨high.bl, low.wh, low.we, 0⟩ ((thC l low.sn b).hi) true).sn)] (n := w86.heap.size) (by simp)
   have kb105 := F103.bx8 1 rfl
   go_wp2_with fail
   exact bodyPost_ret (v := .agg #[.int .i64 ((frT l ⟨low.bl, high.wh, high.we, 0⟩ ((thC l high.sn a).lo) false).bl), .int .i64 ((frT l ⟨high.bl, low.wh, low.we, 0⟩ ((thC l low.sn b).hi) true).bl), .int .i64 ((frT l low ((thC l high.sn a).lo) false).wh), .int .i64 ((frT l high ((thC l low.sn b).hi) true).wh), .int .i64 ((frT l low ((thC l low.sn b).hi) false).we), .int .i64 ((frT l high ((thC l high.sn a).lo) false).we), .int .i64 low.sn, .int .i64 high.sn]) (by simp [results, Tryz.results102, go_sem, kb105]) rfl (⟨by rw [Hx88.out, Hx89.out, Hx90.out, Hx91.out, Hx92.out, Hx93.out, Hx94.out, Hx95.out] <;> rfl, F103.gb⟩)
end Go.Proofs.YtkclabflkocbaaaGreat
