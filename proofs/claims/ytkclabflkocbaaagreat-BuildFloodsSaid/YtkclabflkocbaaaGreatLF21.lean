/- the reference of frost: a warm day. -/
import Derived.Test.YtkclabflkocbaaaGreatLKF2
import Derived.Test.YtkclabflkocbaaaGreatLK1
set_option linter.unusedVariables false
set_option linter.unusedSimpArgs false
set_option linter.unnecessarySimpa false
namespace Go.Proofs.YtkclabflkocbaaaGreat
open Go.RowKit
set_option maxRecDepth 100000
theorem rng_rwarm_c (t : Nat -> Value) : ((List.range 46).map t).toArray = List.toArray [t 0, t 1, t 2, t 3, t 4, t 5, t 6, t 7, t 8, t 9, t 10, t 11, t 12, t 13, t 14, t 15, t 16, t 17, t 18, t 19, t 20, t 21, t 22, t 23, t 24, t 25, t 26, t 27, t 28, t 29, t 30, t 31, t 32, t 33, t 34, t 35, t 36, t 37, t 38, t 39, t 40, t 41, t 42, t 43, t 44, t 45] := rfl
set_option maxHeartbeats 16000000 in
theorem rwarm_c (lo hi : Nat) (v : Value) (l : Fro) (low high : Tr) (k m a b : Int) (w : World) (hl : Sl covEnc 3 lo hi w v l.cov) (h2 : hi <= w.heap.size) (hL : LawOk l) (hlo : TrK low k m) (hhi : TrK high k m) (hk : (0 <= k /\ k <= 401) /\ 0 <= m /\ m <= 401) (ha : 0 <= a /\ a <= 1000) (hb : 0 <= b /\ b <= 1000) :
  Calls Tryz.prog 103 #[.agg (froC l v), .agg #[.int .i64 low.bl, .int .i64 low.wh, .int .i64 low.we, .int .i64 low.sn], .agg #[.int .i64 high.bl, .int .i64 high.wh, .int .i64 high.we, .int .i64 high.sn], .int .i64 a, .int .i64 b] w (Ret (.agg #[.int .i64 ((rwarm l low high a b).bl.lo), .int .i64 ((rwarm l low high a b).bl.hi), .int .i64 ((rwarm l low high a b).wh.lo), .int .i64 ((rwarm l low high a b).wh.hi), .int .i64 ((rwarm l low high a b).we.lo), .int .i64 ((rwarm l low high a b).we.hi), .int .i64 ((rwarm l low high a b).sn.lo), .int .i64 ((rwarm l low high a b).sn.hi)]) w) := by
 have F1 : Bun w [] w := Bun.nil _
 have hm_cs := hl.len
 unfold maxLen at hm_cs
 obtain ⟨sa, sc, rfl⟩ := hl.any
 replace F1 := F1.sl0 hl h2 rfl
 clear hl
 have HL := lhd hL
 have HLO := lhd hlo
 have HHI := lhd hhi
 clear hL hlo hhi
 go_enter Tryz.func103, Tryz.ntmps103
 go_wp2_with fail
 replace F1 := F1.new 26 (froC l (.slice sa l.cov.length sc)) (n := w.heap.size) (by simp)
 replace F1 := F1.new 158 #[.int .i64 low.bl, .int .i64 low.wh, .int .i64 low.we, .int .i64 low.sn] (n := (w.heap.size + 1)) (by simp)
 replace F1 := F1.new 158 #[.int .i64 high.bl, .int .i64 high.wh, .int .i64 high.we, .int .i64 high.sn] (n := (w.heap.size + 2)) (by simp)
 replace F1 := F1.new 28 (z8) (n := (w.heap.size + 3)) (by simp)
 have Fn_ := F1
 (try dsimp only [lpF, lpG] at Fn_)
 obtain ⟨w9, hx10, F12, hxs11⟩ := Fn_.name
 (try simp at hxs11)
 rw [hx10]
 clear hx10 F1 Fn_
 replace F12 := F12.drew
 refine ru_begin (fun W => W.cell? ⟨(w.heap.size + 1), 0, none⟩ = some (.int .i64 low.bl) /\ W.cell? ⟨(w.heap.size + 1), 1, none⟩ = some (.int .i64 low.wh) /\ W.cell? ⟨(w.heap.size + 1), 2, none⟩ = some (.int .i64 low.we) /\ W.cell? ⟨(w.heap.size + 1), 3, none⟩ = some (.int .i64 low.sn) /\ W.cell? ⟨w.heap.size, 0, none⟩ = some (.int .i64 l.gr) /\ W.cell? ⟨w.heap.size, 1, none⟩ = some (.int .i64 l.la) /\ W.cell? ⟨w.heap.size, 2, none⟩ = some (.slice sa l.cov.length sc) /\ W.cell? ⟨w.heap.size, 3, none⟩ = some (.int .i64 l.melt.lo) /\ W.cell? ⟨w.heap.size, 4, none⟩ = some (.int .i64 l.melt.hi) /\ W.cell? ⟨w.heap.size, 5, none⟩ = some (.int .i64 l.soak) /\ W.cell? ⟨w.heap.size, 6, none⟩ = some (.int .i64 l.white.lo) /\ W.cell? ⟨w.heap.size, 7, none⟩ = some (.int .i64 l.white.hi) /\ W.cell? ⟨(w.heap.size + 2), 0, none⟩ = some (.int .i64 high.bl) /\ W.cell? ⟨(w.heap.size + 2), 1, none⟩ = some (.int .i64 high.wh) /\ W.cell? ⟨(w.heap.size + 2), 2, none⟩ = some (.int .i64 high.we) /\ W.cell? ⟨(w.heap.size + 2), 3, none⟩ = some (.int .i64 high.sn)) 15 (by kernel_rfl) ?_ ?_
 · exact ⟨F12.q 2 0, F12.q 2 1, F12.q 2 2, F12.q 2 3, F12.q 3 0, F12.q 3 1, F12.q 3 2, F12.q 3 3, F12.q 3 4, F12.q 3 5, F12.q 3 6, F12.q 3 7, F12.q 1 0, F12.q 1 1, F12.q 1 2, F12.q 1 3⟩
 obtain ⟨wd15, hwd_⟩ : ∃ x : World, w9.drew = x := ⟨_, rfl⟩
 rw [hwd_] at F12 ⊢
 have wd15s : w9.heap.size <= wd15.heap.size := by rw [← hwd_]; exact Nat.le_refl _
 clear hwd_
 have hS14 := (And.intro (F12.q 2 0) (And.intro (F12.q 2 1) (And.intro (F12.q 2 2) (And.intro (F12.q 2 3) (And.intro (F12.q 3 0) (And.intro (F12.q 3 1) (And.intro (F12.q 3 2) (And.intro (F12.q 3 3) (And.intro (F12.q 3 4) (And.intro (F12.q 3 5) (And.intro (F12.q 3 6) (And.intro (F12.q 3 7) (And.intro (F12.q 1 0) (And.intro (F12.q 1 1) (And.intro (F12.q 1 2) (F12.q 1 3))))))))))))))))
 refine ru_t 0 [] ?_
 refine ru_t 1 [] ?_
 refine ru_t 2 [] ?_
 refine ru_t 6 [] ?_
 refine ru_t 7 [] ?_
 refine ru_t 8 [] ?_
 (try simp only [lpX])
 clear hS14
 have hSS : ∀ (LA : List Res) (W : World), Bun w ([rbox (w.heap.size + 3) 28 (z8), rbox (w.heap.size + 2) 158 #[.int .i64 high.bl, .int .i64 high.wh, .int .i64 high.we, .int .i64 high.sn], rbox (w.heap.size + 1) 158 #[.int .i64 low.bl, .int .i64 low.wh, .int .i64 low.we, .int .i64 low.sn], rbox w.heap.size 26 (froC l (.slice sa l.cov.length sc)), rsl covEnc 3 lo hi (.slice sa l.cov.length sc) l.cov] ++ LA) W /\ w9.heap.size <= W.heap.size -> W.cell? ⟨(w.heap.size + 1), 0, none⟩ = some (.int .i64 low.bl) /\ W.cell? ⟨(w.heap.size + 1), 1, none⟩ = some (.int .i64 low.wh) /\ W.cell? ⟨(w.heap.size + 1), 2, none⟩ = some (.int .i64 low.we) /\ W.cell? ⟨(w.heap.size + 1), 3, none⟩ = some (.int .i64 low.sn) /\ W.cell? ⟨w.heap.size, 0, none⟩ = some (.int .i64 l.gr) /\ W.cell? ⟨w.heap.size, 1, none⟩ = some (.int .i64 l.la) /\ W.cell? ⟨w.heap.size, 2, none⟩ = some (.slice sa l.cov.length sc) /\ W.cell? ⟨w.heap.size, 3, none⟩ = some (.int .i64 l.melt.lo) /\ W.cell? ⟨w.heap.size, 4, none⟩ = some (.int .i64 l.melt.hi) /\ W.cell? ⟨w.heap.size, 5, none⟩ = some (.int .i64 l.soak) /\ W.cell? ⟨w.heap.size, 6, none⟩ = some (.int .i64 l.white.lo) /\ W.cell? ⟨w.heap.size, 7, none⟩ = some (.int .i64 l.white.hi) /\ W.cell? ⟨(w.heap.size + 2), 0, none⟩ = some (.int .i64 high.bl) /\ W.cell? ⟨(w.heap.size + 2), 1, none⟩ = some (.int .i64 high.wh) /\ W.cell? ⟨(w.heap.size + 2), 2, none⟩ = some (.int .i64 high.we) /\ W.cell? ⟨(w.heap.size + 2), 3, none⟩ = some (.int .i64 high.sn) := fun _ _ ⟨F_, _⟩ => ⟨F_.q 2 0, F_.q 2 1, F_.q 2 2, F_.q 2 3, F_.q 3 0, F_.q 3 1, F_.q 3 2, F_.q 3 3, F_.q 3 4, F_.q 3 5, F_.q 3 6, F_.q 3 7, F_.q 1 0, F_.q 1 1, F_.q 1 2, F_.q 1 3⟩
 refine ru_mix (goodBunS _ w9.heap.size) 46 [⟨12, 11, 158, #[.int .i64 0, .int .i64 0, .int .i64 0, .int .i64 0], ptrOf⟩, ⟨13, 12, 158, #[.int .i64 0, .int .i64 0, .int .i64 0, .int .i64 0], ptrOf⟩] [3, 4, 5, 9, 10, 11] 2 (by kernel_rfl) (by kernel_rfl) (fun _ _ _ _ _ h => h) (V := fun t => True) (U0 := (fun t => t 10 = .pointer (some ⟨w.heap.size + 3, 0, none⟩) /\ t 13 = .agg #[.int .i64 low.bl, .int .i64 low.wh, .int .i64 low.we, .int .i64 low.sn] /\ t 14 = .agg (froC l (.slice sa l.cov.length sc)) /\ t 15 = .int .i64 b /\ t 19 = .agg #[.int .i64 high.bl, .int .i64 high.wh, .int .i64 high.we, .int .i64 high.sn] /\ t 20 = .agg (froC l (.slice sa l.cov.length sc)) /\ t 21 = .int .i64 a)) (Um := (fun t => t 10 = .pointer (some ⟨w.heap.size + 3, 0, none⟩) /\ t 18 = .agg #[.int .i64 ((mlT low ((thW l b).hi)).bl), .int .i64 ((mlT low ((thW l b).hi)).wh), .int .i64 ((mlT low ((thW l b).hi)).we), .int .i64 ((mlT low ((thW l b).hi)).sn)] /\ t 24 = .agg #[.int .i64 ((mlT high ((thW l a).lo)).bl), .int .i64 ((mlT high ((thW l a).lo)).wh), .int .i64 ((mlT high ((thW l a).lo)).we), .int .i64 ((mlT high ((thW l a).lo)).sn)])) (L0 := [rbox (w.heap.size + 3) 28 (z8), rbox (w.heap.size + 2) 158 #[.int .i64 high.bl, .int .i64 high.wh, .int .i64 high.we, .int .i64 high.sn], rbox (w.heap.size + 1) 158 #[.int .i64 low.bl, .int .i64 low.wh, .int .i64 low.we, .int .i64 low.sn], rbox w.heap.size 26 (froC l (.slice sa l.cov.length sc)), rsl covEnc 3 lo hi (.slice sa l.cov.length sc) l.cov]) (Lm := [rbox (w.heap.size + 3) 28 (z8), rbox (w.heap.size + 2) 158 #[.int .i64 high.bl, .int .i64 high.wh, .int .i64 high.we, .int .i64 high.sn], rbox (w.heap.size + 1) 158 #[.int .i64 low.bl, .int .i64 low.wh, .int .i64 low.we, .int .i64 low.sn], rbox w.heap.size 26 (froC l (.slice sa l.cov.length sc)), rsl covEnc 3 lo hi (.slice sa l.cov.length sc) l.cov]) ?chM16 ?alM16 ⟨(by kernel_rfl), rfl, (by (iterate 6 refine ⟨by kernel_rfl, ?_⟩); exact (by kernel_rfl))⟩ ⟨F12, (by first | assumption | omega)⟩ ?restM16
 case chM16 =>
  refine Chain.callS 3 (fun t => t 10 = .pointer (some ⟨w.heap.size + 3, 0, none⟩) /\ t 13 = .agg #[.int .i64 low.bl, .int .i64 low.wh, .int .i64 low.we, .int .i64 low.sn] /\ t 16 = .agg #[.int .i64 ((thW l b).lo), .int .i64 ((thW l b).hi)] /\ t 19 = .agg #[.int .i64 high.bl, .int .i64 high.wh, .int .i64 high.we, .int .i64 high.sn] /\ t 20 = .agg (froC l (.slice sa l.cov.length sc)) /\ t 21 = .int .i64 a) (lfm ⟨fun _ _ u => u, lfm ⟨fun _ _ u => u, fun _ h => (by cases h)⟩⟩) hSS (fun t ⟨e10, e13, e14, e15, e19, e20, e21⟩ => trivial) (by kernel_rfl) ?_ ?_
  ·
   rintro t w_ LA ⟨e10, e13, e14, e15, e19, e20, e21⟩ ⟨F_, hwn_⟩
   have hws := F_.gb.size
   rw [rng_rwarm_c t, e10, e13, e14, e15, e19, e20, e21]
   clear e10 e13 e14 e15 e19 e20 e21
   refine wpOp_stepH rfl (fun K hK => ?_)
   go_simp
   refine (thawed_c lo hi _ l b _ (F_.s 4 rfl) (Nat.le_trans h2 F_.gb.size) HL.out (by omega)).mono ?_
   rintro e w19 ⟨rfl, hg20⟩
   have htw17 := thW_bd HL.out (n := b) (by omega)
   exact hK.out _ _ ⟨(by kernel_rfl), rfl, (by (iterate 5 refine ⟨by kernel_rfl, ?_⟩); exact (by kernel_rfl)), lfm ⟨(by kernel_rfl), lfm ⟨(by kernel_rfl), fun _ h => (by cases h)⟩⟩, ⟨F_.gn hg20, Nat.le_trans hwn_ hg20.size⟩, hSS _ _ ⟨F_.gn hg20, Nat.le_trans hwn_ hg20.size⟩⟩
  refine Chain.pureS 4 (fun t => t 10 = .pointer (some ⟨w.heap.size + 3, 0, none⟩) /\ t 13 = .agg #[.int .i64 low.bl, .int .i64 low.wh, .int .i64 low.we, .int .i64 low.sn] /\ t 17 = .int .i64 ((thW l b).hi) /\ t 19 = .agg #[.int .i64 high.bl, .int .i64 high.wh, .int .i64 high.we, .int .i64 high.sn] /\ t 20 = .agg (froC l (.slice sa l.cov.length sc)) /\ t 21 = .int .i64 a) rfl (lfm ⟨fun _ _ u => u, lfm ⟨fun _ _ u => u, fun _ h => (by cases h)⟩⟩) hSS (fun t ⟨e10, e13, e16, e19, e20, e21⟩ => trivial) (by kernel_rfl) ?_ ?_
  ·
   rintro t ⟨e10, e13, e16, e19, e20, e21⟩
   rw [rng_rwarm_c t, e10, e13, e16, e19, e20, e21]
   clear e10 e13 e16 e19 e20 e21
   have hi22 : ∀ w, (Instr.field 24 (.agg #[.int .i64 ((thW l b).lo), .int .i64 ((thW l b).hi)]) 1).run Tryz.prog w = .ok (.int .i64 ((thW l b).hi)) w := fun _ => by kernel_rfl
   have htw17 := thW_bd HL.out (n := b) (by omega)
   refine ⟨.int .i64 ((thW l b).hi), .inl ⟨by first | kernel_rfl | rfl, ?_⟩, ⟨(by kernel_rfl), rfl⟩, (by (iterate 5 refine ⟨by kernel_rfl, ?_⟩); exact (by kernel_rfl)), lfm ⟨(by kernel_rfl), lfm ⟨(by kernel_rfl), fun _ h => (by cases h)⟩⟩⟩
   intro wS _
   go_simp
   (try with_reducible rfl)
  refine Chain.callS 5 (fun t => t 10 = .pointer (some ⟨w.heap.size + 3, 0, none⟩) /\ t 18 = .agg #[.int .i64 ((mlT low ((thW l b).hi)).bl), .int .i64 ((mlT low ((thW l b).hi)).wh), .int .i64 ((mlT low ((thW l b).hi)).we), .int .i64 ((mlT low ((thW l b).hi)).sn)] /\ t 19 = .agg #[.int .i64 high.bl, .int .i64 high.wh, .int .i64 high.we, .int .i64 high.sn] /\ t 20 = .agg (froC l (.slice sa l.cov.length sc)) /\ t 21 = .int .i64 a) (lfm ⟨fun _ _ u => u, lfm ⟨fun _ _ u => u, fun _ h => (by cases h)⟩⟩) hSS (fun t ⟨e10, e13, e17, e19, e20, e21⟩ => trivial) (by kernel_rfl) ?_ ?_
  ·
   rintro t w_ LA ⟨e10, e13, e17, e19, e20, e21⟩ ⟨F_, hwn_⟩
   have htw17 := thW_bd HL.out (n := b) (by omega)
   have hws := F_.gb.size
   rw [rng_rwarm_c t, e10, e13, e17, e19, e20, e21]
   clear e10 e13 e17 e19 e20 e21
   refine wpOp_stepH rfl (fun K hK => ?_)
   go_simp
   refine (rmelted_c low k m ((thW l b).hi) _ HLO.out (by omega) (by omega)).mono ?_
   rintro e w23 ⟨rfl, hg24⟩
   exact hK.out _ _ ⟨(by kernel_rfl), rfl, ⟨(by kernel_rfl), (by kernel_rfl), (by kernel_rfl), (by kernel_rfl), (by kernel_rfl)⟩, lfm ⟨(by kernel_rfl), lfm ⟨(by kernel_rfl), fun _ h => (by cases h)⟩⟩, ⟨F_.gn hg24, Nat.le_trans hwn_ hg24.size⟩, hSS _ _ ⟨F_.gn hg24, Nat.le_trans hwn_ hg24.size⟩⟩
  refine Chain.callS 9 (fun t => t 10 = .pointer (some ⟨w.heap.size + 3, 0, none⟩) /\ t 18 = .agg #[.int .i64 ((mlT low ((thW l b).hi)).bl), .int .i64 ((mlT low ((thW l b).hi)).wh), .int .i64 ((mlT low ((thW l b).hi)).we), .int .i64 ((mlT low ((thW l b).hi)).sn)] /\ t 19 = .agg #[.int .i64 high.bl, .int .i64 high.wh, .int .i64 high.we, .int .i64 high.sn] /\ t 22 = .agg #[.int .i64 ((thW l a).lo), .int .i64 ((thW l a).hi)]) (lfm ⟨fun _ _ u => u, lfm ⟨fun _ _ u => u, fun _ h => (by cases h)⟩⟩) hSS (fun t ⟨e10, e18, e19, e20, e21⟩ => trivial) (by kernel_rfl) ?_ ?_
  ·
   rintro t w_ LA ⟨e10, e18, e19, e20, e21⟩ ⟨F_, hwn_⟩
   have htw17 := thW_bd HL.out (n := b) (by omega)
   have hws := F_.gb.size
   rw [rng_rwarm_c t, e10, e18, e19, e20, e21]
   clear e10 e18 e19 e20 e21
   refine wpOp_stepH rfl (fun K hK => ?_)
   go_simp
   refine (thawed_c lo hi _ l a _ (F_.s 4 rfl) (Nat.le_trans h2 F_.gb.size) HL.out (by omega)).mono ?_
   rintro e w26 ⟨rfl, hg27⟩
   have htw18 := thW_bd HL.out (n := a) (by omega)
   exact hK.out _ _ ⟨(by kernel_rfl), rfl, ⟨(by kernel_rfl), (by kernel_rfl), (by kernel_rfl), (by kernel_rfl)⟩, lfm ⟨(by kernel_rfl), lfm ⟨(by kernel_rfl), fun _ h => (by cases h)⟩⟩, ⟨F_.gn hg27, Nat.le_trans hwn_ hg27.size⟩, hSS _ _ ⟨F_.gn hg27, Nat.le_trans hwn_ hg27.size⟩⟩
  refine Chain.pureS 10 (fun t => t 10 = .pointer (some ⟨w.heap.size + 3, 0, none⟩) /\ t 18 = .agg #[.int .i64 ((mlT low ((thW l b).hi)).bl), .int .i64 ((mlT low ((thW l b).hi)).wh), .int .i64 ((mlT low ((thW l b).hi)).we), .int .i64 ((mlT low ((thW l b).hi)).sn)] /\ t 19 = .agg #[.int .i64 high.bl, .int .i64 high.wh, .int .i64 high.we, .int .i64 high.sn] /\ t 23 = .int .i64 ((thW l a).lo)) rfl (lfm ⟨fun _ _ u => u, lfm ⟨fun _ _ u => u, fun _ h => (by cases h)⟩⟩) hSS (fun t ⟨e10, e18, e19, e22⟩ => trivial) (by kernel_rfl) ?_ ?_
  ·
   rintro t ⟨e10, e18, e19, e22⟩
   rw [rng_rwarm_c t, e10, e18, e19, e22]
   clear e10 e18 e19 e22
   have hi29 : ∀ w, (Instr.field 24 (.agg #[.int .i64 ((thW l a).lo), .int .i64 ((thW l a).hi)]) 0).run Tryz.prog w = .ok (.int .i64 ((thW l a).lo)) w := fun _ => by kernel_rfl
   have htw17 := thW_bd HL.out (n := b) (by omega)
   have htw18 := thW_bd HL.out (n := a) (by omega)
   refine ⟨.int .i64 ((thW l a).lo), .inl ⟨by first | kernel_rfl | rfl, ?_⟩, ⟨(by kernel_rfl), rfl⟩, ⟨(by kernel_rfl), (by kernel_rfl), (by kernel_rfl), (by kernel_rfl)⟩, lfm ⟨(by kernel_rfl), lfm ⟨(by kernel_rfl), fun _ h => (by cases h)⟩⟩⟩
   intro wS _
   go_simp
   (try with_reducible rfl)
  refine Chain.callS 11 (fun t => t 10 = .pointer (some ⟨w.heap.size + 3, 0, none⟩) /\ t 18 = .agg #[.int .i64 ((mlT low ((thW l b).hi)).bl), .int .i64 ((mlT low ((thW l b).hi)).wh), .int .i64 ((mlT low ((thW l b).hi)).we), .int .i64 ((mlT low ((thW l b).hi)).sn)] /\ t 24 = .agg #[.int .i64 ((mlT high ((thW l a).lo)).bl), .int .i64 ((mlT high ((thW l a).lo)).wh), .int .i64 ((mlT high ((thW l a).lo)).we), .int .i64 ((mlT high ((thW l a).lo)).sn)]) (lfm ⟨fun _ _ u => u, lfm ⟨fun _ _ u => u, fun _ h => (by cases h)⟩⟩) hSS (fun t ⟨e10, e18, e19, e23⟩ => trivial) (by kernel_rfl) ?_ ?_
  ·
   rintro t w_ LA ⟨e10, e18, e19, e23⟩ ⟨F_, hwn_⟩
   have htw17 := thW_bd HL.out (n := b) (by omega)
   have htw18 := thW_bd HL.out (n := a) (by omega)
   have hws := F_.gb.size
   rw [rng_rwarm_c t, e10, e18, e19, e23]
   clear e10 e18 e19 e23
   refine wpOp_stepH rfl (fun K hK => ?_)
   go_simp
   refine (rmelted_c high k m ((thW l a).lo) _ HHI.out (by omega) (by omega)).mono ?_
   rintro e w30 ⟨rfl, hg31⟩
   exact hK.out _ _ ⟨(by kernel_rfl), rfl, ⟨(by kernel_rfl), (by kernel_rfl), (by kernel_rfl)⟩, lfm ⟨(by kernel_rfl), lfm ⟨(by kernel_rfl), fun _ h => (by cases h)⟩⟩, ⟨F_.gn hg31, Nat.le_trans hwn_ hg31.size⟩, hSS _ _ ⟨F_.gn hg31, Nat.le_trans hwn_ hg31.size⟩⟩
  exact Chain.nil _ _ _ (lfm ⟨fun _ _ u => u, lfm ⟨fun _ _ u => u, fun _ h => (by cases h)⟩⟩) hSS (fun t ⟨e10, e18, e24⟩ => trivial)
 case alM16 => exact lfm ⟨fun _ _ _ _ h => wpOp_step rfl (fun K hK => by go_simp; exact hK _ _ h), lfm ⟨fun _ _ _ _ h => wpOp_step rfl (fun K hK => by go_simp; exact hK _ _ h), fun _ h => (by cases h)⟩⟩
 case restM16 =>
  rintro t w35 g ⟨e10, e18, e24⟩ hA ⟨F_, hwnM16⟩
  clear hSS
  clear F12
  have hA0 : t 11 = .pointer (some ⟨g 12, 0, none⟩) := hA _ (.head _)
  have hA1 : t 12 = .pointer (some ⟨g 13, 0, none⟩) := hA _ (.tail _ (.head _))
  have F36 : Bun w [rbox (g 12) 158 #[.int .i64 0, .int .i64 0, .int .i64 0, .int .i64 0], rbox (g 13) 158 #[.int .i64 0, .int .i64 0, .int .i64 0, .int .i64 0], rbox (w.heap.size + 3) 28 (z8), rbox (w.heap.size + 2) 158 #[.int .i64 high.bl, .int .i64 high.wh, .int .i64 high.we, .int .i64 high.sn], rbox (w.heap.size + 1) 158 #[.int .i64 low.bl, .int .i64 low.wh, .int .i64 low.we, .int .i64 low.sn], rbox w.heap.size 26 (froC l (.slice sa l.cov.length sc)), rsl covEnc 3 lo hi (.slice sa l.cov.length sc) l.cov] w35 := F_
  clear hA F_
  obtain ⟨g33, hgx_⟩ : ∃ x_, g 12 = x_ := ⟨_, rfl⟩
  rw [hgx_] at hA0 F36; clear hgx_
  obtain ⟨g34, hgx_⟩ : ∃ x_, g 13 = x_ := ⟨_, rfl⟩
  rw [hgx_] at hA1 F36; clear hgx_
  have htw17 := thW_bd HL.out (n := b) (by omega)
  have htw18 := thW_bd HL.out (n := a) (by omega)
  have hws := F36.gb.size
  have g33l := (F36.bx4 0 rfl).2.2
  have g34l := (F36.bx4 1 rfl).2.2
  rw [rng_rwarm_c t, e10, e18, e24, hA0, hA1]
  clear e10 e18 e24 hA0 hA1
  refine ru_o 14 fun K hK => ?_
  have kb_ := F36.bx4 0 rfl
  go_simp
  clear kb_
  replace F36 := F36.pt4 (.int .i64 ((mlT low ((thW l b).hi)).bl)) (.int .i64 ((mlT low ((thW l b).hi)).wh)) (.int .i64 ((mlT low ((thW l b).hi)).we)) (.int .i64 ((mlT low ((thW l b).hi)).sn))
  refine ru_back hK (by exact ⟨F36.q 4 0, F36.q 4 1, F36.q 4 2, F36.q 4 3, F36.q 5 0, F36.q 5 1, F36.q 5 2, F36.q 5 3, F36.q 5 4, F36.q 5 5, F36.q 5 6, F36.q 5 7, F36.q 3 0, F36.q 3 1, F36.q 3 2, F36.q 3 3⟩) (fun _ => ?_)
  clear hK K
  (try simp only [lpX])
  refine ru_o 15 fun K hK => ?_
  have kb_ := F36.bx4 1 rfl
  go_simp
  clear kb_
  have F38 := (F36.front 1 rfl rfl).pt4 (.int .i64 ((mlT high ((thW l a).lo)).bl)) (.int .i64 ((mlT high ((thW l a).lo)).wh)) (.int .i64 ((mlT high ((thW l a).lo)).we)) (.int .i64 ((mlT high ((thW l a).lo)).sn))
  clear F36
  refine ru_back_late hK (by kernel_rfl) ?_
  clear hK K
  (try simp only [lpX])
  refine ru_done (by kernel_rfl) ?_
  have Fn_ := (((F38.drop 3 rfl).drop 3 rfl).drop 3 rfl)
  (try dsimp only [lpF, lpG] at Fn_)
  obtain ⟨w39, hx40, F42, hxs41⟩ := Fn_.name
  (try simp at hxs41)
  rw [hx40]
  clear hx40 F38 Fn_
  have Hx43 := lhd (show ((rwarm l low high a b).bl.lo) = (mlT low ((thW l b).hi)).bl by rfl)
  have Hx44 := lhd (show ((rwarm l low high a b).bl.hi) = (mlT high ((thW l a).lo)).bl by rfl)
  have Hx45 := lhd (show ((rwarm l low high a b).wh.lo) = (mlT low ((thW l b).hi)).wh by rfl)
  have Hx46 := lhd (show ((rwarm l low high a b).wh.hi) = (mlT high ((thW l a).lo)).wh by rfl)
  have Hx47 := lhd (show ((rwarm l low high a b).we.lo) = (mlT low ((thW l b).hi)).we by rfl)
  have Hx48 := lhd (show ((rwarm l low high a b).we.hi) = (mlT high ((thW l a).lo)).we by rfl)
  have Hx49 := lhd (show ((rwarm l low high a b).sn.lo) = (mlT low ((thW l b).hi)).sn by rfl)
  have Hx50 := lhd (show ((rwarm l low high a b).sn.hi) = (mlT high ((thW l a).lo)).sn by rfl)
  have b51 := F42.bx4 0 rfl
  have b52 := F42.bx4 1 rfl
  have b53 := F42.bx8 2 rfl
  go_wp2_with fail
  clear b51 b52 b53
  have F54 := (F42.front 2 rfl rfl).pt8 (.int .i64 ((mlT low ((thW l b).hi)).bl)) (.int .i64 ((mlT high ((thW l a).lo)).bl)) (.int .i64 ((mlT low ((thW l b).hi)).wh)) (.int .i64 ((mlT high ((thW l a).lo)).wh)) (.int .i64 ((mlT low ((thW l b).hi)).we)) (.int .i64 ((mlT high ((thW l a).lo)).we)) (.int .i64 ((mlT low ((thW l b).hi)).sn)) (.int .i64 ((mlT high ((thW l a).lo)).sn))
  clear F42
  have kb55 := F54.bx8 0 rfl
  go_wp2_with fail
  exact bodyPost_ret (v := .agg #[.int .i64 ((mlT low ((thW l b).hi)).bl), .int .i64 ((mlT high ((thW l a).lo)).bl), .int .i64 ((mlT low ((thW l b).hi)).wh), .int .i64 ((mlT high ((thW l a).lo)).wh), .int .i64 ((mlT low ((thW l b).hi)).we), .int .i64 ((mlT high ((thW l a).lo)).we), .int .i64 ((mlT low ((thW l b).hi)).sn), .int .i64 ((mlT high ((thW l a).lo)).sn)]) (by simp [results, Tryz.results103, go_sem, kb55]) rfl (⟨by rw [Hx43.out, Hx44.out, Hx45.out, Hx46.out, Hx47.out, Hx48.out, Hx49.out, Hx50.out] <;> rfl, F54.gb⟩)
end Go.Proofs.YtkclabflkocbaaaGreat
