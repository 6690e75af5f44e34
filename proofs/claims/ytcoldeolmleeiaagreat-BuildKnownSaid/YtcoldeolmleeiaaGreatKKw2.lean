/- build: BuildKnown. -/
import Derived.Test.YtcoldeolmleeiaaGreatKKw1
import Derived.Test.YtcoldeolmleeiaaGreatKGG2
set_option linter.unusedVariables false
set_option linter.unusedSimpArgs false
set_option linter.unnecessarySimpa false
namespace Go.Proofs.YtcoldeolmleeiaaGreat
open Go.RowKit
set_option maxRecDepth 100000
attribute [local go_sem] Oper.semAt_some
theorem Bun.bx24 {w0 A : World} {L : List Res} (h : Bun w0 L A) (i : Nat) {g : Nat} {t : TypeId} {cs : Array Value} {u v z : Value} (hi : L[i]? = some (rbox g t cs)) (h1 : cs[9]? = some u := by exact rfl) (h2 : cs[10]? = some v := by exact rfl) (h3 : cs[15]? = some z := by exact rfl) :
  (A.cell? ⟨g, 9, none⟩ = some u /\ A.cell? ⟨g, 10, none⟩ = some v /\ A.cell? ⟨g, 15, none⟩ = some z) /\ (A.frozen? ⟨g, 9, none⟩ = false /\ A.frozen? ⟨g, 10, none⟩ = false /\ A.frozen? ⟨g, 15, none⟩ = false) /\ g < A.heap.size :=
 ⟨⟨h.cl i 9 hi h1, h.cl i 10 hi h2, h.cl i 15 hi h3⟩, ⟨Bk.frozen (h.at i hi) 9, Bk.frozen (h.at i hi) 10, Bk.frozen (h.at i hi) 15⟩, Bk.lt (h.at i hi)⟩
theorem Bun.allNew {A B : World} {L2 : List Res} (h : Bun A L2 B) (hm : L2.all (fun r => r.mine) = true) : ∀ r ∈ L2, ∀ g, r.X g -> A.heap.size <= g := fun r hr g hx => (h.bd r hr g hx).2 (List.all_eq_true.1 hm r hr)
theorem jobAt_of3 {w : World} {g1 g2 g3 : Nat} {vm vt : Value} {ms : List Mch} {ts : List Tsk} (h1 : Sl mchEnc 3 g1 (g1 + 1) w vm ms) (l1 : g1 < w.heap.size) (h2 : Sl tskEnc 8 g2 (g2 + 1) w vt ts) (l2 : g2 < w.heap.size) (h3 : Afs g3 (g3 + 1) w ts) (l3 : g3 < w.heap.size) : JobAt 0 w.heap.size w vm vt ms ts :=
 ⟨h1.wide (Nat.zero_le _) l1, h2.wide (Nat.zero_le _) l2, fun t ht => ⟨(h3 t ht).1.wide (Nat.zero_le _) l3, (h3 t ht).2⟩⟩
theorem afs_jobA {lo hi : Nat} {w : World} {l : List Int} {av : Value} (h : Sl intEnc 1 lo hi w av l) (hc : CapOk av) : Afs lo hi w (jobTa l av) := by
 intro t ht
 simp only [jobTa, List.mem_cons, List.not_mem_nil, or_false] at ht
 rcases ht with rfl | rfl | rfl
 · exact ⟨Sl.of_nil _ _, Nat.le_refl _⟩
 · exact ⟨h, hc⟩
 · exact ⟨Sl.of_nil _ _, Nat.le_refl _⟩
theorem afs_jobL {lo hi : Nat} {w : World} {av : Value} (h : Sl intEnc 1 lo hi w av [0]) (hc : CapOk av) : Afs lo hi w (jobTl av) := by
 intro t ht
 simp only [jobTl, List.mem_cons, List.not_mem_nil, or_false] at ht
 rcases ht with rfl | rfl | rfl
 · exact ⟨Sl.of_nil _ _, Nat.le_refl _⟩
 · exact ⟨h, hc⟩
 · exact ⟨Sl.of_nil _ _, Nat.le_refl _⟩
theorem knChk (x : Int) (lo hi : Nat) (vm vt : Value) (ms : List Mch) (ts : List Tsk) (w : World) (hj : JobAt lo hi w vm vt ms ts) (h2 : hi <= w.heap.size) (hx : jobErr ms ts = x) :
  Calls Tryz.prog 6 #[.agg #[vm, vt]] w (Ret (.int .i64 x) w) := by
 have h := bcheck_c lo hi vm vt ms ts w hj h2
 rw [hx] at h
 exact h
theorem knWrk (m : Mch) (l : List Int) (n : Nat) (lo2 hi2 : Nat) (vd : Value) (w : World) (hd : Sl weaEnc 6 lo2 hi2 w vd weekD) (h3 : hi2 <= w.heap.size) (hw : wksOf m weekD = l) (hn : l.length = n) (he0 : bothErr [m] [] weekD = 0) :
  Calls Tryz.prog 7 #[.agg #[.int .i64 m.mild, .int .i64 m.hard, .int .i64 m.shift], vd] w (fun e w' => ∃ (a : Option Addr) (c lo hi : Nat), e = .returned (.tuple #[.slice a n c, .int .i64 0]) /\ (w.heap.size <= lo /\ hi <= w'.heap.size) /\ Sl intEnc 1 lo hi w' (.slice a n c) l /\ w.grownBy w' none) := by
 refine (bworks_c m lo2 hi2 vd weekD w hd h3).mono ?_
 rintro e w' ⟨a, c, lo', hi', he, h4, hs, hg⟩
 rw [hw, he0, hn] at he
 rw [hw, hn] at hs
 exact ⟨a, c, lo', hi', he, h4, hs, hg⟩
def knTL : List Tim := [⟨⟨0, 0⟩, ⟨5, 26⟩⟩, ⟨⟨5, 26⟩, ⟨15, 97⟩⟩, ⟨⟨30, 30⟩, ⟨34, 34⟩⟩]
theorem knTim (lo hi : Nat) (vm vt : Value) (av : Value) (lo2 hi2 : Nat) (vd : Value) (w : World) (hj : JobAt lo hi w vm vt jobM (jobTl av)) (h2 : hi <= w.heap.size) (hd : Sl weaEnc 6 lo2 hi2 w vd weekD) (h3 : hi2 <= w.heap.size) :
  Calls Tryz.prog 10 #[.agg #[vm, vt], vd] w (fun e w' => ∃ (a : Option Addr) (c lo hi : Nat), e = .returned (.tuple #[.slice a 3 c, .agg #[.int .i64 39, .int .i64 97], .int .i64 0]) /\ (w.heap.size <= lo /\ hi <= w'.heap.size) /\ Sl timEnc 4 lo hi w' (.slice a 3 c) knTL /\ w.grownBy w' none) := by
 refine (btimes_c lo hi vm vt jobM (jobTl av) lo2 hi2 vd weekD w hj h2 hd h3).mono ?_
 rintro e w' ⟨a, c, lo', hi', he, h4, hs, hg⟩
 rw [kn_lt, kn_lo, kn_lb] at he
 rw [kn_lt] at hs
 exact ⟨a, c, lo', hi', he, h4, hs, hg⟩
set_option maxHeartbeats 8000000 in
theorem ajobO_c  (w : World)  :
  Calls Tryz.prog 4 #[] w (fun e w' => ∃ (gm gt gi : Nat), e = .returned (.agg #[.slice (some ⟨gm, 0, none⟩) 2 2, .slice (some ⟨gt, 0, none⟩) 3 3]) /\ Bun w [rbox gm 30 #[.int .i64 0, .int .i64 300, .int .i64 10, .int .i64 50, .int .i64 200, .int .i64 24], rbox gt 34 #[.int .i64 0, .int .i64 5, .int .i64 12, .int .i64 0, .int .i64 0, .int .i64 0, .int .i64 0, .slice none 0 0, .int .i64 1, .int .i64 10, .int .i64 10, .int .i64 24, .int .i64 24, .int .i64 0, .int .i64 6, .slice (some ⟨gi, 0, none⟩) 1 1, .int .i64 0, .int .i64 4, .int .i64 4, .int .i64 0, .int .i64 0, .int .i64 30, .int .i64 30, .slice none 0 0], rbox gi 3 #[.int .i64 0]] w') := by
 have F1 : Bun w [] w := Bun.nil _
 go_enter Tryz.func4, Tryz.ntmps4
 go_wp2_with fail
 replace F1 := F1.new 25 #[.slice none 0 0, .slice none 0 0] (n := w.heap.size) (by simp)
 replace F1 := F1.new 30 #[.int .i64 0, .int .i64 300, .int .i64 10, .int .i64 50, .int .i64 200, .int .i64 24] (n := (w.heap.size + 1)) (by simp)
 refine (aspan_c 5 12 _).mono ?_
 rintro e w6 ⟨rfl, hg4⟩
 have hg4s := hg4.size
 (try simp at hg4s)
 replace F1 := F1.gn hg4
 clear hg4
 go_wp2_with fail
 refine (aone_c 10 _).mono ?_
 rintro e w10 ⟨rfl, hg8⟩
 have hg8s := hg8.size
 (try simp at hg8s)
 replace F1 := F1.gn hg8
 clear hg8
 go_wp2_with fail
 refine (aone_c 24 _).mono ?_
 rintro e w14 ⟨rfl, hg12⟩
 have hg12s := hg12.size
 (try simp at hg12s)
 replace F1 := F1.gn hg12
 clear hg12
 go_wp2_with fail
 refine (aspan_c 0 6 _).mono ?_
 rintro e w18 ⟨rfl, hg16⟩
 have hg16s := hg16.size
 (try simp at hg16s)
 replace F1 := F1.gn hg16
 clear hg16
 go_wp2_with fail
 replace F1 := F1.new 3 #[.int .i64 0] (n := w18.heap.size) (by simp)
 refine (aone_c 4 _).mono ?_
 rintro e w23 ⟨rfl, hg21⟩
 have hg21s := hg21.size
 (try simp at hg21s)
 replace F1 := F1.gn hg21
 clear hg21
 go_wp2_with fail
 refine (aone_c 30 _).mono ?_
 rintro e w27 ⟨rfl, hg25⟩
 have hg25s := hg25.size
 (try simp at hg25s)
 replace F1 := F1.gn hg25
 clear hg25
 have b29 := F1.bx2 2 rfl
 go_wp2_with fail
 clear b29
 have F30 := (F1.front 2 rfl rfl).pt2 (.slice (some ⟨w.heap.size + 1, 0, none⟩) 2 2) (.slice (some ⟨w27.heap.size, 0, none⟩) 3 3)
 clear F1
 replace F30 := F30.new 34 #[.int .i64 0, .int .i64 5, .int .i64 12, .int .i64 0, .int .i64 0, .int .i64 0, .int .i64 0, .slice none 0 0, .int .i64 1, .int .i64 10, .int .i64 10, .int .i64 24, .int .i64 24, .int .i64 0, .int .i64 6, .slice (some ⟨w18.heap.size, 0, none⟩) 1 1, .int .i64 0, .int .i64 4, .int .i64 4, .int .i64 0, .int .i64 0, .int .i64 30, .int .i64 30, .slice none 0 0] (n := w27.heap.size) (by simp)
 have kb32 := F30.bx2 1 rfl
 go_wp2_with fail
 have F33 : Bun w [rbox (w.heap.size + 1) 30 #[.int .i64 0, .int .i64 300, .int .i64 10, .int .i64 50, .int .i64 200, .int .i64 24], rbox w27.heap.size 34 #[.int .i64 0, .int .i64 5, .int .i64 12, .int .i64 0, .int .i64 0, .int .i64 0, .int .i64 0, .slice none 0 0, .int .i64 1, .int .i64 10, .int .i64 10, .int .i64 24, .int .i64 24, .int .i64 0, .int .i64 6, .slice (some ⟨w18.heap.size, 0, none⟩) 1 1, .int .i64 0, .int .i64 4, .int .i64 4, .int .i64 0, .int .i64 0, .int .i64 30, .int .i64 30, .slice none 0 0], rbox w18.heap.size 3 #[.int .i64 0]] _ := F30.pick [3, 0, 2] (by decide) rfl
 clear F30
 exact bodyPost_ret (v := .agg #[.slice (some ⟨w.heap.size + 1, 0, none⟩) 2 2, .slice (some ⟨w27.heap.size, 0, none⟩) 3 3]) (by simp [results, Tryz.results4, go_sem, kb32]) rfl (⟨_, _, _, rfl, F33⟩)
theorem ajob_m (w : World) : Calls Tryz.prog 4 #[] w (fun e w' => ∃ (gm : Nat) (v2 : Value), e = .returned (.agg #[.slice (some ⟨gm, 0, none⟩) 2 2, v2]) /\ w.heap.size <= gm /\ Bk w' gm 30 #[.int .i64 0, .int .i64 300, .int .i64 10, .int .i64 50, .int .i64 200, .int .i64 24] /\ w.grownBy w' none) := by
 refine (ajobO_c w).mono ?_
 rintro e w' ⟨gm, gt, gi, rfl, hB⟩
 exact ⟨gm, _, rfl, Bun.allNew hB rfl _ (.head _) _ rfl, hB.at 0 rfl, hB.gb⟩
theorem rng_known_walk (t : Nat -> Value) : ((List.range 130).map t).toArray = List.toArray [t 0, t 1, t 2, t 3, t 4, t 5, t 6, t 7, t 8, t 9, t 10, t 11, t 12, t 13, t 14, t 15, t 16, t 17, t 18, t 19, t 20, t 21, t 22, t 23, t 24, t 25, t 26, t 27, t 28, t 29, t 30, t 31, t 32, t 33, t 34, t 35, t 36, t 37, t 38, t 39, t 40, t 41, t 42, t 43, t 44, t 45, t 46, t 47, t 48, t 49, t 50, t 51, t 52, t 53, t 54, t 55, t 56, t 57, t 58, t 59, t 60, t 61, t 62, t 63, t 64, t 65, t 66, t 67, t 68, t 69, t 70, t 71, t 72, t 73, t 74, t 75, t 76, t 77, t 78, t 79, t 80, t 81, t 82, t 83, t 84, t 85, t 86, t 87, t 88, t 89, t 90, t 91, t 92, t 93, t 94, t 95, t 96, t 97, t 98, t 99, t 100, t 101, t 102, t 103, t 104, t 105, t 106, t 107, t 108, t 109, t 110, t 111, t 112, t 113, t 114, t 115, t 116, t 117, t 118, t 119, t 120, t 121, t 122, t 123, t 124, t 125, t 126, t 127, t 128, t 129] := rfl
set_option maxHeartbeats 32000000 in
theorem known_walk  (w : World)  :
  Calls Tryz.prog 3 #[] w (Ret (.bool true) w) := by
 have F1 : Bun w [] w := Bun.nil _
 go_enter Tryz.func3, Tryz.ntmps3
 go_wp2_with fail
 replace F1 := F1.new 26 #[.slice none 0 0, .slice none 0 0, .slice none 0 0, .slice none 0 0, .slice none 0 0, .slice none 0 0] (n := w.heap.size) (by simp)
 refine wp_loop_rounds 4 ?_
 rw [rounds_succ]
 go_wp2_with fail
 refine (ajobO_c _).mono ?_
 rintro e w4 ⟨gmb3, gtb3, gib3, rfl, hB5⟩
 have hB5s := hB5.gb.size
 (try simp at hB5s)
 replace F1 := F1.joinV (L2 := [rbox gmb3 30 #[.int .i64 0, .int .i64 300, .int .i64 10, .int .i64 50, .int .i64 200, .int .i64 24], rbox gtb3 34 #[.int .i64 0, .int .i64 5, .int .i64 12, .int .i64 0, .int .i64 0, .int .i64 0, .int .i64 0, .slice none 0 0, .int .i64 1, .int .i64 10, .int .i64 10, .int .i64 24, .int .i64 24, .int .i64 0, .int .i64 6, .slice (some ⟨gib3, 0, none⟩) 1 1, .int .i64 0, .int .i64 4, .int .i64 4, .int .i64 0, .int .i64 0, .int .i64 30, .int .i64 30, .slice none 0 0], rbox gib3 3 #[.int .i64 0]]) hB5 (Bun.allNew hB5 rfl)
 clear hB5
 (try dsimp only [List.cons_append, List.nil_append] at F1)
 have b7 := F1.bx6 3 rfl
 go_wp2_with fail
 clear b7
 have F8 := ((F1.front 3 rfl rfl).set 0 (.slice (some ⟨gmb3, 0, none⟩) 2 2)).nf #[.slice (some ⟨gmb3, 0, none⟩) 2 2, .slice none 0 0, .slice none 0 0, .slice none 0 0, .slice none 0 0, .slice none 0 0] rfl
 clear F1
 have F9 := (F8.set 1 (.slice (some ⟨gtb3, 0, none⟩) 3 3)).nf #[.slice (some ⟨gmb3, 0, none⟩) 2 2, .slice (some ⟨gtb3, 0, none⟩) 3 3, .slice none 0 0, .slice none 0 0, .slice none 0 0, .slice none 0 0] rfl
 clear F8
 have Fn_ := F9
 (try dsimp only [lpF, lpG] at Fn_)
 obtain ⟨w10, hx11, F13, hxs12⟩ := Fn_.name
 (try simp at hxs12)
 rw [hx11]
 clear hx11 F9 Fn_
 rw [rounds_succ]
 go_wp2_with fail
 refine (ajobO_c _).mono ?_
 rintro e w15 ⟨gmb14, gtb14, gib14, rfl, hB16⟩
 have hB16s := hB16.gb.size
 (try simp at hB16s)
 replace F13 := F13.joinV (L2 := [rbox gmb14 30 #[.int .i64 0, .int .i64 300, .int .i64 10, .int .i64 50, .int .i64 200, .int .i64 24], rbox gtb14 34 #[.int .i64 0, .int .i64 5, .int .i64 12, .int .i64 0, .int .i64 0, .int .i64 0, .int .i64 0, .slice none 0 0, .int .i64 1, .int .i64 10, .int .i64 10, .int .i64 24, .int .i64 24, .int .i64 0, .int .i64 6, .slice (some ⟨gib14, 0, none⟩) 1 1, .int .i64 0, .int .i64 4, .int .i64 4, .int .i64 0, .int .i64 0, .int .i64 30, .int .i64 30, .slice none 0 0], rbox gib14 3 #[.int .i64 0]]) hB16 (Bun.allNew hB16 rfl)
 clear hB16
 (try dsimp only [List.cons_append, List.nil_append] at F13)
 have b18 := F13.bx6 3 rfl
 go_wp2_with fail
 clear b18
 have F19 := ((F13.front 3 rfl rfl).set 2 (.slice (some ⟨gmb14, 0, none⟩) 2 2)).nf #[.slice (some ⟨gmb3, 0, none⟩) 2 2, .slice (some ⟨gtb3, 0, none⟩) 3 3, .slice (some ⟨gmb14, 0, none⟩) 2 2, .slice none 0 0, .slice none 0 0, .slice none 0 0] rfl
 clear F13
 have F20 := (F19.set 3 (.slice (some ⟨gtb14, 0, none⟩) 3 3)).nf #[.slice (some ⟨gmb3, 0, none⟩) 2 2, .slice (some ⟨gtb3, 0, none⟩) 3 3, .slice (some ⟨gmb14, 0, none⟩) 2 2, .slice (some ⟨gtb14, 0, none⟩) 3 3, .slice none 0 0, .slice none 0 0] rfl
 clear F19
 have Fn_ := F20
 (try dsimp only [lpF, lpG] at Fn_)
 obtain ⟨w21, hx22, F24, hxs23⟩ := Fn_.name
 (try simp at hxs23)
 rw [hx22]
 clear hx22 F20 Fn_
 rw [rounds_succ]
 go_wp2_with fail
 refine (ajobO_c _).mono ?_
 rintro e w26 ⟨gmb25, gtb25, gib25, rfl, hB27⟩
 have hB27s := hB27.gb.size
 (try simp at hB27s)
 replace F24 := F24.joinV (L2 := [rbox gmb25 30 #[.int .i64 0, .int .i64 300, .int .i64 10, .int .i64 50, .int .i64 200, .int .i64 24], rbox gtb25 34 #[.int .i64 0, .int .i64 5, .int .i64 12, .int .i64 0, .int .i64 0, .int .i64 0, .int .i64 0, .slice none 0 0, .int .i64 1, .int .i64 10, .int .i64 10, .int .i64 24, .int .i64 24, .int .i64 0, .int .i64 6, .slice (some ⟨gib25, 0, none⟩) 1 1, .int .i64 0, .int .i64 4, .int .i64 4, .int .i64 0, .int .i64 0, .int .i64 30, .int .i64 30, .slice none 0 0], rbox gib25 3 #[.int .i64 0]]) hB27 (Bun.allNew hB27 rfl)
 clear hB27
 (try dsimp only [List.cons_append, List.nil_append] at F24)
 have b29 := F24.bx6 3 rfl
 go_wp2_with fail
 clear b29
 have F30 := ((F24.front 3 rfl rfl).set 4 (.slice (some ⟨gmb25, 0, none⟩) 2 2)).nf #[.slice (some ⟨gmb3, 0, none⟩) 2 2, .slice (some ⟨gtb3, 0, none⟩) 3 3, .slice (some ⟨gmb14, 0, none⟩) 2 2, .slice (some ⟨gtb14, 0, none⟩) 3 3, .slice (some ⟨gmb25, 0, none⟩) 2 2, .slice none 0 0] rfl
 clear F24
 have F31 := (F30.set 5 (.slice (some ⟨gtb25, 0, none⟩) 3 3)).nf #[.slice (some ⟨gmb3, 0, none⟩) 2 2, .slice (some ⟨gtb3, 0, none⟩) 3 3, .slice (some ⟨gmb14, 0, none⟩) 2 2, .slice (some ⟨gtb14, 0, none⟩) 3 3, .slice (some ⟨gmb25, 0, none⟩) 2 2, .slice (some ⟨gtb25, 0, none⟩) 3 3] rfl
 clear F30
 have Fn_ := F31
 (try dsimp only [lpF, lpG] at Fn_)
 obtain ⟨w32, hx33, F35, hxs34⟩ := Fn_.name
 (try simp at hxs34)
 rw [hx33]
 clear hx33 F31 Fn_
 rw [rounds_succ]
 go_wp2_with fail
 replace F35 := F35.drew
 refine ru_begin (fun W => W.cell? ⟨w.heap.size, 0, none⟩ = some (.slice (some ⟨gmb3, 0, none⟩) 2 2) /\ W.cell? ⟨w.heap.size, 3, none⟩ = some (.slice (some ⟨gtb14, 0, none⟩) 3 3) /\ W.cell? ⟨w.heap.size, 5, none⟩ = some (.slice (some ⟨gtb25, 0, none⟩) 3 3)) 19 (by kernel_rfl) ?_ ?_
 · exact ⟨F35.q 0 0, F35.q 0 3, F35.q 0 5⟩
 obtain ⟨wd38, hwd_⟩ : ∃ x : World, w32.drew = x := ⟨_, rfl⟩
 rw [hwd_] at F35 ⊢
 have wd38s : w32.heap.size <= wd38.heap.size := by rw [← hwd_]; exact Nat.le_refl _
 clear hwd_
 have hS37 := (And.intro (F35.q 0 0) (And.intro (F35.q 0 3) (F35.q 0 5)))
 refine ru_t 0 [] ?_
 refine ru_t 1 [] ?_
 refine ru_t 2 [] ?_
 refine ru_t 3 [] ?_
 refine ru_t 4 [] ?_
 refine ru_t 5 [] ?_
 refine ru_t 6 [] ?_
 refine ru_t 7 [] ?_
 refine ru_t 8 [] ?_
 refine ru_t 11 [] ?_
 refine ru_t 12 [] ?_
 (try simp only [lpX])
 clear hS37
 refine ru_state 130 (fun t w_ => ∃ (yg9 : Nat) (yg10 : Nat), t 1 = .pointer (some ⟨w.heap.size, 0, none⟩) /\ w32.heap.size <= w_.heap.size /\ Bun w [rbox gtb25 34 #[.int .i64 0, .int .i64 5, .int .i64 12, .int .i64 0, .int .i64 0, .int .i64 0, .int .i64 0, .slice none 0 0, .int .i64 1, .int .i64 10, .int .i64 10, .int .i64 24, .int .i64 24, .int .i64 0, .int .i64 6, .slice (some ⟨yg10, 0, none⟩) 2 2, .int .i64 0, .int .i64 4, .int .i64 4, .int .i64 0, .int .i64 0, .int .i64 30, .int .i64 30, .slice none 0 0], rbox gtb14 34 #[.int .i64 0, .int .i64 5, .int .i64 12, .int .i64 0, .int .i64 0, .int .i64 0, .int .i64 0, .slice none 0 0, .int .i64 1, .int .i64 10, .int .i64 10, .int .i64 24, .int .i64 24, .int .i64 0, .int .i64 6, .slice (some ⟨yg9, 0, none⟩) 1 1, .int .i64 0, .int .i64 4, .int .i64 4, .int .i64 0, .int .i64 0, .int .i64 30, .int .i64 30, .slice none 0 0], rbox gmb3 30 #[.int .i64 0, .int .i64 300, .int .i64 0, .int .i64 50, .int .i64 200, .int .i64 24], rbox yg10 3 #[.int .i64 0, .int .i64 0], rbox yg9 3 #[.int .i64 1], rbox w.heap.size 26 #[.slice (some ⟨gmb3, 0, none⟩) 2 2, .slice (some ⟨gtb3, 0, none⟩) 3 3, .slice (some ⟨gmb14, 0, none⟩) 2 2, .slice (some ⟨gtb14, 0, none⟩) 3 3, .slice (some ⟨gmb25, 0, none⟩) 2 2, .slice (some ⟨gtb25, 0, none⟩) 3 3], rbox gmb25 30 #[.int .i64 0, .int .i64 300, .int .i64 10, .int .i64 50, .int .i64 200, .int .i64 24], rbox gib25 3 #[.int .i64 0], rbox gmb14 30 #[.int .i64 0, .int .i64 300, .int .i64 10, .int .i64 50, .int .i64 200, .int .i64 24], rbox gib14 3 #[.int .i64 0], rbox gtb3 34 #[.int .i64 0, .int .i64 5, .int .i64 12, .int .i64 0, .int .i64 0, .int .i64 0, .int .i64 0, .slice none 0 0, .int .i64 1, .int .i64 10, .int .i64 10, .int .i64 24, .int .i64 24, .int .i64 0, .int .i64 6, .slice (some ⟨gib3, 0, none⟩) 1 1, .int .i64 0, .int .i64 4, .int .i64 4, .int .i64 0, .int .i64 0, .int .i64 30, .int .i64 30, .slice none 0 0], rbox gib3 3 #[.int .i64 0]] w_) #[true, true, true, true, true, true, true, true, true, true, true, true, true, true, true, true, true, true, true, true] 0 ?st39 ?nx39
 case st39 =>
  rintro t w40 ⟨yg9, yg10, e1, hsz39, F41⟩
  clear F35
  rw [rng_known_walk t, e1]
  clear e1
  have hws39 := F41.gb.size
  have yg10l := F41.ltAt 3 rfl yg10 rfl
  have yg10b := yg10l.2 rfl
  have yg9l := F41.ltAt 4 rfl yg9 rfl
  have yg9b := yg9l.2 rfl
  refine ru_done (by kernel_rfl) ?_
  obtain ⟨w42, hx43, F45, hxs44⟩ := F41.name
  (try simp at hxs44)
  rw [hx43]
  clear hx43 F41
  go_wp2_with fail
  refine (awake_c _).mono ?_
  rintro e w48 ⟨rfl, hg46⟩
  have hg46s := hg46.size
  (try simp at hg46s)
  replace F45 := F45.gn hg46
  clear hg46
  go_wp2_with fail
  refine (ajob_b _).mono ?_
  rintro e w51 ⟨avj50, a1j50, a2j50, c1j50, c2j50, loj50, hij50, rfl, ⟨hlj50, hyj50⟩, hB52⟩
  have hB52s := hB52.gb.size
  (try simp at hB52s)
  replace F45 := F45.joinV (L2 := [rsl mchEnc 3 loj50 hij50 (.slice a1j50 2 c1j50) jobM, rsl tskEnc 8 loj50 hij50 (.slice a2j50 3 c2j50) (jobT avj50), rafs loj50 hij50 (jobT avj50)]) hB52 (lfm ⟨fun g hx => Nat.le_trans hlj50 hx.1, lfm ⟨fun g hx => Nat.le_trans hlj50 hx.1, lfm ⟨fun g hx => Nat.le_trans hlj50 hx.1, fun _ h => by cases h⟩⟩⟩)
  clear hB52
  (try dsimp only [List.cons_append, List.nil_append] at F45)
  go_wp2_with fail
  refine (knChk 0 loj50 hij50 _ _ _ _ _ (JobAt.mk (F45.s 0 rfl) (F45.s 1 rfl) (F45.at 2 rfl : Afs loj50 hij50 _ (jobT avj50))) (by first | omega | (simp; omega)) (kn_chk _)).mono ?_
  rintro e w56 ⟨rfl, hg54⟩
  have hg54s := hg54.size
  (try simp at hg54s)
  replace F45 := F45.gn hg54
  clear hg54
  have b58 := F45.bx6 8 rfl
  go_wp2_with fail
  clear b58
  refine (knChk 2 0 _ _ _ _ _ _ (jobAt_of3 (Bk.sl mchEnc 3 jobM0 2 2 (F45.b 5 rfl) (fun _ => rfl) rfl rfl (by omega)) ((F45.b 5 rfl)).lt (Bk.sl tskEnc 8 (jobTa [0] (.slice (some ⟨gib3, 0, none⟩) 1 1)) 3 3 (F45.b 13 rfl) (fun _ => rfl) rfl rfl (by omega)) ((F45.b 13 rfl)).lt (afs_jobA (slI_of [0] 1 1 (F45.b 14 rfl) rfl rfl (by omega)) (Nat.le_refl _)) ((F45.b 14 rfl)).lt) (Nat.le_refl _) (kn_chk0 _)).mono ?_
  rintro e w61 ⟨rfl, hg59⟩
  have hg59s := hg59.size
  (try simp at hg59s)
  replace F45 := F45.gn hg59
  clear hg59
  have b63 := F45.bx6 8 rfl
  go_wp2_with fail
  clear b63
  refine (knChk 7 0 _ _ _ _ _ _ (jobAt_of3 (Bk.sl mchEnc 3 jobM 2 2 (F45.b 11 rfl) (fun _ => rfl) rfl rfl (by omega)) ((F45.b 11 rfl)).lt (Bk.sl tskEnc 8 (jobTa [1] (.slice (some ⟨yg9, 0, none⟩) 1 1)) 3 3 (F45.b 4 rfl) (fun _ => rfl) rfl rfl (by omega)) ((F45.b 4 rfl)).lt (afs_jobA (slI_of [1] 1 1 (F45.b 7 rfl) rfl rfl (by omega)) (Nat.le_refl _)) ((F45.b 7 rfl)).lt) (Nat.le_refl _) (kn_chk1 _)).mono ?_
  rintro e w66 ⟨rfl, hg64⟩
  have hg64s := hg64.size
  (try simp at hg64s)
  replace F45 := F45.gn hg64
  clear hg64
  have b68 := F45.bx6 8 rfl
  go_wp2_with fail
  clear b68
  refine (knChk 9 0 _ _ _ _ _ _ (jobAt_of3 (Bk.sl mchEnc 3 jobM 2 2 (F45.b 9 rfl) (fun _ => rfl) rfl rfl (by omega)) ((F45.b 9 rfl)).lt (Bk.sl tskEnc 8 (jobTa [0, 0] (.slice (some ⟨yg10, 0, none⟩) 2 2)) 3 3 (F45.b 3 rfl) (fun _ => rfl) rfl rfl (by omega)) ((F45.b 3 rfl)).lt (afs_jobA (slI_of [0, 0] 2 2 (F45.b 6 rfl) rfl rfl (by omega)) (Nat.le_refl _)) ((F45.b 6 rfl)).lt) (Nat.le_refl _) (kn_chk2 _)).mono ?_
  rintro e w71 ⟨rfl, hg69⟩
  have hg69s := hg69.size
  (try simp at hg69s)
  replace F45 := F45.gn hg69
  clear hg69
  have F73 : Bun w [] _ := F45.pick [] (by decide) rfl
  clear F45
  go_wp2_with fail
  replace F73 := F73.drew
  refine ru_begin (fun W => True) 10 (by kernel_rfl) ?_ ?_
  · exact trivial
  obtain ⟨wd80, hwd_⟩ : ∃ x : World, w71.drew = x := ⟨_, rfl⟩
  rw [hwd_] at F73 ⊢
  have wd80s : w71.heap.size <= wd80.heap.size := by rw [← hwd_]; exact Nat.le_refl _
  clear hwd_
  refine ru_state 130 (fun t w_ => ∃ (gmm81 : Nat) (v2m81 : Value) (as82 : Option Addr) (cs82 : Nat) (los82 : Nat) (his82 : Nat) (as83 : Option Addr) (cs83 : Nat) (los83 : Nat) (his83 : Nat), (w.heap.size <= los82) /\ (his82 <= w_.heap.size) /\ (w.heap.size <= los83) /\ (his83 <= w_.heap.size) /\ t 3 = .slice as83 4 cs83 /\ t 4 = .int .i64 0 /\ w71.heap.size <= w_.heap.size /\ Bun w [rsl intEnc 1 los83 his83 (.slice as83 4 cs83) ([1, 1, 1, 1]), rsl weaEnc 6 los82 his82 (.slice as82 4 cs82) weekD, rbox gmm81 30 #[.int .i64 0, .int .i64 300, .int .i64 10, .int .i64 50, .int .i64 200, .int .i64 24]] w_) #[true, true, true, true, true, true, true, true, true, true, true] 0 ?st84 ?nx84
  case st84 =>
   rintro t w85 ⟨gmm81, v2m81, as82, cs82, los82, his82, as83, cs83, los83, his83, hxs82, hys82, hxs83, hys83, e3, e4, hsz84, F86⟩
   clear F73
   rw [rng_known_walk t, e3, e4]
   clear e3 e4
   have hws84 := F86.gb.size
   refine ru_done (by kernel_rfl) ?_
   obtain ⟨w87, hx88, F90, hxs89⟩ := F86.name
   (try simp at hxs89)
   rw [hx88]
   clear hx88 F86
   have F91 : Bun w [rsl intEnc 1 los83 his83 (.slice as83 4 cs83) ([1, 1, 1, 1])] _ := F90.pick [0] (by decide) rfl
   clear F90
   go_wp2_with fail
   replace F91 := F91.drew
   refine ru_begin (fun W => True) 10 (by kernel_rfl) ?_ ?_
   · exact trivial
   obtain ⟨wd98, hwd_⟩ : ∃ x : World, w87.drew = x := ⟨_, rfl⟩
   rw [hwd_] at F91 ⊢
   have wd98s : w87.heap.size <= wd98.heap.size := by rw [← hwd_]; exact Nat.le_refl _
   clear hwd_
   refine ru_state 130 (fun t w_ => ∃ (gmm99 : Nat) (v2m99 : Value) (as100 : Option Addr) (cs100 : Nat) (los100 : Nat) (his100 : Nat) (as101 : Option Addr) (cs101 : Nat) (los101 : Nat) (his101 : Nat), (w.heap.size <= los100) /\ (his100 <= w_.heap.size) /\ (w.heap.size <= los101) /\ (his101 <= w_.heap.size) /\ t 3 = .slice as83 4 cs83 /\ t 4 = .int .i64 0 /\ t 5 = .slice as101 4 cs101 /\ t 6 = .int .i64 0 /\ w87.heap.size <= w_.heap.size /\ Bun w [rsl intEnc 1 los101 his101 (.slice as101 4 cs101) ([1, 1, 2, 3]), rsl weaEnc 6 los100 his100 (.slice as100 4 cs100) weekD, rbox gmm99 30 #[.int .i64 0, .int .i64 300, .int .i64 10, .int .i64 50, .int .i64 200, .int .i64 24], rsl intEnc 1 los83 his83 (.slice as83 4 cs83) ([1, 1, 1, 1])] w_) #[true, true, true, true, true, true, true, true, true, true, true] 0 ?st102 ?nx102
   case st102 =>
    rintro t w103 ⟨gmm99, v2m99, as100, cs100, los100, his100, as101, cs101, los101, his101, hxs100, hys100, hxs101, hys101, e3, e4, e5, e6, hsz102, F104⟩
    clear F91
    rw [rng_known_walk t, e3, e4, e5, e6]
    clear e3 e4 e5 e6
    have hws102 := F104.gb.size
    refine ru_done (by kernel_rfl) ?_
    obtain ⟨w105, hx106, F108, hxs107⟩ := F104.name
    (try simp at hxs107)
    rw [hx106]
    clear hx106 F104
    have F109 : Bun w [rsl intEnc 1 los101 his101 (.slice as101 4 cs101) ([1, 1, 2, 3]), rsl intEnc 1 los83 his83 (.slice as83 4 cs83) ([1, 1, 1, 1])] _ := F108.pick [0, 3] (by decide) rfl
    clear F108
    go_wp2_with fail
    refine (ajobO_c _).mono ?_
    rintro e w111 ⟨gmb110, gtb110, gib110, rfl, hB112⟩
    have hB112s := hB112.gb.size
    (try simp at hB112s)
    replace F109 := F109.joinV (L2 := [rbox gmb110 30 #[.int .i64 0, .int .i64 300, .int .i64 10, .int .i64 50, .int .i64 200, .int .i64 24], rbox gtb110 34 #[.int .i64 0, .int .i64 5, .int .i64 12, .int .i64 0, .int .i64 0, .int .i64 0, .int .i64 0, .slice none 0 0, .int .i64 1, .int .i64 10, .int .i64 10, .int .i64 24, .int .i64 24, .int .i64 0, .int .i64 6, .slice (some ⟨gib110, 0, none⟩) 1 1, .int .i64 0, .int .i64 4, .int .i64 4, .int .i64 0, .int .i64 0, .int .i64 30, .int .i64 30, .slice none 0 0], rbox gib110 3 #[.int .i64 0]]) hB112 (Bun.allNew hB112 rfl)
    clear hB112
    (try dsimp only [List.cons_append, List.nil_append] at F109)
    go_wp2_with fail
    replace F109 := F109.new 25 #[.slice (some ⟨gmb110, 0, none⟩) 2 2, .slice (some ⟨gtb110, 0, none⟩) 3 3] (n := w111.heap.size) (by simp)
    have Fn_ := F109
    (try dsimp only [lpF, lpG] at Fn_)
    obtain ⟨w115, hx116, F118, hxs117⟩ := Fn_.name
    (try simp at hxs117)
    rw [hx116]
    clear hx116 F109 Fn_
    replace F118 := F118.drew
    refine ru_begin (fun W => W.cell? ⟨w111.heap.size, 1, none⟩ = some (.slice (some ⟨gtb110, 0, none⟩) 3 3)) 5 (by kernel_rfl) ?_ ?_
    · exact F118.q 0 1
    obtain ⟨wd121, hwd_⟩ : ∃ x : World, w115.drew = x := ⟨_, rfl⟩
    rw [hwd_] at F118 ⊢
    have wd121s : w115.heap.size <= wd121.heap.size := by rw [← hwd_]; exact Nat.le_refl _
    clear hwd_
    have hS120 := (F118.q 0 1)
    refine ru_t 0 [] ?_
    refine ru_t 1 [] ?_
    (try simp only [lpX])
    clear hS120
    refine ru_state 130 (fun t w_ => t 3 = .slice as83 4 cs83 /\ t 4 = .int .i64 0 /\ t 5 = .slice as101 4 cs101 /\ t 6 = .int .i64 0 /\ t 7 = .pointer (some ⟨w111.heap.size, 0, none⟩) /\ w115.heap.size <= w_.heap.size /\ Bun w [rbox gtb110 34 #[.int .i64 0, .int .i64 5, .int .i64 12, .int .i64 0, .int .i64 0, .int .i64 0, .int .i64 0, .slice none 0 0, .int .i64 1, .int .i64 10, .int .i64 30, .int .i64 24, .int .i64 24, .int .i64 0, .int .i64 6, .slice (some ⟨gib110, 0, none⟩) 1 1, .int .i64 0, .int .i64 4, .int .i64 4, .int .i64 0, .int .i64 0, .int .i64 30, .int .i64 30, .slice none 0 0], rbox w111.heap.size 25 #[.slice (some ⟨gmb110, 0, none⟩) 2 2, .slice (some ⟨gtb110, 0, none⟩) 3 3], rbox gmb110 30 #[.int .i64 0, .int .i64 300, .int .i64 10, .int .i64 50, .int .i64 200, .int .i64 24], rbox gib110 3 #[.int .i64 0], rsl intEnc 1 los101 his101 (.slice as101 4 cs101) ([1, 1, 2, 3]), rsl intEnc 1 los83 his83 (.slice as83 4 cs83) ([1, 1, 1, 1])] w_) #[true, true, true, true, true, true] 0 ?st122 ?nx122
    case st122 =>
     rintro t w123 ⟨e3, e4, e5, e6, e7, hsz122, F124⟩
     clear F118
     rw [rng_known_walk t, e3, e4, e5, e6, e7]
     clear e3 e4 e5 e6 e7
     have hws122 := F124.gb.size
     refine ru_done (by kernel_rfl) ?_
     obtain ⟨w125, hx126, F128, hxs127⟩ := F124.name
     (try simp at hxs127)
     rw [hx126]
     clear hx126 F124
     go_wp2_with fail
     replace F128 := F128.drew
     refine ru_begin (fun W => C2 W w111.heap.size (.slice (some ⟨gmb110, 0, none⟩) 2 2) (.slice (some ⟨gtb110, 0, none⟩) 3 3)) 9 (by kernel_rfl) ?_ ?_
     · exact (F128.c2 1)
     obtain ⟨wd133, hwd_⟩ : ∃ x : World, w125.drew = x := ⟨_, rfl⟩
     rw [hwd_] at F128 ⊢
     have wd133s : w125.heap.size <= wd133.heap.size := by rw [← hwd_]; exact Nat.le_refl _
     clear hwd_
     have hS132 := (F128.c2 1)
     refine ru_t 0 [] ?_
     (try simp only [lpX])
     clear hS132
     refine ru_state 130 (fun t w_ => ∃ (as134 : Option Addr) (cs134 : Nat) (los134 : Nat) (his134 : Nat) (as135 : Option Addr) (cs135 : Nat) (los135 : Nat) (his135 : Nat) (yg7 : Nat), (w.heap.size <= los134) /\ (his134 <= w_.heap.size) /\ (w.heap.size <= los135) /\ (his135 <= w_.heap.size) /\ t 3 = .slice as83 4 cs83 /\ t 4 = .int .i64 0 /\ t 5 = .slice as101 4 cs101 /\ t 6 = .int .i64 0 /\ t 8 = .slice as135 3 cs135 /\ t 9 = .pointer (some ⟨yg7, 0, none⟩) /\ t 10 = .int .i64 0 /\ w125.heap.size <= w_.heap.size /\ Bun w [rbox yg7 32 #[.int .i64 39, .int .i64 97], rsl timEnc 4 los135 his135 (.slice as135 3 cs135) knTL, rsl weaEnc 6 los134 his134 (.slice as134 4 cs134) weekD, rbox gtb110 34 #[.int .i64 0, .int .i64 5, .int .i64 12, .int .i64 0, .int .i64 0, .int .i64 0, .int .i64 0, .slice none 0 0, .int .i64 1, .int .i64 10, .int .i64 30, .int .i64 24, .int .i64 24, .int .i64 0, .int .i64 6, .slice (some ⟨gib110, 0, none⟩) 1 1, .int .i64 0, .int .i64 4, .int .i64 4, .int .i64 0, .int .i64 0, .int .i64 30, .int .i64 30, .slice none 0 0], rbox w111.heap.size 25 #[.slice (some ⟨gmb110, 0, none⟩) 2 2, .slice (some ⟨gtb110, 0, none⟩) 3 3], rbox gmb110 30 #[.int .i64 0, .int .i64 300, .int .i64 10, .int .i64 50, .int .i64 200, .int .i64 24], rbox gib110 3 #[.int .i64 0], rsl intEnc 1 los101 his101 (.slice as101 4 cs101) ([1, 1, 2, 3]), rsl intEnc 1 los83 his83 (.slice as83 4 cs83) ([1, 1, 1, 1])] w_) #[true, true, true, true, true, true, true, true, true, true, true] 0 ?st136 ?nx136
     case st136 =>
      rintro t w137 ⟨as134, cs134, los134, his134, as135, cs135, los135, his135, yg7, hxs134, hys134, hxs135, hys135, e3, e4, e5, e6, e8, e9, e10, hsz136, F138⟩
      clear F128
      rw [rng_known_walk t, e3, e4, e5, e6, e8, e9, e10]
      clear e3 e4 e5 e6 e8 e9 e10
      have hws136 := F138.gb.size
      have yg7l := F138.ltAt 0 rfl yg7 rfl
      have yg7b := yg7l.2 rfl
      refine ru_done (by kernel_rfl) ?_
      have Fn_ := (F138.drop 4 rfl)
      (try dsimp only [lpF, lpG] at Fn_)
      obtain ⟨w139, hx140, F142, hxs141⟩ := Fn_.name
      (try simp at hxs141)
      rw [hx140]
      clear hx140 F138 Fn_
      have F143 : Bun w [rbox yg7 32 #[.int .i64 39, .int .i64 97], rsl timEnc 4 los135 his135 (.slice as135 3 cs135) knTL, rsl intEnc 1 los101 his101 (.slice as101 4 cs101) ([1, 1, 2, 3]), rsl intEnc 1 los83 his83 (.slice as83 4 cs83) ([1, 1, 1, 1])] _ := F142.pick [0, 1, 6, 7] (by decide) rfl
      clear F142
      obtain ⟨x144, o145, e_⟩ := Sl.addr (F143.s 1 rfl) (by decide)
      subst e_
      have hz146 : Hid (knTL[1]? = some (⟨⟨5, 26⟩, ⟨15, 97⟩⟩ : Tim)) := lhd (rfl)
      go_wp2_with fail
      replace F143 := F143.drew
      refine ru_begin (fun W => W.cell? ⟨x144, o145 + 4 + 2, none⟩ = some (.int .i64 15) /\ W.cell? ⟨x144, o145 + 4 + 2 + 1, none⟩ = some (.int .i64 97) /\ C2 W yg7 (.int .i64 39) (.int .i64 97)) 27 (by kernel_rfl) ?_ ?_
      · exact ⟨(by have h_ := Sl.cells (F143.at 1 rfl) hz146.out 2 _ rfl; simpa [Nat.add_assoc] using h_), (by have h_ := Sl.cells (F143.at 1 rfl) hz146.out 3 _ rfl; simpa [Nat.add_assoc] using h_), F143.c2 0⟩
      obtain ⟨wd149, hwd_⟩ : ∃ x : World, w139.drew = x := ⟨_, rfl⟩
      rw [hwd_] at F143 ⊢
      have wd149s : w139.heap.size <= wd149.heap.size := by rw [← hwd_]; exact Nat.le_refl _
      clear hwd_
      have hS148 := (And.intro ((by have h_ := Sl.cells (F143.at 1 rfl) hz146.out 2 _ rfl; simpa [Nat.add_assoc] using h_)) (And.intro ((by have h_ := Sl.cells (F143.at 1 rfl) hz146.out 3 _ rfl; simpa [Nat.add_assoc] using h_)) (F143.c2 0)))
      refine ru_t 0 [23, 20, 15, 10, 6, 2, 1] ?_
      refine ru_t 1 [23, 20, 15, 10, 6, 2] ?_
      refine ru_t 2 [23, 20, 15, 10, 6] ?_
      refine ru_t 3 [23, 20, 15, 10, 6, 5, 4] ?_
      refine ru_t 4 [23, 20, 15, 10, 6, 5] ?_
      refine ru_t 5 [23, 20, 15, 10, 6] ?_
      refine ru_t 6 [23, 20, 15, 10] ?_
      refine ru_t 7 [23, 20, 15, 10, 9, 8] ?_
      refine ru_t 8 [23, 20, 15, 10, 9] ?_
      refine ru_t 9 [23, 20, 15, 10] ?_
      refine ru_t 10 [23, 20, 15] ?_
      refine ru_t 11 [23, 20, 15, 14, 13, 12] ?_
      refine ru_t 12 [23, 20, 15, 14, 13] ?_
      refine ru_t 13 [23, 20, 15, 14] ?_
      refine ru_t 14 [23, 20, 15] ?_
      refine ru_t 15 [23, 20] ?_
      refine ru_t 16 [23, 22, 21, 19, 18, 17] ?_
      refine ru_t 17 [23, 22, 21, 19, 18] ?_
      refine ru_t 18 [23, 22, 21, 19] ?_
      refine ru_t 19 [23, 22, 21] ?_
      (try simp only [lpX])
      clear hS148
      refine ru_o 20 fun K hK => ?_
      go_simp
      refine (aspan_c 15 97 _).mono ?_
      rintro e w152 ⟨rfl, hg150⟩
      have hg150s := hg150.size
      (try simp at hg150s)
      replace F143 := F143.gn hg150
      refine ru_back hK (by exact ⟨(by have h_ := Sl.cells (F143.at 1 rfl) hz146.out 2 _ rfl; simpa [Nat.add_assoc] using h_), (by have h_ := Sl.cells (F143.at 1 rfl) hz146.out 3 _ rfl; simpa [Nat.add_assoc] using h_), F143.c2 0⟩) (fun _ => ?_)
      clear hK K
      (try simp only [lpX])
      refine ru_p 21 ?_
      (try simp only [lpX])
      refine ru_p 22 ?_
      (try simp only [lpX])
      refine ru_p 23 ?_
      (try simp only [lpX])
      refine ru_t 24 [26] ?_
      (try simp only [lpX])
      refine ru_o 25 fun K hK => ?_
      go_simp
      refine (aspan_c 39 97 _).mono ?_
      rintro e w156 ⟨rfl, hg154⟩
      have hg154s := hg154.size
      (try simp at hg154s)
      replace F143 := F143.gn hg154
      refine ru_back hK (by exact ⟨(by have h_ := Sl.cells (F143.at 1 rfl) hz146.out 2 _ rfl; simpa [Nat.add_assoc] using h_), (by have h_ := Sl.cells (F143.at 1 rfl) hz146.out 3 _ rfl; simpa [Nat.add_assoc] using h_), F143.c2 0⟩) (fun _ => ?_)
      clear hK K
      (try simp only [lpX])
      refine ru_p 26 ?_
      (try simp only [lpX])
      refine ru_o 27 fun K hK => ?_
      go_simp
      refine ru_back_late hK (by kernel_rfl) ?_
      clear hK K
      (try simp only [lpX])
      refine ru_done (by kernel_rfl) ?_
      have Fn_ := (F143.drop 0 rfl)
      (try dsimp only [lpF, lpG] at Fn_)
      obtain ⟨w158, hx159, F161, hxs160⟩ := Fn_.name
      (try simp at hxs160)
      rw [hx159]
      clear hx159 F143 Fn_
      go_wp2_with fail
      replace F161 := F161.new 3 #[.int .i64 1, .int .i64 1, .int .i64 1, .int .i64 1] (n := w158.heap.size) (by simp)
      refine (same_t _ _ _ _ _ _ [1, 1, 1, 1] _ (F161.s 3 rfl) (slI_of [1, 1, 1, 1] 4 4 (F161.b 0 rfl) rfl rfl (by omega))).mono ?_
      rintro e w165 ⟨rfl, hg163⟩
      have hg163s := hg163.size
      (try simp at hg163s)
      replace F161 := F161.gn hg163
      clear hg163
      go_wp2_with fail
      replace F161 := F161.new 3 #[.int .i64 1, .int .i64 1, .int .i64 2, .int .i64 3] (n := w165.heap.size) (by simp)
      refine (same_t _ _ _ _ _ _ [1, 1, 2, 3] _ (F161.s 3 rfl) (slI_of [1, 1, 2, 3] 4 4 (F161.b 0 rfl) rfl rfl (by omega))).mono ?_
      rintro e w170 ⟨rfl, hg168⟩
      have hg168s := hg168.size
      (try simp at hg168s)
      replace F161 := F161.gn hg168
      clear hg168
      go_wp2_with fail
      refine (others_c _).mono ?_
      rintro e w174 ⟨rfl, hg172⟩
      have hg172s := hg172.size
      (try simp at hg172s)
      replace F161 := F161.gn hg172
      clear hg172
      go_wp2_with fail
      go_ret
      exact ⟨rfl, F161.gb⟩
     intro hZ136
     refine ru_state 130 (fun t w_ => ∃ (as134 : Option Addr) (cs134 : Nat) (los134 : Nat) (his134 : Nat) (as135 : Option Addr) (cs135 : Nat) (los135 : Nat) (his135 : Nat) (yg7 : Nat), (w.heap.size <= los134) /\ (his134 <= w_.heap.size) /\ (w.heap.size <= los135) /\ (his135 <= w_.heap.size) /\ t 3 = .slice as83 4 cs83 /\ t 4 = .int .i64 0 /\ t 5 = .slice as101 4 cs101 /\ t 6 = .int .i64 0 /\ t 8 = .slice as135 3 cs135 /\ t 9 = .pointer (some ⟨yg7, 0, none⟩) /\ t 89 = .agg #[.int .i64 39, .int .i64 97] /\ t 90 = .int .i64 0 /\ w125.heap.size <= w_.heap.size /\ Bun w [rbox yg7 32 #[.int .i64 0, .int .i64 0], rsl timEnc 4 los135 his135 (.slice as135 3 cs135) knTL, rsl weaEnc 6 los134 his134 (.slice as134 4 cs134) weekD, rbox gtb110 34 #[.int .i64 0, .int .i64 5, .int .i64 12, .int .i64 0, .int .i64 0, .int .i64 0, .int .i64 0, .slice none 0 0, .int .i64 1, .int .i64 10, .int .i64 30, .int .i64 24, .int .i64 24, .int .i64 0, .int .i64 6, .slice (some ⟨gib110, 0, none⟩) 1 1, .int .i64 0, .int .i64 4, .int .i64 4, .int .i64 0, .int .i64 0, .int .i64 30, .int .i64 30, .slice none 0 0], rbox w111.heap.size 25 #[.slice (some ⟨gmb110, 0, none⟩) 2 2, .slice (some ⟨gtb110, 0, none⟩) 3 3], rbox gmb110 30 #[.int .i64 0, .int .i64 300, .int .i64 10, .int .i64 50, .int .i64 200, .int .i64 24], rbox gib110 3 #[.int .i64 0], rsl intEnc 1 los101 his101 (.slice as101 4 cs101) ([1, 1, 2, 3]), rsl intEnc 1 los83 his83 (.slice as83 4 cs83) ([1, 1, 1, 1])] w_) #[true, true, true, true, true, true, true, true, true, false, false] 2 ?st176 ?nx176
     case st176 =>
      rintro t w177 ⟨as134, cs134, los134, his134, as135, cs135, los135, his135, yg7, hxs134, hys134, hxs135, hys135, e3, e4, e5, e6, e8, e9, e89, e90, hsz176, F178⟩
      clear F128
      rw [rng_known_walk t, e3, e4, e5, e6, e8, e9, e89, e90]
      clear e3 e4 e5 e6 e8 e9 e89 e90
      have hws176 := F178.gb.size
      have yg7l := F178.ltAt 0 rfl yg7 rfl
      have yg7b := yg7l.2 rfl
      refine ru_o 9 fun K hK => ?_
      have kb_ := F178.bx2 0 rfl
      go_simp
      clear kb_
      replace F178 := F178.pt2 (.int .i64 39) (.int .i64 97)
      refine ru_back_late hK (by kernel_rfl) ?_
      clear hK K
      (try simp only [lpX])
      refine ru_p 10 ?_
      (try simp only [lpX])
      exact hZ136.out _ _ _ (by kernel_rfl) (by kernel_rfl) rfl ⟨as134, cs134, los134, his134, as135, cs135, los135, his135, yg7, (by first | omega | (simp; omega)), (by first | omega | (simp; omega)), (by first | omega | (simp; omega)), (by first | omega | (simp; omega)), by (iterate 7 refine ⟨by kernel_rfl, ?_⟩); exact ⟨(by first | omega | (simp; done) | (simp; omega)), F178⟩⟩
     intro hZ176
     refine ru_state 130 (fun t w_ => ∃ (as134 : Option Addr) (cs134 : Nat) (los134 : Nat) (his134 : Nat) (as135 : Option Addr) (cs135 : Nat) (los135 : Nat) (his135 : Nat), (w.heap.size <= los134) /\ (his134 <= w_.heap.size) /\ (w.heap.size <= los135) /\ (his135 <= w_.heap.size) /\ t 3 = .slice as83 4 cs83 /\ t 4 = .int .i64 0 /\ t 5 = .slice as101 4 cs101 /\ t 6 = .int .i64 0 /\ t 88 = .slice as135 3 cs135 /\ t 89 = .agg #[.int .i64 39, .int .i64 97] /\ t 90 = .int .i64 0 /\ w125.heap.size <= w_.heap.size /\ Bun w [rsl timEnc 4 los135 his135 (.slice as135 3 cs135) knTL, rsl weaEnc 6 los134 his134 (.slice as134 4 cs134) weekD, rbox gtb110 34 #[.int .i64 0, .int .i64 5, .int .i64 12, .int .i64 0, .int .i64 0, .int .i64 0, .int .i64 0, .slice none 0 0, .int .i64 1, .int .i64 10, .int .i64 30, .int .i64 24, .int .i64 24, .int .i64 0, .int .i64 6, .slice (some ⟨gib110, 0, none⟩) 1 1, .int .i64 0, .int .i64 4, .int .i64 4, .int .i64 0, .int .i64 0, .int .i64 30, .int .i64 30, .slice none 0 0], rbox w111.heap.size 25 #[.slice (some ⟨gmb110, 0, none⟩) 2 2, .slice (some ⟨gtb110, 0, none⟩) 3 3], rbox gmb110 30 #[.int .i64 0, .int .i64 300, .int .i64 10, .int .i64 50, .int .i64 200, .int .i64 24], rbox gib110 3 #[.int .i64 0], rsl intEnc 1 los101 his101 (.slice as101 4 cs101) ([1, 1, 2, 3]), rsl intEnc 1 los83 his83 (.slice as83 4 cs83) ([1, 1, 1, 1])] w_) #[true, true, true, true, true, true, true, false, false, false, false] 4 ?st180 ?nx180
     case st180 =>
      rintro t w181 ⟨as134, cs134, los134, his134, as135, cs135, los135, his135, hxs134, hys134, hxs135, hys135, e3, e4, e5, e6, e88, e89, e90, hsz180, F182⟩
      clear F128
      rw [rng_known_walk t, e3, e4, e5, e6, e88, e89, e90]
      clear e3 e4 e5 e6 e88 e89 e90
      have hws180 := F182.gb.size
      refine ru_o 7 fun K hK => ?_
      go_simp
      replace F182 := F182.new 32 #[.int .i64 0, .int .i64 0] (n := w181.heap.size) (by simp)
      refine ru_back hK (by exact ⟨F182.q 4 0, F182.q 4 1⟩) (fun _ => ?_)
      clear hK K
      (try simp only [lpX])
      refine ru_p 8 ?_
      (try simp only [lpX])
      exact hZ176.out _ _ _ (by kernel_rfl) (by kernel_rfl) rfl ⟨as134, cs134, los134, his134, as135, cs135, los135, his135, w181.heap.size, (by first | omega | (simp; omega)), (by first | omega | (simp; omega)), (by first | omega | (simp; omega)), (by first | omega | (simp; omega)), by (iterate 8 refine ⟨by kernel_rfl, ?_⟩); exact ⟨(by first | omega | (simp; done) | (simp; omega)), F182⟩⟩
     intro hZ180
     refine ru_state 130 (fun t w_ => ∃ (as134 : Option Addr) (cs134 : Nat) (los134 : Nat) (his134 : Nat) (yg7 : Nat), (w.heap.size <= los134) /\ (his134 <= w_.heap.size) /\ t 3 = .slice as83 4 cs83 /\ t 4 = .int .i64 0 /\ t 5 = .slice as101 4 cs101 /\ t 6 = .int .i64 0 /\ t 9 = .pointer (some ⟨yg7, 0, none⟩) /\ t 85 = .agg #[.slice (some ⟨gmb110, 0, none⟩) 2 2, .slice (some ⟨gtb110, 0, none⟩) 3 3] /\ t 86 = .slice as134 4 cs134 /\ w125.heap.size <= w_.heap.size /\ Bun w [rbox yg7 32 #[.int .i64 0, .int .i64 0], rsl weaEnc 6 los134 his134 (.slice as134 4 cs134) weekD, rbox gtb110 34 #[.int .i64 0, .int .i64 5, .int .i64 12, .int .i64 0, .int .i64 0, .int .i64 0, .int .i64 0, .slice none 0 0, .int .i64 1, .int .i64 10, .int .i64 30, .int .i64 24, .int .i64 24, .int .i64 0, .int .i64 6, .slice (some ⟨gib110, 0, none⟩) 1 1, .int .i64 0, .int .i64 4, .int .i64 4, .int .i64 0, .int .i64 0, .int .i64 30, .int .i64 30, .slice none 0 0], rbox w111.heap.size 25 #[.slice (some ⟨gmb110, 0, none⟩) 2 2, .slice (some ⟨gtb110, 0, none⟩) 3 3], rbox gmb110 30 #[.int .i64 0, .int .i64 300, .int .i64 10, .int .i64 50, .int .i64 200, .int .i64 24], rbox gib110 3 #[.int .i64 0], rsl intEnc 1 los101 his101 (.slice as101 4 cs101) ([1, 1, 2, 3]), rsl intEnc 1 los83 his83 (.slice as83 4 cs83) ([1, 1, 1, 1])] w_) #[true, true, false, false, false, false, false, true, false, false, false] 8 ?st184 ?nx184
     case st184 =>
      rintro t w185 ⟨as134, cs134, los134, his134, yg7, hxs134, hys134, e3, e4, e5, e6, e9, e85, e86, hsz184, F186⟩
      clear F128
      rw [rng_known_walk t, e3, e4, e5, e6, e9, e85, e86]
      clear e3 e4 e5 e6 e9 e85 e86
      have hws184 := F186.gb.size
      have yg7l := F186.ltAt 0 rfl yg7 rfl
      have yg7b := yg7l.2 rfl
      refine ru_o 2 fun K hK => ?_
      go_simp
      refine (knTim 0 _ _ _ _ _ _ _ _ (jobAt_of3 (Bk.sl mchEnc 3 jobM 2 2 (F186.b 4 rfl) (fun _ => rfl) rfl rfl (by omega)) ((F186.b 4 rfl)).lt (Bk.sl tskEnc 8 (jobTl (.slice (some ⟨gib110, 0, none⟩) 1 1)) 3 3 (F186.b 2 rfl) (fun _ => rfl) rfl rfl (by omega)) ((F186.b 2 rfl)).lt (afs_jobL (slI_of [0] 1 1 (F186.b 5 rfl) rfl rfl (by omega)) (Nat.le_refl _)) ((F186.b 5 rfl)).lt) (Nat.le_refl _) (F186.s 1 rfl) (by first | omega | (simp; omega))).mono ?_
      rintro e w190 ⟨as187, cs187, los187, his187, rfl, ⟨hxs187, hys187⟩, hzs187, hg188⟩
      have hg188s := hg188.size
      (try simp at hg188s)
      replace F186 := F186.add (rsl timEnc 4 los187 his187 (.slice as187 3 cs187) knTL) hg188 (hzs187) (fun g e => ⟨Nat.le_trans hxs187 e.1, Nat.lt_of_lt_of_le e.2 hys187⟩)
      refine ru_back hK (by exact ⟨F186.q 4 0, F186.q 4 1⟩) (fun _ => ?_)
      clear hK K
      (try simp only [lpX])
      refine ru_p 3 ?_
      (try simp only [lpX])
      refine ru_p 4 ?_
      (try simp only [lpX])
      refine ru_p 5 ?_
      (try simp only [lpX])
      refine ru_p 6 ?_
      (try simp only [lpX])
      refine ru_p 8 ?_
      (try simp only [lpX])
      exact hZ176.out _ _ _ (by kernel_rfl) (by kernel_rfl) rfl ⟨as134, cs134, los134, his134, as187, cs187, los187, his187, yg7, (by first | omega | (simp; omega)), (by first | omega | (simp; omega)), (by first | omega | (simp; omega)), (by first | omega | (simp; omega)), by (iterate 8 refine ⟨by kernel_rfl, ?_⟩); exact ⟨(by first | omega | (simp; done) | (simp; omega)), (F186.pick [1, 0, 2, 3, 4, 5, 6, 7, 8] (by decide) rfl)⟩⟩
     intro hZ184
     refine ru_state 130 (fun t w_ => ∃ (as134 : Option Addr) (cs134 : Nat) (los134 : Nat) (his134 : Nat), (w.heap.size <= los134) /\ (his134 <= w_.heap.size) /\ t 3 = .slice as83 4 cs83 /\ t 4 = .int .i64 0 /\ t 5 = .slice as101 4 cs101 /\ t 6 = .int .i64 0 /\ t 85 = .agg #[.slice (some ⟨gmb110, 0, none⟩) 2 2, .slice (some ⟨gtb110, 0, none⟩) 3 3] /\ t 86 = .slice as134 4 cs134 /\ w125.heap.size <= w_.heap.size /\ Bun w [rsl weaEnc 6 los134 his134 (.slice as134 4 cs134) weekD, rbox gtb110 34 #[.int .i64 0, .int .i64 5, .int .i64 12, .int .i64 0, .int .i64 0, .int .i64 0, .int .i64 0, .slice none 0 0, .int .i64 1, .int .i64 10, .int .i64 30, .int .i64 24, .int .i64 24, .int .i64 0, .int .i64 6, .slice (some ⟨gib110, 0, none⟩) 1 1, .int .i64 0, .int .i64 4, .int .i64 4, .int .i64 0, .int .i64 0, .int .i64 30, .int .i64 30, .slice none 0 0], rbox w111.heap.size 25 #[.slice (some ⟨gmb110, 0, none⟩) 2 2, .slice (some ⟨gtb110, 0, none⟩) 3 3], rbox gmb110 30 #[.int .i64 0, .int .i64 300, .int .i64 10, .int .i64 50, .int .i64 200, .int .i64 24], rbox gib110 3 #[.int .i64 0], rsl intEnc 1 los101 his101 (.slice as101 4 cs101) ([1, 1, 2, 3]), rsl intEnc 1 los83 his83 (.slice as83 4 cs83) ([1, 1, 1, 1])] w_) #[true, true, false, false, false, false, false, false, false, false, false] 9 ?st192 ?nx192
     case st192 =>
      rintro t w193 ⟨as134, cs134, los134, his134, hxs134, hys134, e3, e4, e5, e6, e85, e86, hsz192, F194⟩
      clear F128
      rw [rng_known_walk t, e3, e4, e5, e6, e85, e86]
      clear e3 e4 e5 e6 e85 e86
      have hws192 := F194.gb.size
      refine ru_two 2 7 rfl rfl (by kernel_rfl) ?_ ?_
      ·
       intro K hK
       go_simp
       refine (knTim 0 _ _ _ _ _ _ _ _ (jobAt_of3 (Bk.sl mchEnc 3 jobM 2 2 (F194.b 3 rfl) (fun _ => rfl) rfl rfl (by omega)) ((F194.b 3 rfl)).lt (Bk.sl tskEnc 8 (jobTl (.slice (some ⟨gib110, 0, none⟩) 1 1)) 3 3 (F194.b 1 rfl) (fun _ => rfl) rfl rfl (by omega)) ((F194.b 1 rfl)).lt (afs_jobL (slI_of [0] 1 1 (F194.b 4 rfl) rfl rfl (by omega)) (Nat.le_refl _)) ((F194.b 4 rfl)).lt) (Nat.le_refl _) (F194.s 0 rfl) (by first | omega | (simp; omega))).mono ?_
       rintro e w198 ⟨as195, cs195, los195, his195, rfl, ⟨hxs195, hys195⟩, hzs195, hg196⟩
       have hg196s := hg196.size
       (try simp at hg196s)
       replace F194 := F194.add (rsl timEnc 4 los195 his195 (.slice as195 3 cs195) knTL) hg196 (hzs195) (fun g e => ⟨Nat.le_trans hxs195 e.1, Nat.lt_of_lt_of_le e.2 hys195⟩)
       refine ru_back hK (by exact ⟨F194.q 3 0, F194.q 3 1⟩) (fun _ => ?_)
       clear hK K
       (try simp only [lpX])
       refine ru_p 3 ?_
       (try simp only [lpX])
       refine ru_p 4 ?_
       (try simp only [lpX])
       refine ru_p 5 ?_
       (try simp only [lpX])
       refine ru_p 6 ?_
       (try simp only [lpX])
       exact hZ180.out _ _ _ (by kernel_rfl) (by kernel_rfl) rfl ⟨as134, cs134, los134, his134, as195, cs195, los195, his195, (by first | omega | (simp; omega)), (by first | omega | (simp; omega)), (by first | omega | (simp; omega)), (by first | omega | (simp; omega)), by (iterate 7 refine ⟨by kernel_rfl, ?_⟩); exact ⟨(by first | omega | (simp; done) | (simp; omega)), F194⟩⟩
      intro K hK
      go_simp
      replace F194 := F194.new 32 #[.int .i64 0, .int .i64 0] (n := w193.heap.size) (by simp)
      refine ru_back hK (by exact ⟨F194.q 3 0, F194.q 3 1⟩) (fun _ => ?_)
      exact hZ184.out _ _ _ (by kernel_rfl) (by kernel_rfl) rfl ⟨as134, cs134, los134, his134, w193.heap.size, (by first | omega | (simp; omega)), (by first | omega | (simp; omega)), by (iterate 7 refine ⟨by kernel_rfl, ?_⟩); exact ⟨(by first | omega | (simp; done) | (simp; omega)), F194⟩⟩
     intro hZ192
     refine ru_state 130 (fun t w_ => ∃ (yg7 : Nat), t 3 = .slice as83 4 cs83 /\ t 4 = .int .i64 0 /\ t 5 = .slice as101 4 cs101 /\ t 6 = .int .i64 0 /\ t 9 = .pointer (some ⟨yg7, 0, none⟩) /\ t 85 = .agg #[.slice (some ⟨gmb110, 0, none⟩) 2 2, .slice (some ⟨gtb110, 0, none⟩) 3 3] /\ w125.heap.size <= w_.heap.size /\ Bun w [rbox yg7 32 #[.int .i64 0, .int .i64 0], rbox gtb110 34 #[.int .i64 0, .int .i64 5, .int .i64 12, .int .i64 0, .int .i64 0, .int .i64 0, .int .i64 0, .slice none 0 0, .int .i64 1, .int .i64 10, .int .i64 30, .int .i64 24, .int .i64 24, .int .i64 0, .int .i64 6, .slice (some ⟨gib110, 0, none⟩) 1 1, .int .i64 0, .int .i64 4, .int .i64 4, .int .i64 0, .int .i64 0, .int .i64 30, .int .i64 30, .slice none 0 0], rbox w111.heap.size 25 #[.slice (some ⟨gmb110, 0, none⟩) 2 2, .slice (some ⟨gtb110, 0, none⟩) 3 3], rbox gmb110 30 #[.int .i64 0, .int .i64 300, .int .i64 10, .int .i64 50, .int .i64 200, .int .i64 24], rbox gib110 3 #[.int .i64 0], rsl intEnc 1 los101 his101 (.slice as101 4 cs101) ([1, 1, 2, 3]), rsl intEnc 1 los83 his83 (.slice as83 4 cs83) ([1, 1, 1, 1])] w_) #[true, false, false, false, false, false, false, true, false, false, false] 9 ?st201 ?nx201
     case st201 =>
      rintro t w202 ⟨yg7, e3, e4, e5, e6, e9, e85, hsz201, F203⟩
      clear F128
      rw [rng_known_walk t, e3, e4, e5, e6, e9, e85]
      clear e3 e4 e5 e6 e9 e85
      have hws201 := F203.gb.size
      have yg7l := F203.ltAt 0 rfl yg7 rfl
      have yg7b := yg7l.2 rfl
      refine ru_o 1 fun K hK => ?_
      go_simp
      refine (aweek_b _).mono ?_
      rintro e w207 ⟨as204, cs204, los204, his204, rfl, ⟨hxs204, hys204⟩, hzs204, hg205⟩
      have hg205s := hg205.size
      (try simp at hg205s)
      replace F203 := F203.add (rsl weaEnc 6 los204 his204 (.slice as204 4 cs204) weekD) hg205 (hzs204) (fun g e => ⟨Nat.le_trans hxs204 e.1, Nat.lt_of_lt_of_le e.2 hys204⟩)
      refine ru_back hK (by exact ⟨F203.q 3 0, F203.q 3 1⟩) (fun _ => ?_)
      exact hZ184.out _ _ _ (by kernel_rfl) (by kernel_rfl) rfl ⟨as204, cs204, los204, his204, yg7, (by first | omega | (simp; omega)), (by first | omega | (simp; omega)), by (iterate 7 refine ⟨by kernel_rfl, ?_⟩); exact ⟨(by first | omega | (simp; done) | (simp; omega)), (F203.pick [1, 0, 2, 3, 4, 5, 6, 7] (by decide) rfl)⟩⟩
     intro hZ201
     refine ru_two 1 7 rfl rfl (by kernel_rfl) ?_ ?_
     ·
      intro K hK
      go_simp
      refine (aweek_b _).mono ?_
      rintro e w212 ⟨as209, cs209, los209, his209, rfl, ⟨hxs209, hys209⟩, hzs209, hg210⟩
      have hg210s := hg210.size
      (try simp at hg210s)
      replace F128 := F128.add (rsl weaEnc 6 los209 his209 (.slice as209 4 cs209) weekD) hg210 (hzs209) (fun g e => ⟨Nat.le_trans hxs209 e.1, Nat.lt_of_lt_of_le e.2 hys209⟩)
      refine ru_back hK (by exact ⟨F128.q 2 0, F128.q 2 1⟩) (fun _ => ?_)
      exact hZ192.out _ _ _ (by kernel_rfl) (by kernel_rfl) rfl ⟨as209, cs209, los209, his209, (by first | omega | (simp; omega)), (by first | omega | (simp; omega)), by (iterate 6 refine ⟨by kernel_rfl, ?_⟩); exact ⟨(by first | omega | (simp; done) | (simp; omega)), F128⟩⟩
     intro K hK
     go_simp
     replace F128 := F128.new 32 #[.int .i64 0, .int .i64 0] (n := wd133.heap.size) (by simp)
     refine ru_back hK (by exact ⟨F128.q 2 0, F128.q 2 1⟩) (fun _ => ?_)
     exact hZ201.out _ _ _ (by kernel_rfl) (by kernel_rfl) rfl ⟨wd133.heap.size, by (iterate 6 refine ⟨by kernel_rfl, ?_⟩); exact ⟨(by first | omega | (simp; done) | (simp; omega)), F128⟩⟩
    intro hZ122
    refine ru_state 130 (fun t w_ => t 3 = .slice as83 4 cs83 /\ t 4 = .int .i64 0 /\ t 5 = .slice as101 4 cs101 /\ t 6 = .int .i64 0 /\ t 7 = .pointer (some ⟨w111.heap.size, 0, none⟩) /\ t 81 = .agg #[.int .i64 10, .int .i64 30] /\ t 83 = .pointer (some ⟨gtb110, 9, none⟩) /\ w115.heap.size <= w_.heap.size /\ Bun w [rbox w111.heap.size 25 #[.slice (some ⟨gmb110, 0, none⟩) 2 2, .slice (some ⟨gtb110, 0, none⟩) 3 3], rbox gmb110 30 #[.int .i64 0, .int .i64 300, .int .i64 10, .int .i64 50, .int .i64 200, .int .i64 24], rbox gtb110 34 #[.int .i64 0, .int .i64 5, .int .i64 12, .int .i64 0, .int .i64 0, .int .i64 0, .int .i64 0, .slice none 0 0, .int .i64 1, .int .i64 10, .int .i64 10, .int .i64 24, .int .i64 24, .int .i64 0, .int .i64 6, .slice (some ⟨gib110, 0, none⟩) 1 1, .int .i64 0, .int .i64 4, .int .i64 4, .int .i64 0, .int .i64 0, .int .i64 30, .int .i64 30, .slice none 0 0], rbox gib110 3 #[.int .i64 0], rsl intEnc 1 los101 his101 (.slice as101 4 cs101) ([1, 1, 2, 3]), rsl intEnc 1 los83 his83 (.slice as83 4 cs83) ([1, 1, 1, 1])] w_) #[true, true, true, true, true, false] 1 ?st215 ?nx215
    case st215 =>
     rintro t w216 ⟨e3, e4, e5, e6, e7, e81, e83, hsz215, F217⟩
     clear F118
     rw [rng_known_walk t, e3, e4, e5, e6, e7, e81, e83]
     clear e3 e4 e5 e6 e7 e81 e83
     have hws215 := F217.gb.size
     refine ru_o 5 fun K hK => ?_
     have kb_ := F217.bx24 2 rfl
     go_simp
     clear kb_
     have F218 := ((F217.front 2 rfl rfl).set 9 (.int .i64 10)).nf #[.int .i64 0, .int .i64 5, .int .i64 12, .int .i64 0, .int .i64 0, .int .i64 0, .int .i64 0, .slice none 0 0, .int .i64 1, .int .i64 10, .int .i64 10, .int .i64 24, .int .i64 24, .int .i64 0, .int .i64 6, .slice (some ⟨gib110, 0, none⟩) 1 1, .int .i64 0, .int .i64 4, .int .i64 4, .int .i64 0, .int .i64 0, .int .i64 30, .int .i64 30, .slice none 0 0] rfl
     clear F217
     have F219 := (F218.set 10 (.int .i64 30)).nf #[.int .i64 0, .int .i64 5, .int .i64 12, .int .i64 0, .int .i64 0, .int .i64 0, .int .i64 0, .slice none 0 0, .int .i64 1, .int .i64 10, .int .i64 30, .int .i64 24, .int .i64 24, .int .i64 0, .int .i64 6, .slice (some ⟨gib110, 0, none⟩) 1 1, .int .i64 0, .int .i64 4, .int .i64 4, .int .i64 0, .int .i64 0, .int .i64 30, .int .i64 30, .slice none 0 0] rfl
     clear F218
     refine ru_back_late hK (by kernel_rfl) ?_
     exact hZ122.out _ _ _ (by kernel_rfl) (by kernel_rfl) rfl (by (iterate 5 refine ⟨by kernel_rfl, ?_⟩); exact ⟨(by first | omega | (simp; done) | (simp; omega)), F219⟩)
    intro hZ215
    refine ru_o 2 fun K hK => ?_
    go_simp
    refine (aspan_c 10 30 _).mono ?_
    rintro e w222 ⟨rfl, hg220⟩
    have hg220s := hg220.size
    (try simp at hg220s)
    replace F118 := F118.gn hg220
    refine ru_back hK (by exact F118.q 0 1) (fun _ => ?_)
    clear hK K
    (try simp only [lpX])
    refine ru_p 3 ?_
    (try simp only [lpX])
    refine ru_p 4 ?_
    (try simp only [lpX])
    exact hZ215.out _ _ _ (by kernel_rfl) (by kernel_rfl) rfl (by (iterate 7 refine ⟨by kernel_rfl, ?_⟩); exact ⟨(by first | omega | (simp; done) | (simp; omega)), F118⟩)
   intro hZ102
   refine ru_state 130 (fun t w_ => ∃ (gmm99 : Nat) (v2m99 : Value) (as100 : Option Addr) (cs100 : Nat) (los100 : Nat) (his100 : Nat) (as101 : Option Addr) (cs101 : Nat) (los101 : Nat) (his101 : Nat), (w.heap.size <= los100) /\ (his100 <= w_.heap.size) /\ (w.heap.size <= los101) /\ (his101 <= w_.heap.size) /\ t 3 = .slice as83 4 cs83 /\ t 4 = .int .i64 0 /\ t 5 = .slice as101 4 cs101 /\ t 77 = .int .i64 0 /\ w87.heap.size <= w_.heap.size /\ Bun w [rsl intEnc 1 los101 his101 (.slice as101 4 cs101) ([1, 1, 2, 3]), rsl weaEnc 6 los100 his100 (.slice as100 4 cs100) weekD, rbox gmm99 30 #[.int .i64 0, .int .i64 300, .int .i64 10, .int .i64 50, .int .i64 200, .int .i64 24], rsl intEnc 1 los83 his83 (.slice as83 4 cs83) ([1, 1, 1, 1])] w_) #[true, true, true, true, true, true, true, true, true, true, false] 1 ?st224 ?nx224
   case st224 =>
    rintro t w225 ⟨gmm99, v2m99, as100, cs100, los100, his100, as101, cs101, los101, his101, hxs100, hys100, hxs101, hys101, e3, e4, e5, e77, hsz224, F226⟩
    clear F91
    rw [rng_known_walk t, e3, e4, e5, e77]
    clear e3 e4 e5 e77
    have hws224 := F226.gb.size
    refine ru_o 10 fun K hK => ?_
    go_simp
    refine ru_back_late hK (by kernel_rfl) ?_
    exact hZ102.out _ _ _ (by kernel_rfl) (by kernel_rfl) rfl ⟨gmm99, v2m99, as100, cs100, los100, his100, as101, cs101, los101, his101, (by first | omega | (simp; omega)), (by first | omega | (simp; omega)), (by first | omega | (simp; omega)), (by first | omega | (simp; omega)), (by kernel_rfl), (by kernel_rfl), (by kernel_rfl), (by kernel_rfl), (by first | omega | (simp; done) | (simp; omega)), F226⟩
   intro hZ224
   refine ru_state 130 (fun t w_ => ∃ (gmm99 : Nat) (v2m99 : Value) (as100 : Option Addr) (cs100 : Nat) (los100 : Nat) (his100 : Nat), (w.heap.size <= los100) /\ (his100 <= w_.heap.size) /\ t 3 = .slice as83 4 cs83 /\ t 4 = .int .i64 0 /\ t 73 = .agg #[.int .i64 50, .int .i64 200, .int .i64 24] /\ t 74 = .slice as100 4 cs100 /\ w87.heap.size <= w_.heap.size /\ Bun w [rsl weaEnc 6 los100 his100 (.slice as100 4 cs100) weekD, rbox gmm99 30 #[.int .i64 0, .int .i64 300, .int .i64 10, .int .i64 50, .int .i64 200, .int .i64 24], rsl intEnc 1 los83 his83 (.slice as83 4 cs83) ([1, 1, 1, 1])] w_) #[true, true, true, true, true, false, false, false, false, false, false] 6 ?st227 ?nx227
   case st227 =>
    rintro t w228 ⟨gmm99, v2m99, as100, cs100, los100, his100, hxs100, hys100, e3, e4, e73, e74, hsz227, F229⟩
    clear F91
    rw [rng_known_walk t, e3, e4, e73, e74]
    clear e3 e4 e73 e74
    have hws227 := F229.gb.size
    refine ru_o 5 fun K hK => ?_
    go_simp
    refine (knWrk ⟨50, 200, 24⟩ [1, 1, 2, 3] 4 _ _ _ _ (F229.s 0 rfl) (by first | omega | (simp; omega)) kn_w1 rfl kn_e1).mono ?_
    rintro e w233 ⟨as230, cs230, los230, his230, rfl, ⟨hxs230, hys230⟩, hzs230, hg231⟩
    have hg231s := hg231.size
    (try simp at hg231s)
    replace F229 := F229.add (rsl intEnc 1 los230 his230 (.slice as230 4 cs230) ([1, 1, 2, 3])) hg231 (hzs230) (fun g e => ⟨Nat.le_trans hxs230 e.1, Nat.lt_of_lt_of_le e.2 hys230⟩)
    refine ru_back hK (by exact trivial) (fun _ => ?_)
    clear hK K
    (try simp only [lpX])
    refine ru_p 6 ?_
    (try simp only [lpX])
    refine ru_p 7 ?_
    (try simp only [lpX])
    refine ru_p 8 ?_
    (try simp only [lpX])
    refine ru_p 9 ?_
    (try simp only [lpX])
    exact hZ224.out _ _ _ (by kernel_rfl) (by kernel_rfl) rfl ⟨gmm99, v2m99, as100, cs100, los100, his100, as230, cs230, los230, his230, (by first | omega | (simp; omega)), (by first | omega | (simp; omega)), (by first | omega | (simp; omega)), (by first | omega | (simp; omega)), (by kernel_rfl), (by kernel_rfl), (by kernel_rfl), (by kernel_rfl), (by first | omega | (simp; done) | (simp; omega)), F229⟩
   intro hZ227
   refine ru_state 130 (fun t w_ => ∃ (gmm99 : Nat) (v2m99 : Value), t 3 = .slice as83 4 cs83 /\ t 4 = .int .i64 0 /\ t 73 = .agg #[.int .i64 50, .int .i64 200, .int .i64 24] /\ w87.heap.size <= w_.heap.size /\ Bun w [rbox gmm99 30 #[.int .i64 0, .int .i64 300, .int .i64 10, .int .i64 50, .int .i64 200, .int .i64 24], rsl intEnc 1 los83 his83 (.slice as83 4 cs83) ([1, 1, 1, 1])] w_) #[true, true, true, true, false, false, false, false, false, false, false] 7 ?st235 ?nx235
   case st235 =>
    rintro t w236 ⟨gmm99, v2m99, e3, e4, e73, hsz235, F237⟩
    clear F91
    rw [rng_known_walk t, e3, e4, e73]
    clear e3 e4 e73
    have hws235 := F237.gb.size
    refine ru_o 4 fun K hK => ?_
    go_simp
    refine (aweek_b _).mono ?_
    rintro e w241 ⟨as238, cs238, los238, his238, rfl, ⟨hxs238, hys238⟩, hzs238, hg239⟩
    have hg239s := hg239.size
    (try simp at hg239s)
    replace F237 := F237.add (rsl weaEnc 6 los238 his238 (.slice as238 4 cs238) weekD) hg239 (hzs238) (fun g e => ⟨Nat.le_trans hxs238 e.1, Nat.lt_of_lt_of_le e.2 hys238⟩)
    refine ru_back hK (by exact trivial) (fun _ => ?_)
    exact hZ227.out _ _ _ (by kernel_rfl) (by kernel_rfl) rfl ⟨gmm99, v2m99, as238, cs238, los238, his238, (by first | omega | (simp; omega)), (by first | omega | (simp; omega)), (by kernel_rfl), (by kernel_rfl), (by kernel_rfl), (by kernel_rfl), (by first | omega | (simp; done) | (simp; omega)), F237⟩
   intro hZ235
   refine ru_state 130 (fun t w_ => ∃ (gmm99 : Nat) (v2m99 : Value) (as100 : Option Addr) (cs100 : Nat) (los100 : Nat) (his100 : Nat), (w.heap.size <= los100) /\ (his100 <= w_.heap.size) /\ t 3 = .slice as83 4 cs83 /\ t 4 = .int .i64 0 /\ t 72 = .pointer (some ⟨gmm99, 3, none⟩) /\ t 74 = .slice as100 4 cs100 /\ w87.heap.size <= w_.heap.size /\ Bun w [rsl weaEnc 6 los100 his100 (.slice as100 4 cs100) weekD, rbox gmm99 30 #[.int .i64 0, .int .i64 300, .int .i64 10, .int .i64 50, .int .i64 200, .int .i64 24], rsl intEnc 1 los83 his83 (.slice as83 4 cs83) ([1, 1, 1, 1])] w_) #[true, true, true, false, true, false, false, false, false, false, false] 7 ?st243 ?nx243
   case st243 =>
    rintro t w244 ⟨gmm99, v2m99, as100, cs100, los100, his100, hxs100, hys100, e3, e4, e72, e74, hsz243, F245⟩
    clear F91
    rw [rng_known_walk t, e3, e4, e72, e74]
    clear e3 e4 e72 e74
    have hws243 := F245.gb.size
    refine ru_o 3 fun K hK => ?_
    have kq0_ : World.cell? _ ⟨gmm99, 3, none⟩ = some (.int .i64 50) := F245.q 1 3
    have kq1_ : World.cell? _ ⟨gmm99, 4, none⟩ = some (.int .i64 200) := F245.q 1 4
    have kq2_ : World.cell? _ ⟨gmm99, 5, none⟩ = some (.int .i64 24) := F245.q 1 5
    go_simp
    clear kq0_ kq1_ kq2_
    refine ru_back hK (by exact trivial) (fun _ => ?_)
    exact hZ227.out _ _ _ (by kernel_rfl) (by kernel_rfl) rfl ⟨gmm99, v2m99, as100, cs100, los100, his100, (by first | omega | (simp; omega)), (by first | omega | (simp; omega)), (by kernel_rfl), (by kernel_rfl), (by kernel_rfl), (by kernel_rfl), (by first | omega | (simp; done) | (simp; omega)), F245⟩
   intro hZ243
   refine ru_state 130 (fun t w_ => ∃ (gmm99 : Nat) (v2m99 : Value), t 3 = .slice as83 4 cs83 /\ t 4 = .int .i64 0 /\ t 72 = .pointer (some ⟨gmm99, 3, none⟩) /\ w87.heap.size <= w_.heap.size /\ Bun w [rbox gmm99 30 #[.int .i64 0, .int .i64 300, .int .i64 10, .int .i64 50, .int .i64 200, .int .i64 24], rsl intEnc 1 los83 his83 (.slice as83 4 cs83) ([1, 1, 1, 1])] w_) #[true, true, true, false, false, false, false, false, false, false, false] 8 ?st246 ?nx246
   case st246 =>
    rintro t w247 ⟨gmm99, v2m99, e3, e4, e72, hsz246, F248⟩
    clear F91
    rw [rng_known_walk t, e3, e4, e72]
    clear e3 e4 e72
    have hws246 := F248.gb.size
    refine ru_two 3 4 rfl rfl (by kernel_rfl) ?_ ?_
    ·
     intro K hK
     have kq0_ : World.cell? _ ⟨gmm99, 3, none⟩ = some (.int .i64 50) := F248.q 0 3
     have kq1_ : World.cell? _ ⟨gmm99, 4, none⟩ = some (.int .i64 200) := F248.q 0 4
     have kq2_ : World.cell? _ ⟨gmm99, 5, none⟩ = some (.int .i64 24) := F248.q 0 5
     go_simp
     clear kq0_ kq1_ kq2_
     refine ru_back hK (by exact trivial) (fun _ => ?_)
     exact hZ235.out _ _ _ (by kernel_rfl) (by kernel_rfl) rfl ⟨gmm99, v2m99, (by kernel_rfl), (by kernel_rfl), (by kernel_rfl), (by first | omega | (simp; done) | (simp; omega)), F248⟩
    intro K hK
    go_simp
    refine (aweek_b _).mono ?_
    rintro e w252 ⟨as249, cs249, los249, his249, rfl, ⟨hxs249, hys249⟩, hzs249, hg250⟩
    have hg250s := hg250.size
    (try simp at hg250s)
    replace F248 := F248.add (rsl weaEnc 6 los249 his249 (.slice as249 4 cs249) weekD) hg250 (hzs249) (fun g e => ⟨Nat.le_trans hxs249 e.1, Nat.lt_of_lt_of_le e.2 hys249⟩)
    refine ru_back hK (by exact trivial) (fun _ => ?_)
    exact hZ243.out _ _ _ (by kernel_rfl) (by kernel_rfl) rfl ⟨gmm99, v2m99, as249, cs249, los249, his249, (by first | omega | (simp; omega)), (by first | omega | (simp; omega)), (by kernel_rfl), (by kernel_rfl), (by kernel_rfl), (by kernel_rfl), (by first | omega | (simp; done) | (simp; omega)), F248⟩
   intro hZ246
   refine ru_o 0 fun K hK => ?_
   go_simp
   refine (ajob_m _).mono ?_
   rintro e w257 ⟨gmm254, v2m254, rfl, hxm254, hzm254, hg255⟩
   have hg255s := hg255.size
   (try simp at hg255s)
   replace F91 := F91.add (rbox gmm254 30 #[.int .i64 0, .int .i64 300, .int .i64 10, .int .i64 50, .int .i64 200, .int .i64 24]) hg255 (hzm254) (fun g e => by cases e; exact ⟨hxm254, hzm254.lt⟩)
   refine ru_back hK (by exact trivial) (fun _ => ?_)
   clear hK K
   (try simp only [lpX])
   have hi259 : ∀ w, (Instr.field 25 (.agg #[.slice (some ⟨gmm254, 0, none⟩) 2 2, v2m254]) 0).run Tryz.prog w = .ok (.slice (some ⟨gmm254, 0, none⟩) 2 2) w := fun _ => by kernel_rfl
   refine ru_p 1 ?_
   (try simp only [lpX])
   refine ru_p 2 ?_
   (try simp only [lpX])
   exact hZ246.out _ _ _ (by kernel_rfl) (by kernel_rfl) rfl ⟨gmm254, v2m254, (by kernel_rfl), (by kernel_rfl), (by kernel_rfl), (by first | omega | (simp; done) | (simp; omega)), F91⟩
  intro hZ84
  refine ru_state 130 (fun t w_ => ∃ (gmm81 : Nat) (v2m81 : Value) (as82 : Option Addr) (cs82 : Nat) (los82 : Nat) (his82 : Nat) (as83 : Option Addr) (cs83 : Nat) (los83 : Nat) (his83 : Nat), (w.heap.size <= los82) /\ (his82 <= w_.heap.size) /\ (w.heap.size <= los83) /\ (his83 <= w_.heap.size) /\ t 3 = .slice as83 4 cs83 /\ t 68 = .int .i64 0 /\ w71.heap.size <= w_.heap.size /\ Bun w [rsl intEnc 1 los83 his83 (.slice as83 4 cs83) ([1, 1, 1, 1]), rsl weaEnc 6 los82 his82 (.slice as82 4 cs82) weekD, rbox gmm81 30 #[.int .i64 0, .int .i64 300, .int .i64 10, .int .i64 50, .int .i64 200, .int .i64 24]] w_) #[true, true, true, true, true, true, true, true, true, true, false] 1 ?st260 ?nx260
  case st260 =>
   rintro t w261 ⟨gmm81, v2m81, as82, cs82, los82, his82, as83, cs83, los83, his83, hxs82, hys82, hxs83, hys83, e3, e68, hsz260, F262⟩
   clear F73
   rw [rng_known_walk t, e3, e68]
   clear e3 e68
   have hws260 := F262.gb.size
   refine ru_o 10 fun K hK => ?_
   go_simp
   refine ru_back_late hK (by kernel_rfl) ?_
   exact hZ84.out _ _ _ (by kernel_rfl) (by kernel_rfl) rfl ⟨gmm81, v2m81, as82, cs82, los82, his82, as83, cs83, los83, his83, (by first | omega | (simp; omega)), (by first | omega | (simp; omega)), (by first | omega | (simp; omega)), (by first | omega | (simp; omega)), (by kernel_rfl), (by kernel_rfl), (by first | omega | (simp; done) | (simp; omega)), F262⟩
  intro hZ260
  refine ru_state 130 (fun t w_ => ∃ (gmm81 : Nat) (v2m81 : Value) (as82 : Option Addr) (cs82 : Nat) (los82 : Nat) (his82 : Nat), (w.heap.size <= los82) /\ (his82 <= w_.heap.size) /\ t 64 = .agg #[.int .i64 0, .int .i64 300, .int .i64 10] /\ t 65 = .slice as82 4 cs82 /\ w71.heap.size <= w_.heap.size /\ Bun w [rsl weaEnc 6 los82 his82 (.slice as82 4 cs82) weekD, rbox gmm81 30 #[.int .i64 0, .int .i64 300, .int .i64 10, .int .i64 50, .int .i64 200, .int .i64 24]] w_) #[true, true, true, true, true, false, false, false, false, false, false] 6 ?st263 ?nx263
  case st263 =>
   rintro t w264 ⟨gmm81, v2m81, as82, cs82, los82, his82, hxs82, hys82, e64, e65, hsz263, F265⟩
   clear F73
   rw [rng_known_walk t, e64, e65]
   clear e64 e65
   have hws263 := F265.gb.size
   refine ru_o 5 fun K hK => ?_
   go_simp
   refine (knWrk ⟨0, 300, 10⟩ [1, 1, 1, 1] 4 _ _ _ _ (F265.s 0 rfl) (by first | omega | (simp; omega)) kn_w0 rfl kn_e0).mono ?_
   rintro e w269 ⟨as266, cs266, los266, his266, rfl, ⟨hxs266, hys266⟩, hzs266, hg267⟩
   have hg267s := hg267.size
   (try simp at hg267s)
   replace F265 := F265.add (rsl intEnc 1 los266 his266 (.slice as266 4 cs266) ([1, 1, 1, 1])) hg267 (hzs266) (fun g e => ⟨Nat.le_trans hxs266 e.1, Nat.lt_of_lt_of_le e.2 hys266⟩)
   refine ru_back hK (by exact trivial) (fun _ => ?_)
   clear hK K
   (try simp only [lpX])
   refine ru_p 6 ?_
   (try simp only [lpX])
   refine ru_p 7 ?_
   (try simp only [lpX])
   refine ru_p 8 ?_
   (try simp only [lpX])
   refine ru_p 9 ?_
   (try simp only [lpX])
   exact hZ260.out _ _ _ (by kernel_rfl) (by kernel_rfl) rfl ⟨gmm81, v2m81, as82, cs82, los82, his82, as266, cs266, los266, his266, (by first | omega | (simp; omega)), (by first | omega | (simp; omega)), (by first | omega | (simp; omega)), (by first | omega | (simp; omega)), (by kernel_rfl), (by kernel_rfl), (by first | omega | (simp; done) | (simp; omega)), F265⟩
  intro hZ263
  refine ru_state 130 (fun t w_ => ∃ (gmm81 : Nat) (v2m81 : Value), t 64 = .agg #[.int .i64 0, .int .i64 300, .int .i64 10] /\ w71.heap.size <= w_.heap.size /\ Bun w [rbox gmm81 30 #[.int .i64 0, .int .i64 300, .int .i64 10, .int .i64 50, .int .i64 200, .int .i64 24]] w_) #[true, true, true, true, false, false, false, false, false, false, false] 7 ?st271 ?nx271
  case st271 =>
   rintro t w272 ⟨gmm81, v2m81, e64, hsz271, F273⟩
   clear F73
   rw [rng_known_walk t, e64]
   clear e64
   have hws271 := F273.gb.size
   refine ru_o 4 fun K hK => ?_
   go_simp
   refine (aweek_b _).mono ?_
   rintro e w277 ⟨as274, cs274, los274, his274, rfl, ⟨hxs274, hys274⟩, hzs274, hg275⟩
   have hg275s := hg275.size
   (try simp at hg275s)
   replace F273 := F273.add (rsl weaEnc 6 los274 his274 (.slice as274 4 cs274) weekD) hg275 (hzs274) (fun g e => ⟨Nat.le_trans hxs274 e.1, Nat.lt_of_lt_of_le e.2 hys274⟩)
   refine ru_back hK (by exact trivial) (fun _ => ?_)
   exact hZ263.out _ _ _ (by kernel_rfl) (by kernel_rfl) rfl ⟨gmm81, v2m81, as274, cs274, los274, his274, (by first | omega | (simp; omega)), (by first | omega | (simp; omega)), (by kernel_rfl), (by kernel_rfl), (by first | omega | (simp; done) | (simp; omega)), F273⟩
  intro hZ271
  refine ru_state 130 (fun t w_ => ∃ (gmm81 : Nat) (v2m81 : Value) (as82 : Option Addr) (cs82 : Nat) (los82 : Nat) (his82 : Nat), (w.heap.size <= los82) /\ (his82 <= w_.heap.size) /\ t 63 = .pointer (some ⟨gmm81, 0, none⟩) /\ t 65 = .slice as82 4 cs82 /\ w71.heap.size <= w_.heap.size /\ Bun w [rsl weaEnc 6 los82 his82 (.slice as82 4 cs82) weekD, rbox gmm81 30 #[.int .i64 0, .int .i64 300, .int .i64 10, .int .i64 50, .int .i64 200, .int .i64 24]] w_) #[true, true, true, false, true, false, false, false, false, false, false] 7 ?st279 ?nx279
  case st279 =>
   rintro t w280 ⟨gmm81, v2m81, as82, cs82, los82, his82, hxs82, hys82, e63, e65, hsz279, F281⟩
   clear F73
   rw [rng_known_walk t, e63, e65]
   clear e63 e65
   have hws279 := F281.gb.size
   refine ru_o 3 fun K hK => ?_
   have kq0_ : World.cell? _ ⟨gmm81, 0, none⟩ = some (.int .i64 0) := F281.q 1 0
   have kq1_ : World.cell? _ ⟨gmm81, 1, none⟩ = some (.int .i64 300) := F281.q 1 1
   have kq2_ : World.cell? _ ⟨gmm81, 2, none⟩ = some (.int .i64 10) := F281.q 1 2
   go_simp
   clear kq0_ kq1_ kq2_
   refine ru_back hK (by exact trivial) (fun _ => ?_)
   exact hZ263.out _ _ _ (by kernel_rfl) (by kernel_rfl) rfl ⟨gmm81, v2m81, as82, cs82, los82, his82, (by first | omega | (simp; omega)), (by first | omega | (simp; omega)), (by kernel_rfl), (by kernel_rfl), (by first | omega | (simp; done) | (simp; omega)), F281⟩
  intro hZ279
  refine ru_state 130 (fun t w_ => ∃ (gmm81 : Nat) (v2m81 : Value), t 63 = .pointer (some ⟨gmm81, 0, none⟩) /\ w71.heap.size <= w_.heap.size /\ Bun w [rbox gmm81 30 #[.int .i64 0, .int .i64 300, .int .i64 10, .int .i64 50, .int .i64 200, .int .i64 24]] w_) #[true, true, true, false, false, false, false, false, false, false, false] 8 ?st282 ?nx282
  case st282 =>
   rintro t w283 ⟨gmm81, v2m81, e63, hsz282, F284⟩
   clear F73
   rw [rng_known_walk t, e63]
   clear e63
   have hws282 := F284.gb.size
   refine ru_two 3 4 rfl rfl (by kernel_rfl) ?_ ?_
   ·
    intro K hK
    have kq0_ : World.cell? _ ⟨gmm81, 0, none⟩ = some (.int .i64 0) := F284.q 0 0
    have kq1_ : World.cell? _ ⟨gmm81, 1, none⟩ = some (.int .i64 300) := F284.q 0 1
    have kq2_ : World.cell? _ ⟨gmm81, 2, none⟩ = some (.int .i64 10) := F284.q 0 2
    go_simp
    clear kq0_ kq1_ kq2_
    refine ru_back hK (by exact trivial) (fun _ => ?_)
    exact hZ271.out _ _ _ (by kernel_rfl) (by kernel_rfl) rfl ⟨gmm81, v2m81, (by kernel_rfl), (by first | omega | (simp; done) | (simp; omega)), F284⟩
   intro K hK
   go_simp
   refine (aweek_b _).mono ?_
   rintro e w288 ⟨as285, cs285, los285, his285, rfl, ⟨hxs285, hys285⟩, hzs285, hg286⟩
   have hg286s := hg286.size
   (try simp at hg286s)
   replace F284 := F284.add (rsl weaEnc 6 los285 his285 (.slice as285 4 cs285) weekD) hg286 (hzs285) (fun g e => ⟨Nat.le_trans hxs285 e.1, Nat.lt_of_lt_of_le e.2 hys285⟩)
   refine ru_back hK (by exact trivial) (fun _ => ?_)
   exact hZ279.out _ _ _ (by kernel_rfl) (by kernel_rfl) rfl ⟨gmm81, v2m81, as285, cs285, los285, his285, (by first | omega | (simp; omega)), (by first | omega | (simp; omega)), (by kernel_rfl), (by kernel_rfl), (by first | omega | (simp; done) | (simp; omega)), F284⟩
  intro hZ282
  refine ru_o 0 fun K hK => ?_
  go_simp
  refine (ajob_m _).mono ?_
  rintro e w293 ⟨gmm290, v2m290, rfl, hxm290, hzm290, hg291⟩
  have hg291s := hg291.size
  (try simp at hg291s)
  replace F73 := F73.add (rbox gmm290 30 #[.int .i64 0, .int .i64 300, .int .i64 10, .int .i64 50, .int .i64 200, .int .i64 24]) hg291 (hzm290) (fun g e => by cases e; exact ⟨hxm290, hzm290.lt⟩)
  refine ru_back hK (by exact trivial) (fun _ => ?_)
  clear hK K
  (try simp only [lpX])
  have hi295 : ∀ w, (Instr.field 25 (.agg #[.slice (some ⟨gmm290, 0, none⟩) 2 2, v2m290]) 0).run Tryz.prog w = .ok (.slice (some ⟨gmm290, 0, none⟩) 2 2) w := fun _ => by kernel_rfl
  refine ru_p 1 ?_
  (try simp only [lpX])
  refine ru_p 2 ?_
  (try simp only [lpX])
  exact hZ282.out _ _ _ (by kernel_rfl) (by kernel_rfl) rfl ⟨gmm290, v2m290, (by kernel_rfl), (by first | omega | (simp; done) | (simp; omega)), F73⟩
 intro hZ39
 refine ru_state 130 (fun t w_ => ∃ (yg9 : Nat) (yg10 : Nat), t 1 = .pointer (some ⟨w.heap.size, 0, none⟩) /\ t 28 = .slice (some ⟨yg10, 0, none⟩) 2 2 /\ t 34 = .pointer (some ⟨gtb25, 15, none⟩) /\ w32.heap.size <= w_.heap.size /\ Bun w [rbox gtb14 34 #[.int .i64 0, .int .i64 5, .int .i64 12, .int .i64 0, .int .i64 0, .int .i64 0, .int .i64 0, .slice none 0 0, .int .i64 1, .int .i64 10, .int .i64 10, .int .i64 24, .int .i64 24, .int .i64 0, .int .i64 6, .slice (some ⟨yg9, 0, none⟩) 1 1, .int .i64 0, .int .i64 4, .int .i64 4, .int .i64 0, .int .i64 0, .int .i64 30, .int .i64 30, .slice none 0 0], rbox gmb3 30 #[.int .i64 0, .int .i64 300, .int .i64 0, .int .i64 50, .int .i64 200, .int .i64 24], rbox yg10 3 #[.int .i64 0, .int .i64 0], rbox yg9 3 #[.int .i64 1], rbox w.heap.size 26 #[.slice (some ⟨gmb3, 0, none⟩) 2 2, .slice (some ⟨gtb3, 0, none⟩) 3 3, .slice (some ⟨gmb14, 0, none⟩) 2 2, .slice (some ⟨gtb14, 0, none⟩) 3 3, .slice (some ⟨gmb25, 0, none⟩) 2 2, .slice (some ⟨gtb25, 0, none⟩) 3 3], rbox gmb25 30 #[.int .i64 0, .int .i64 300, .int .i64 10, .int .i64 50, .int .i64 200, .int .i64 24], rbox gtb25 34 #[.int .i64 0, .int .i64 5, .int .i64 12, .int .i64 0, .int .i64 0, .int .i64 0, .int .i64 0, .slice none 0 0, .int .i64 1, .int .i64 10, .int .i64 10, .int .i64 24, .int .i64 24, .int .i64 0, .int .i64 6, .slice (some ⟨gib25, 0, none⟩) 1 1, .int .i64 0, .int .i64 4, .int .i64 4, .int .i64 0, .int .i64 0, .int .i64 30, .int .i64 30, .slice none 0 0], rbox gib25 3 #[.int .i64 0], rbox gmb14 30 #[.int .i64 0, .int .i64 300, .int .i64 10, .int .i64 50, .int .i64 200, .int .i64 24], rbox gib14 3 #[.int .i64 0], rbox gtb3 34 #[.int .i64 0, .int .i64 5, .int .i64 12, .int .i64 0, .int .i64 0, .int .i64 0, .int .i64 0, .slice none 0 0, .int .i64 1, .int .i64 10, .int .i64 10, .int .i64 24, .int .i64 24, .int .i64 0, .int .i64 6, .slice (some ⟨gib3, 0, none⟩) 1 1, .int .i64 0, .int .i64 4, .int .i64 4, .int .i64 0, .int .i64 0, .int .i64 30, .int .i64 30, .slice none 0 0], rbox gib3 3 #[.int .i64 0]] w_) #[true, true, true, true, true, true, true, true, true, true, true, true, true, true, true, true, true, true, true, false] 1 ?st296 ?nx296
 case st296 =>
  rintro t w297 ⟨yg9, yg10, e1, e28, e34, hsz296, F298⟩
  clear F35
  rw [rng_known_walk t, e1, e28, e34]
  clear e1 e28 e34
  have hws296 := F298.gb.size
  have yg10l := F298.ltAt 2 rfl yg10 rfl
  have yg10b := yg10l.2 rfl
  have yg9l := F298.ltAt 3 rfl yg9 rfl
  have yg9b := yg9l.2 rfl
  refine ru_o 19 fun K hK => ?_
  have kb_ := F298.bx24 6 rfl
  go_simp
  clear kb_
  have F299 := ((F298.front 6 rfl rfl).set 15 (.slice (some ⟨yg10, 0, none⟩) 2 2)).nf #[.int .i64 0, .int .i64 5, .int .i64 12, .int .i64 0, .int .i64 0, .int .i64 0, .int .i64 0, .slice none 0 0, .int .i64 1, .int .i64 10, .int .i64 10, .int .i64 24, .int .i64 24, .int .i64 0, .int .i64 6, .slice (some ⟨yg10, 0, none⟩) 2 2, .int .i64 0, .int .i64 4, .int .i64 4, .int .i64 0, .int .i64 0, .int .i64 30, .int .i64 30, .slice none 0 0] rfl
  clear F298
  refine ru_back_late hK (by kernel_rfl) ?_
  exact hZ39.out _ _ _ (by kernel_rfl) (by kernel_rfl) rfl ⟨yg9, yg10, (by kernel_rfl), (by first | omega | (simp; done) | (simp; omega)), F299⟩
 intro hZ296
 refine ru_state 130 (fun t w_ => ∃ (yg9 : Nat) (yg10 : Nat), t 1 = .pointer (some ⟨w.heap.size, 0, none⟩) /\ t 26 = .slice (some ⟨gtb25, 0, none⟩) 3 3 /\ t 27 = .slice (some ⟨yg9, 0, none⟩) 1 1 /\ t 28 = .slice (some ⟨yg10, 0, none⟩) 2 2 /\ t 32 = .pointer (some ⟨gtb14, 15, none⟩) /\ w32.heap.size <= w_.heap.size /\ Bun w [rbox gmb3 30 #[.int .i64 0, .int .i64 300, .int .i64 0, .int .i64 50, .int .i64 200, .int .i64 24], rbox yg10 3 #[.int .i64 0, .int .i64 0], rbox yg9 3 #[.int .i64 1], rbox w.heap.size 26 #[.slice (some ⟨gmb3, 0, none⟩) 2 2, .slice (some ⟨gtb3, 0, none⟩) 3 3, .slice (some ⟨gmb14, 0, none⟩) 2 2, .slice (some ⟨gtb14, 0, none⟩) 3 3, .slice (some ⟨gmb25, 0, none⟩) 2 2, .slice (some ⟨gtb25, 0, none⟩) 3 3], rbox gmb25 30 #[.int .i64 0, .int .i64 300, .int .i64 10, .int .i64 50, .int .i64 200, .int .i64 24], rbox gtb25 34 #[.int .i64 0, .int .i64 5, .int .i64 12, .int .i64 0, .int .i64 0, .int .i64 0, .int .i64 0, .slice none 0 0, .int .i64 1, .int .i64 10, .int .i64 10, .int .i64 24, .int .i64 24, .int .i64 0, .int .i64 6, .slice (some ⟨gib25, 0, none⟩) 1 1, .int .i64 0, .int .i64 4, .int .i64 4, .int .i64 0, .int .i64 0, .int .i64 30, .int .i64 30, .slice none 0 0], rbox gib25 3 #[.int .i64 0], rbox gmb14 30 #[.int .i64 0, .int .i64 300, .int .i64 10, .int .i64 50, .int .i64 200, .int .i64 24], rbox gtb14 34 #[.int .i64 0, .int .i64 5, .int .i64 12, .int .i64 0, .int .i64 0, .int .i64 0, .int .i64 0, .slice none 0 0, .int .i64 1, .int .i64 10, .int .i64 10, .int .i64 24, .int .i64 24, .int .i64 0, .int .i64 6, .slice (some ⟨gib14, 0, none⟩) 1 1, .int .i64 0, .int .i64 4, .int .i64 4, .int .i64 0, .int .i64 0, .int .i64 30, .int .i64 30, .slice none 0 0], rbox gib14 3 #[.int .i64 0], rbox gtb3 34 #[.int .i64 0, .int .i64 5, .int .i64 12, .int .i64 0, .int .i64 0, .int .i64 0, .int .i64 0, .slice none 0 0, .int .i64 1, .int .i64 10, .int .i64 10, .int .i64 24, .int .i64 24, .int .i64 0, .int .i64 6, .slice (some ⟨gib3, 0, none⟩) 1 1, .int .i64 0, .int .i64 4, .int .i64 4, .int .i64 0, .int .i64 0, .int .i64 30, .int .i64 30, .slice none 0 0], rbox gib3 3 #[.int .i64 0]] w_) #[true, true, true, true, true, true, true, true, true, true, true, true, true, true, true, true, false, false, false, false] 4 ?st300 ?nx300
 case st300 =>
  rintro t w301 ⟨yg9, yg10, e1, e26, e27, e28, e32, hsz300, F302⟩
  clear F35
  rw [rng_known_walk t, e1, e26, e27, e28, e32]
  clear e1 e26 e27 e28 e32
  have hws300 := F302.gb.size
  have yg10l := F302.ltAt 1 rfl yg10 rfl
  have yg10b := yg10l.2 rfl
  have yg9l := F302.ltAt 2 rfl yg9 rfl
  have yg9b := yg9l.2 rfl
  refine ru_o 16 fun K hK => ?_
  have kb_ := F302.bx24 8 rfl
  go_simp
  clear kb_
  have F303 := ((F302.front 8 rfl rfl).set 15 (.slice (some ⟨yg9, 0, none⟩) 1 1)).nf #[.int .i64 0, .int .i64 5, .int .i64 12, .int .i64 0, .int .i64 0, .int .i64 0, .int .i64 0, .slice none 0 0, .int .i64 1, .int .i64 10, .int .i64 10, .int .i64 24, .int .i64 24, .int .i64 0, .int .i64 6, .slice (some ⟨yg9, 0, none⟩) 1 1, .int .i64 0, .int .i64 4, .int .i64 4, .int .i64 0, .int .i64 0, .int .i64 30, .int .i64 30, .slice none 0 0] rfl
  clear F302
  refine ru_back hK (by exact ⟨F303.q 4 0, F303.q 4 3, F303.q 4 5⟩) (fun _ => ?_)
  clear hK K
  (try simp only [lpX])
  refine ru_p 17 ?_
  (try simp only [lpX])
  refine ru_p 18 ?_
  (try simp only [lpX])
  exact hZ296.out _ _ _ (by kernel_rfl) (by kernel_rfl) rfl ⟨yg9, yg10, (by kernel_rfl), (by kernel_rfl), (by kernel_rfl), (by first | omega | (simp; done) | (simp; omega)), F303⟩
 intro hZ300
 refine ru_state 130 (fun t w_ => ∃ (yg9 : Nat), t 1 = .pointer (some ⟨w.heap.size, 0, none⟩) /\ t 26 = .slice (some ⟨gtb25, 0, none⟩) 3 3 /\ w32.heap.size <= w_.heap.size /\ Bun w [rbox gtb14 34 #[.int .i64 0, .int .i64 5, .int .i64 12, .int .i64 0, .int .i64 0, .int .i64 0, .int .i64 0, .slice none 0 0, .int .i64 1, .int .i64 10, .int .i64 10, .int .i64 24, .int .i64 24, .int .i64 0, .int .i64 6, .slice (some ⟨yg9, 0, none⟩) 1 1, .int .i64 0, .int .i64 4, .int .i64 4, .int .i64 0, .int .i64 0, .int .i64 30, .int .i64 30, .slice none 0 0], rbox gmb3 30 #[.int .i64 0, .int .i64 300, .int .i64 0, .int .i64 50, .int .i64 200, .int .i64 24], rbox yg9 3 #[.int .i64 1], rbox w.heap.size 26 #[.slice (some ⟨gmb3, 0, none⟩) 2 2, .slice (some ⟨gtb3, 0, none⟩) 3 3, .slice (some ⟨gmb14, 0, none⟩) 2 2, .slice (some ⟨gtb14, 0, none⟩) 3 3, .slice (some ⟨gmb25, 0, none⟩) 2 2, .slice (some ⟨gtb25, 0, none⟩) 3 3], rbox gmb25 30 #[.int .i64 0, .int .i64 300, .int .i64 10, .int .i64 50, .int .i64 200, .int .i64 24], rbox gtb25 34 #[.int .i64 0, .int .i64 5, .int .i64 12, .int .i64 0, .int .i64 0, .int .i64 0, .int .i64 0, .slice none 0 0, .int .i64 1, .int .i64 10, .int .i64 10, .int .i64 24, .int .i64 24, .int .i64 0, .int .i64 6, .slice (some ⟨gib25, 0, none⟩) 1 1, .int .i64 0, .int .i64 4, .int .i64 4, .int .i64 0, .int .i64 0, .int .i64 30, .int .i64 30, .slice none 0 0], rbox gib25 3 #[.int .i64 0], rbox gmb14 30 #[.int .i64 0, .int .i64 300, .int .i64 10, .int .i64 50, .int .i64 200, .int .i64 24], rbox gib14 3 #[.int .i64 0], rbox gtb3 34 #[.int .i64 0, .int .i64 5, .int .i64 12, .int .i64 0, .int .i64 0, .int .i64 0, .int .i64 0, .slice none 0 0, .int .i64 1, .int .i64 10, .int .i64 10, .int .i64 24, .int .i64 24, .int .i64 0, .int .i64 6, .slice (some ⟨gib3, 0, none⟩) 1 1, .int .i64 0, .int .i64 4, .int .i64 4, .int .i64 0, .int .i64 0, .int .i64 30, .int .i64 30, .slice none 0 0], rbox gib3 3 #[.int .i64 0]] w_) #[true, true, true, true, true, true, true, true, true, true, false, true, true, true, true, true, true, false, false, false] 4 ?st304 ?nx304
 case st304 =>
  rintro t w305 ⟨yg9, e1, e26, hsz304, F306⟩
  clear F35
  rw [rng_known_walk t, e1, e26]
  clear e1 e26
  have hws304 := F306.gb.size
  have yg9l := F306.ltAt 2 rfl yg9 rfl
  have yg9b := yg9l.2 rfl
  refine ru_o 10 fun K hK => ?_
  go_simp
  replace F306 := F306.new 3 #[.int .i64 0, .int .i64 0] (n := w305.heap.size) (by simp)
  refine ru_back hK (by exact ⟨F306.q 4 0, F306.q 4 3, F306.q 4 5⟩) (fun _ => ?_)
  clear hK K
  (try simp only [lpX])
  refine ru_p 17 ?_
  (try simp only [lpX])
  refine ru_p 18 ?_
  (try simp only [lpX])
  exact hZ296.out _ _ _ (by kernel_rfl) (by kernel_rfl) rfl ⟨yg9, w305.heap.size, (by kernel_rfl), (by kernel_rfl), (by kernel_rfl), (by first | omega | (simp; done) | (simp; omega)), (F306.pick [1, 2, 0, 3, 4, 5, 6, 7, 8, 9, 10, 11] (by decide) rfl)⟩
 intro hZ304
 refine ru_state 130 (fun t w_ => ∃ (yg9 : Nat), t 1 = .pointer (some ⟨w.heap.size, 0, none⟩) /\ t 26 = .slice (some ⟨gtb25, 0, none⟩) 3 3 /\ t 27 = .slice (some ⟨yg9, 0, none⟩) 1 1 /\ t 32 = .pointer (some ⟨gtb14, 15, none⟩) /\ w32.heap.size <= w_.heap.size /\ Bun w [rbox gmb3 30 #[.int .i64 0, .int .i64 300, .int .i64 0, .int .i64 50, .int .i64 200, .int .i64 24], rbox yg9 3 #[.int .i64 1], rbox w.heap.size 26 #[.slice (some ⟨gmb3, 0, none⟩) 2 2, .slice (some ⟨gtb3, 0, none⟩) 3 3, .slice (some ⟨gmb14, 0, none⟩) 2 2, .slice (some ⟨gtb14, 0, none⟩) 3 3, .slice (some ⟨gmb25, 0, none⟩) 2 2, .slice (some ⟨gtb25, 0, none⟩) 3 3], rbox gmb25 30 #[.int .i64 0, .int .i64 300, .int .i64 10, .int .i64 50, .int .i64 200, .int .i64 24], rbox gtb25 34 #[.int .i64 0, .int .i64 5, .int .i64 12, .int .i64 0, .int .i64 0, .int .i64 0, .int .i64 0, .slice none 0 0, .int .i64 1, .int .i64 10, .int .i64 10, .int .i64 24, .int .i64 24, .int .i64 0, .int .i64 6, .slice (some ⟨gib25, 0, none⟩) 1 1, .int .i64 0, .int .i64 4, .int .i64 4, .int .i64 0, .int .i64 0, .int .i64 30, .int .i64 30, .slice none 0 0], rbox gib25 3 #[.int .i64 0], rbox gmb14 30 #[.int .i64 0, .int .i64 300, .int .i64 10, .int .i64 50, .int .i64 200, .int .i64 24], rbox gtb14 34 #[.int .i64 0, .int .i64 5, .int .i64 12, .int .i64 0, .int .i64 0, .int .i64 0, .int .i64 0, .slice none 0 0, .int .i64 1, .int .i64 10, .int .i64 10, .int .i64 24, .int .i64 24, .int .i64 0, .int .i64 6, .slice (some ⟨gib14, 0, none⟩) 1 1, .int .i64 0, .int .i64 4, .int .i64 4, .int .i64 0, .int .i64 0, .int .i64 30, .int .i64 30, .slice none 0 0], rbox gib14 3 #[.int .i64 0], rbox gtb3 34 #[.int .i64 0, .int .i64 5, .int .i64 12, .int .i64 0, .int .i64 0, .int .i64 0, .int .i64 0, .slice none 0 0, .int .i64 1, .int .i64 10, .int .i64 10, .int .i64 24, .int .i64 24, .int .i64 0, .int .i64 6, .slice (some ⟨gib3, 0, none⟩) 1 1, .int .i64 0, .int .i64 4, .int .i64 4, .int .i64 0, .int .i64 0, .int .i64 30, .int .i64 30, .slice none 0 0], rbox gib3 3 #[.int .i64 0]] w_) #[true, true, true, true, true, true, true, true, true, true, false, true, true, true, true, true, false, false, false, false] 5 ?st308 ?nx308
 case st308 =>
  rintro t w309 ⟨yg9, e1, e26, e27, e32, hsz308, F310⟩
  clear F35
  rw [rng_known_walk t, e1, e26, e27, e32]
  clear e1 e26 e27 e32
  have hws308 := F310.gb.size
  have yg9l := F310.ltAt 1 rfl yg9 rfl
  have yg9b := yg9l.2 rfl
  refine ru_two 10 16 rfl rfl (by kernel_rfl) ?_ ?_
  ·
   intro K hK
   go_simp
   replace F310 := F310.new 3 #[.int .i64 0, .int .i64 0] (n := w309.heap.size) (by simp)
   refine ru_back hK (by exact ⟨F310.q 3 0, F310.q 3 3, F310.q 3 5⟩) (fun _ => ?_)
   exact hZ300.out _ _ _ (by kernel_rfl) (by kernel_rfl) rfl ⟨yg9, w309.heap.size, by (iterate 5 refine ⟨by kernel_rfl, ?_⟩); exact ⟨(by first | omega | (simp; done) | (simp; omega)), (F310.pick [1, 0, 2, 3, 4, 5, 6, 7, 8, 9, 10, 11] (by decide) rfl)⟩⟩
  intro K hK
  have kb_ := F310.bx24 7 rfl
  go_simp
  clear kb_
  have F312 := ((F310.front 7 rfl rfl).set 15 (.slice (some ⟨yg9, 0, none⟩) 1 1)).nf #[.int .i64 0, .int .i64 5, .int .i64 12, .int .i64 0, .int .i64 0, .int .i64 0, .int .i64 0, .slice none 0 0, .int .i64 1, .int .i64 10, .int .i64 10, .int .i64 24, .int .i64 24, .int .i64 0, .int .i64 6, .slice (some ⟨yg9, 0, none⟩) 1 1, .int .i64 0, .int .i64 4, .int .i64 4, .int .i64 0, .int .i64 0, .int .i64 30, .int .i64 30, .slice none 0 0] rfl
  clear F310
  refine ru_back hK (by exact ⟨F312.q 3 0, F312.q 3 3, F312.q 3 5⟩) (fun _ => ?_)
  exact hZ304.out _ _ _ (by kernel_rfl) (by kernel_rfl) rfl ⟨yg9, (by kernel_rfl), (by kernel_rfl), (by first | omega | (simp; done) | (simp; omega)), F312⟩
 intro hZ308
 refine ru_state 130 (fun t w_ => ∃ (yg9 : Nat) (yg10 : Nat), t 1 = .pointer (some ⟨w.heap.size, 0, none⟩) /\ t 23 = .slice (some ⟨gtb14, 0, none⟩) 3 3 /\ t 26 = .slice (some ⟨gtb25, 0, none⟩) 3 3 /\ t 27 = .slice (some ⟨yg9, 0, none⟩) 1 1 /\ t 28 = .slice (some ⟨yg10, 0, none⟩) 2 2 /\ t 30 = .pointer (some ⟨gmb3, 2, none⟩) /\ w32.heap.size <= w_.heap.size /\ Bun w [rbox yg10 3 #[.int .i64 0, .int .i64 0], rbox yg9 3 #[.int .i64 1], rbox w.heap.size 26 #[.slice (some ⟨gmb3, 0, none⟩) 2 2, .slice (some ⟨gtb3, 0, none⟩) 3 3, .slice (some ⟨gmb14, 0, none⟩) 2 2, .slice (some ⟨gtb14, 0, none⟩) 3 3, .slice (some ⟨gmb25, 0, none⟩) 2 2, .slice (some ⟨gtb25, 0, none⟩) 3 3], rbox gmb25 30 #[.int .i64 0, .int .i64 300, .int .i64 10, .int .i64 50, .int .i64 200, .int .i64 24], rbox gtb25 34 #[.int .i64 0, .int .i64 5, .int .i64 12, .int .i64 0, .int .i64 0, .int .i64 0, .int .i64 0, .slice none 0 0, .int .i64 1, .int .i64 10, .int .i64 10, .int .i64 24, .int .i64 24, .int .i64 0, .int .i64 6, .slice (some ⟨gib25, 0, none⟩) 1 1, .int .i64 0, .int .i64 4, .int .i64 4, .int .i64 0, .int .i64 0, .int .i64 30, .int .i64 30, .slice none 0 0], rbox gib25 3 #[.int .i64 0], rbox gmb14 30 #[.int .i64 0, .int .i64 300, .int .i64 10, .int .i64 50, .int .i64 200, .int .i64 24], rbox gtb14 34 #[.int .i64 0, .int .i64 5, .int .i64 12, .int .i64 0, .int .i64 0, .int .i64 0, .int .i64 0, .slice none 0 0, .int .i64 1, .int .i64 10, .int .i64 10, .int .i64 24, .int .i64 24, .int .i64 0, .int .i64 6, .slice (some ⟨gib14, 0, none⟩) 1 1, .int .i64 0, .int .i64 4, .int .i64 4, .int .i64 0, .int .i64 0, .int .i64 30, .int .i64 30, .slice none 0 0], rbox gib14 3 #[.int .i64 0], rbox gmb3 30 #[.int .i64 0, .int .i64 300, .int .i64 10, .int .i64 50, .int .i64 200, .int .i64 24], rbox gtb3 34 #[.int .i64 0, .int .i64 5, .int .i64 12, .int .i64 0, .int .i64 0, .int .i64 0, .int .i64 0, .slice none 0 0, .int .i64 1, .int .i64 10, .int .i64 10, .int .i64 24, .int .i64 24, .int .i64 0, .int .i64 6, .slice (some ⟨gib3, 0, none⟩) 1 1, .int .i64 0, .int .i64 4, .int .i64 4, .int .i64 0, .int .i64 0, .int .i64 30, .int .i64 30, .slice none 0 0], rbox gib3 3 #[.int .i64 0]] w_) #[true, true, true, true, true, true, true, true, true, true, true, true, true, false, false, false, false, false, false, false] 7 ?st313 ?nx313
 case st313 =>
  rintro t w314 ⟨yg9, yg10, e1, e23, e26, e27, e28, e30, hsz313, F315⟩
  clear F35
  rw [rng_known_walk t, e1, e23, e26, e27, e28, e30]
  clear e1 e23 e26 e27 e28 e30
  have hws313 := F315.gb.size
  have yg10l := F315.ltAt 0 rfl yg10 rfl
  have yg10b := yg10l.2 rfl
  have yg9l := F315.ltAt 1 rfl yg9 rfl
  have yg9b := yg9l.2 rfl
  refine ru_o 13 fun K hK => ?_
  have kb_ := F315.bx6 9 rfl
  go_simp
  clear kb_
  have F316 := ((F315.front 9 rfl rfl).set 2 (.int .i64 0)).nf #[.int .i64 0, .int .i64 300, .int .i64 0, .int .i64 50, .int .i64 200, .int .i64 24] rfl
  clear F315
  refine ru_back hK (by exact ⟨F316.q 3 0, F316.q 3 3, F316.q 3 5⟩) (fun _ => ?_)
  clear hK K
  (try simp only [lpX])
  refine ru_p 14 ?_
  (try simp only [lpX])
  refine ru_p 15 ?_
  (try simp only [lpX])
  exact hZ300.out _ _ _ (by kernel_rfl) (by kernel_rfl) rfl ⟨yg9, yg10, by (iterate 5 refine ⟨by kernel_rfl, ?_⟩); exact ⟨(by first | omega | (simp; done) | (simp; omega)), F316⟩⟩
 intro hZ313
 refine ru_state 130 (fun t w_ => ∃ (yg10 : Nat), t 1 = .pointer (some ⟨w.heap.size, 0, none⟩) /\ t 23 = .slice (some ⟨gtb14, 0, none⟩) 3 3 /\ t 26 = .slice (some ⟨gtb25, 0, none⟩) 3 3 /\ t 28 = .slice (some ⟨yg10, 0, none⟩) 2 2 /\ w32.heap.size <= w_.heap.size /\ Bun w [rbox gmb3 30 #[.int .i64 0, .int .i64 300, .int .i64 0, .int .i64 50, .int .i64 200, .int .i64 24], rbox yg10 3 #[.int .i64 0, .int .i64 0], rbox w.heap.size 26 #[.slice (some ⟨gmb3, 0, none⟩) 2 2, .slice (some ⟨gtb3, 0, none⟩) 3 3, .slice (some ⟨gmb14, 0, none⟩) 2 2, .slice (some ⟨gtb14, 0, none⟩) 3 3, .slice (some ⟨gmb25, 0, none⟩) 2 2, .slice (some ⟨gtb25, 0, none⟩) 3 3], rbox gmb25 30 #[.int .i64 0, .int .i64 300, .int .i64 10, .int .i64 50, .int .i64 200, .int .i64 24], rbox gtb25 34 #[.int .i64 0, .int .i64 5, .int .i64 12, .int .i64 0, .int .i64 0, .int .i64 0, .int .i64 0, .slice none 0 0, .int .i64 1, .int .i64 10, .int .i64 10, .int .i64 24, .int .i64 24, .int .i64 0, .int .i64 6, .slice (some ⟨gib25, 0, none⟩) 1 1, .int .i64 0, .int .i64 4, .int .i64 4, .int .i64 0, .int .i64 0, .int .i64 30, .int .i64 30, .slice none 0 0], rbox gib25 3 #[.int .i64 0], rbox gmb14 30 #[.int .i64 0, .int .i64 300, .int .i64 10, .int .i64 50, .int .i64 200, .int .i64 24], rbox gtb14 34 #[.int .i64 0, .int .i64 5, .int .i64 12, .int .i64 0, .int .i64 0, .int .i64 0, .int .i64 0, .slice none 0 0, .int .i64 1, .int .i64 10, .int .i64 10, .int .i64 24, .int .i64 24, .int .i64 0, .int .i64 6, .slice (some ⟨gib14, 0, none⟩) 1 1, .int .i64 0, .int .i64 4, .int .i64 4, .int .i64 0, .int .i64 0, .int .i64 30, .int .i64 30, .slice none 0 0], rbox gib14 3 #[.int .i64 0], rbox gtb3 34 #[.int .i64 0, .int .i64 5, .int .i64 12, .int .i64 0, .int .i64 0, .int .i64 0, .int .i64 0, .slice none 0 0, .int .i64 1, .int .i64 10, .int .i64 10, .int .i64 24, .int .i64 24, .int .i64 0, .int .i64 6, .slice (some ⟨gib3, 0, none⟩) 1 1, .int .i64 0, .int .i64 4, .int .i64 4, .int .i64 0, .int .i64 0, .int .i64 30, .int .i64 30, .slice none 0 0], rbox gib3 3 #[.int .i64 0]] w_) #[true, true, true, true, true, true, true, true, true, false, true, true, true, true, false, false, false, false, false, false] 7 ?st317 ?nx317
 case st317 =>
  rintro t w318 ⟨yg10, e1, e23, e26, e28, hsz317, F319⟩
  clear F35
  rw [rng_known_walk t, e1, e23, e26, e28]
  clear e1 e23 e26 e28
  have hws317 := F319.gb.size
  have yg10l := F319.ltAt 1 rfl yg10 rfl
  have yg10b := yg10l.2 rfl
  refine ru_o 9 fun K hK => ?_
  go_simp
  replace F319 := F319.new 3 #[.int .i64 1] (n := w318.heap.size) (by simp)
  refine ru_back hK (by exact ⟨F319.q 3 0, F319.q 3 3, F319.q 3 5⟩) (fun _ => ?_)
  clear hK K
  (try simp only [lpX])
  refine ru_p 14 ?_
  (try simp only [lpX])
  refine ru_p 15 ?_
  (try simp only [lpX])
  exact hZ300.out _ _ _ (by kernel_rfl) (by kernel_rfl) rfl ⟨w318.heap.size, yg10, by (iterate 5 refine ⟨by kernel_rfl, ?_⟩); exact ⟨(by first | omega | (simp; done) | (simp; omega)), (F319.pick [1, 2, 0, 3, 4, 5, 6, 7, 8, 9, 10, 11] (by decide) rfl)⟩⟩
 intro hZ317
 refine ru_state 130 (fun t w_ => ∃ (yg9 : Nat), t 1 = .pointer (some ⟨w.heap.size, 0, none⟩) /\ t 23 = .slice (some ⟨gtb14, 0, none⟩) 3 3 /\ t 26 = .slice (some ⟨gtb25, 0, none⟩) 3 3 /\ t 27 = .slice (some ⟨yg9, 0, none⟩) 1 1 /\ t 30 = .pointer (some ⟨gmb3, 2, none⟩) /\ w32.heap.size <= w_.heap.size /\ Bun w [rbox yg9 3 #[.int .i64 1], rbox w.heap.size 26 #[.slice (some ⟨gmb3, 0, none⟩) 2 2, .slice (some ⟨gtb3, 0, none⟩) 3 3, .slice (some ⟨gmb14, 0, none⟩) 2 2, .slice (some ⟨gtb14, 0, none⟩) 3 3, .slice (some ⟨gmb25, 0, none⟩) 2 2, .slice (some ⟨gtb25, 0, none⟩) 3 3], rbox gmb25 30 #[.int .i64 0, .int .i64 300, .int .i64 10, .int .i64 50, .int .i64 200, .int .i64 24], rbox gtb25 34 #[.int .i64 0, .int .i64 5, .int .i64 12, .int .i64 0, .int .i64 0, .int .i64 0, .int .i64 0, .slice none 0 0, .int .i64 1, .int .i64 10, .int .i64 10, .int .i64 24, .int .i64 24, .int .i64 0, .int .i64 6, .slice (some ⟨gib25, 0, none⟩) 1 1, .int .i64 0, .int .i64 4, .int .i64 4, .int .i64 0, .int .i64 0, .int .i64 30, .int .i64 30, .slice none 0 0], rbox gib25 3 #[.int .i64 0], rbox gmb14 30 #[.int .i64 0, .int .i64 300, .int .i64 10, .int .i64 50, .int .i64 200, .int .i64 24], rbox gtb14 34 #[.int .i64 0, .int .i64 5, .int .i64 12, .int .i64 0, .int .i64 0, .int .i64 0, .int .i64 0, .slice none 0 0, .int .i64 1, .int .i64 10, .int .i64 10, .int .i64 24, .int .i64 24, .int .i64 0, .int .i64 6, .slice (some ⟨gib14, 0, none⟩) 1 1, .int .i64 0, .int .i64 4, .int .i64 4, .int .i64 0, .int .i64 0, .int .i64 30, .int .i64 30, .slice none 0 0], rbox gib14 3 #[.int .i64 0], rbox gmb3 30 #[.int .i64 0, .int .i64 300, .int .i64 10, .int .i64 50, .int .i64 200, .int .i64 24], rbox gtb3 34 #[.int .i64 0, .int .i64 5, .int .i64 12, .int .i64 0, .int .i64 0, .int .i64 0, .int .i64 0, .slice none 0 0, .int .i64 1, .int .i64 10, .int .i64 10, .int .i64 24, .int .i64 24, .int .i64 0, .int .i64 6, .slice (some ⟨gib3, 0, none⟩) 1 1, .int .i64 0, .int .i64 4, .int .i64 4, .int .i64 0, .int .i64 0, .int .i64 30, .int .i64 30, .slice none 0 0], rbox gib3 3 #[.int .i64 0]] w_) #[true, true, true, true, true, true, true, true, true, true, false, true, true, false, false, false, false, false, false, false] 8 ?st321 ?nx321
 case st321 =>
  rintro t w322 ⟨yg9, e1, e23, e26, e27, e30, hsz321, F323⟩
  clear F35
  rw [rng_known_walk t, e1, e23, e26, e27, e30]
  clear e1 e23 e26 e27 e30
  have hws321 := F323.gb.size
  have yg9l := F323.ltAt 0 rfl yg9 rfl
  have yg9b := yg9l.2 rfl
  refine ru_two 10 13 rfl rfl (by kernel_rfl) ?_ ?_
  ·
   intro K hK
   go_simp
   replace F323 := F323.new 3 #[.int .i64 0, .int .i64 0] (n := w322.heap.size) (by simp)
   refine ru_back hK (by exact ⟨F323.q 2 0, F323.q 2 3, F323.q 2 5⟩) (fun _ => ?_)
   exact hZ313.out _ _ _ (by kernel_rfl) (by kernel_rfl) rfl ⟨yg9, w322.heap.size, by (iterate 6 refine ⟨by kernel_rfl, ?_⟩); exact ⟨(by first | omega | (simp; done) | (simp; omega)), F323⟩⟩
  intro K hK
  have kb_ := F323.bx6 8 rfl
  go_simp
  clear kb_
  have F325 := ((F323.front 8 rfl rfl).set 2 (.int .i64 0)).nf #[.int .i64 0, .int .i64 300, .int .i64 0, .int .i64 50, .int .i64 200, .int .i64 24] rfl
  clear F323
  refine ru_back hK (by exact ⟨F325.q 2 0, F325.q 2 3, F325.q 2 5⟩) (fun _ => ?_)
  clear hK K
  (try simp only [lpX])
  refine ru_p 14 ?_
  (try simp only [lpX])
  refine ru_p 15 ?_
  (try simp only [lpX])
  exact hZ308.out _ _ _ (by kernel_rfl) (by kernel_rfl) rfl ⟨yg9, (by kernel_rfl), (by kernel_rfl), (by kernel_rfl), (by kernel_rfl), (by first | omega | (simp; done) | (simp; omega)), F325⟩
 intro hZ321
 refine ru_state 130 (fun t w_ => ∃ (yg10 : Nat), t 1 = .pointer (some ⟨w.heap.size, 0, none⟩) /\ t 23 = .slice (some ⟨gtb14, 0, none⟩) 3 3 /\ t 26 = .slice (some ⟨gtb25, 0, none⟩) 3 3 /\ t 28 = .slice (some ⟨yg10, 0, none⟩) 2 2 /\ t 30 = .pointer (some ⟨gmb3, 2, none⟩) /\ w32.heap.size <= w_.heap.size /\ Bun w [rbox yg10 3 #[.int .i64 0, .int .i64 0], rbox w.heap.size 26 #[.slice (some ⟨gmb3, 0, none⟩) 2 2, .slice (some ⟨gtb3, 0, none⟩) 3 3, .slice (some ⟨gmb14, 0, none⟩) 2 2, .slice (some ⟨gtb14, 0, none⟩) 3 3, .slice (some ⟨gmb25, 0, none⟩) 2 2, .slice (some ⟨gtb25, 0, none⟩) 3 3], rbox gmb25 30 #[.int .i64 0, .int .i64 300, .int .i64 10, .int .i64 50, .int .i64 200, .int .i64 24], rbox gtb25 34 #[.int .i64 0, .int .i64 5, .int .i64 12, .int .i64 0, .int .i64 0, .int .i64 0, .int .i64 0, .slice none 0 0, .int .i64 1, .int .i64 10, .int .i64 10, .int .i64 24, .int .i64 24, .int .i64 0, .int .i64 6, .slice (some ⟨gib25, 0, none⟩) 1 1, .int .i64 0, .int .i64 4, .int .i64 4, .int .i64 0, .int .i64 0, .int .i64 30, .int .i64 30, .slice none 0 0], rbox gib25 3 #[.int .i64 0], rbox gmb14 30 #[.int .i64 0, .int .i64 300, .int .i64 10, .int .i64 50, .int .i64 200, .int .i64 24], rbox gtb14 34 #[.int .i64 0, .int .i64 5, .int .i64 12, .int .i64 0, .int .i64 0, .int .i64 0, .int .i64 0, .slice none 0 0, .int .i64 1, .int .i64 10, .int .i64 10, .int .i64 24, .int .i64 24, .int .i64 0, .int .i64 6, .slice (some ⟨gib14, 0, none⟩) 1 1, .int .i64 0, .int .i64 4, .int .i64 4, .int .i64 0, .int .i64 0, .int .i64 30, .int .i64 30, .slice none 0 0], rbox gib14 3 #[.int .i64 0], rbox gmb3 30 #[.int .i64 0, .int .i64 300, .int .i64 10, .int .i64 50, .int .i64 200, .int .i64 24], rbox gtb3 34 #[.int .i64 0, .int .i64 5, .int .i64 12, .int .i64 0, .int .i64 0, .int .i64 0, .int .i64 0, .slice none 0 0, .int .i64 1, .int .i64 10, .int .i64 10, .int .i64 24, .int .i64 24, .int .i64 0, .int .i64 6, .slice (some ⟨gib3, 0, none⟩) 1 1, .int .i64 0, .int .i64 4, .int .i64 4, .int .i64 0, .int .i64 0, .int .i64 30, .int .i64 30, .slice none 0 0], rbox gib3 3 #[.int .i64 0]] w_) #[true, true, true, true, true, true, true, true, true, false, true, true, true, false, false, false, false, false, false, false] 8 ?st326 ?nx326
 case st326 =>
  rintro t w327 ⟨yg10, e1, e23, e26, e28, e30, hsz326, F328⟩
  clear F35
  rw [rng_known_walk t, e1, e23, e26, e28, e30]
  clear e1 e23 e26 e28 e30
  have hws326 := F328.gb.size
  have yg10l := F328.ltAt 0 rfl yg10 rfl
  have yg10b := yg10l.2 rfl
  refine ru_two 9 13 rfl rfl (by kernel_rfl) ?_ ?_
  ·
   intro K hK
   go_simp
   replace F328 := F328.new 3 #[.int .i64 1] (n := w327.heap.size) (by simp)
   refine ru_back hK (by exact ⟨F328.q 2 0, F328.q 2 3, F328.q 2 5⟩) (fun _ => ?_)
   exact hZ313.out _ _ _ (by kernel_rfl) (by kernel_rfl) rfl ⟨w327.heap.size, yg10, by (iterate 6 refine ⟨by kernel_rfl, ?_⟩); exact ⟨(by first | omega | (simp; done) | (simp; omega)), (F328.pick [1, 0, 2, 3, 4, 5, 6, 7, 8, 9, 10, 11] (by decide) rfl)⟩⟩
  intro K hK
  have kb_ := F328.bx6 8 rfl
  go_simp
  clear kb_
  have F330 := ((F328.front 8 rfl rfl).set 2 (.int .i64 0)).nf #[.int .i64 0, .int .i64 300, .int .i64 0, .int .i64 50, .int .i64 200, .int .i64 24] rfl
  clear F328
  refine ru_back hK (by exact ⟨F330.q 2 0, F330.q 2 3, F330.q 2 5⟩) (fun _ => ?_)
  exact hZ317.out _ _ _ (by kernel_rfl) (by kernel_rfl) rfl ⟨yg10, (by kernel_rfl), (by kernel_rfl), (by kernel_rfl), (by kernel_rfl), (by first | omega | (simp; done) | (simp; omega)), F330⟩
 intro hZ326
 refine ru_state 130 (fun t w_ => t 1 = .pointer (some ⟨w.heap.size, 0, none⟩) /\ t 23 = .slice (some ⟨gtb14, 0, none⟩) 3 3 /\ t 26 = .slice (some ⟨gtb25, 0, none⟩) 3 3 /\ w32.heap.size <= w_.heap.size /\ Bun w [rbox gmb3 30 #[.int .i64 0, .int .i64 300, .int .i64 0, .int .i64 50, .int .i64 200, .int .i64 24], rbox w.heap.size 26 #[.slice (some ⟨gmb3, 0, none⟩) 2 2, .slice (some ⟨gtb3, 0, none⟩) 3 3, .slice (some ⟨gmb14, 0, none⟩) 2 2, .slice (some ⟨gtb14, 0, none⟩) 3 3, .slice (some ⟨gmb25, 0, none⟩) 2 2, .slice (some ⟨gtb25, 0, none⟩) 3 3], rbox gmb25 30 #[.int .i64 0, .int .i64 300, .int .i64 10, .int .i64 50, .int .i64 200, .int .i64 24], rbox gtb25 34 #[.int .i64 0, .int .i64 5, .int .i64 12, .int .i64 0, .int .i64 0, .int .i64 0, .int .i64 0, .slice none 0 0, .int .i64 1, .int .i64 10, .int .i64 10, .int .i64 24, .int .i64 24, .int .i64 0, .int .i64 6, .slice (some ⟨gib25, 0, none⟩) 1 1, .int .i64 0, .int .i64 4, .int .i64 4, .int .i64 0, .int .i64 0, .int .i64 30, .int .i64 30, .slice none 0 0], rbox gib25 3 #[.int .i64 0], rbox gmb14 30 #[.int .i64 0, .int .i64 300, .int .i64 10, .int .i64 50, .int .i64 200, .int .i64 24], rbox gtb14 34 #[.int .i64 0, .int .i64 5, .int .i64 12, .int .i64 0, .int .i64 0, .int .i64 0, .int .i64 0, .slice none 0 0, .int .i64 1, .int .i64 10, .int .i64 10, .int .i64 24, .int .i64 24, .int .i64 0, .int .i64 6, .slice (some ⟨gib14, 0, none⟩) 1 1, .int .i64 0, .int .i64 4, .int .i64 4, .int .i64 0, .int .i64 0, .int .i64 30, .int .i64 30, .slice none 0 0], rbox gib14 3 #[.int .i64 0], rbox gtb3 34 #[.int .i64 0, .int .i64 5, .int .i64 12, .int .i64 0, .int .i64 0, .int .i64 0, .int .i64 0, .slice none 0 0, .int .i64 1, .int .i64 10, .int .i64 10, .int .i64 24, .int .i64 24, .int .i64 0, .int .i64 6, .slice (some ⟨gib3, 0, none⟩) 1 1, .int .i64 0, .int .i64 4, .int .i64 4, .int .i64 0, .int .i64 0, .int .i64 30, .int .i64 30, .slice none 0 0], rbox gib3 3 #[.int .i64 0]] w_) #[true, true, true, true, true, true, true, true, true, false, false, true, true, true, false, false, false, false, false, false] 8 ?st331 ?nx331
 case st331 =>
  rintro t w332 ⟨e1, e23, e26, hsz331, F333⟩
  clear F35
  rw [rng_known_walk t, e1, e23, e26]
  clear e1 e23 e26
  have hws331 := F333.gb.size
  refine ru_two 9 10 rfl rfl (by kernel_rfl) ?_ ?_
  ·
   intro K hK
   go_simp
   replace F333 := F333.new 3 #[.int .i64 1] (n := w332.heap.size) (by simp)
   refine ru_back hK (by exact ⟨F333.q 2 0, F333.q 2 3, F333.q 2 5⟩) (fun _ => ?_)
   clear hK K
   (try simp only [lpX])
   refine ru_p 14 ?_
   (try simp only [lpX])
   refine ru_p 15 ?_
   (try simp only [lpX])
   exact hZ308.out _ _ _ (by kernel_rfl) (by kernel_rfl) rfl ⟨w332.heap.size, (by kernel_rfl), (by kernel_rfl), (by kernel_rfl), (by kernel_rfl), (by first | omega | (simp; done) | (simp; omega)), (F333.pick [1, 0, 2, 3, 4, 5, 6, 7, 8, 9, 10] (by decide) rfl)⟩
  intro K hK
  go_simp
  replace F333 := F333.new 3 #[.int .i64 0, .int .i64 0] (n := w332.heap.size) (by simp)
  refine ru_back hK (by exact ⟨F333.q 2 0, F333.q 2 3, F333.q 2 5⟩) (fun _ => ?_)
  exact hZ317.out _ _ _ (by kernel_rfl) (by kernel_rfl) rfl ⟨w332.heap.size, (by kernel_rfl), (by kernel_rfl), (by kernel_rfl), (by kernel_rfl), (by first | omega | (simp; done) | (simp; omega)), (F333.pick [1, 0, 2, 3, 4, 5, 6, 7, 8, 9, 10] (by decide) rfl)⟩
 intro hZ331
 refine ru_three 9 10 13 rfl rfl rfl (by kernel_rfl) ?_ ?_ ?_
 ·
  intro K hK
  go_simp
  replace F35 := F35.new 3 #[.int .i64 1] (n := wd38.heap.size) (by simp)
  refine ru_back hK (by exact ⟨F35.q 1 0, F35.q 1 3, F35.q 1 5⟩) (fun _ => ?_)
  exact hZ321.out _ _ _ (by kernel_rfl) (by kernel_rfl) rfl ⟨wd38.heap.size, by (iterate 5 refine ⟨by kernel_rfl, ?_⟩); exact ⟨(by first | omega | (simp; done) | (simp; omega)), F35⟩⟩
 ·
  intro K hK
  go_simp
  replace F35 := F35.new 3 #[.int .i64 0, .int .i64 0] (n := wd38.heap.size) (by simp)
  refine ru_back hK (by exact ⟨F35.q 1 0, F35.q 1 3, F35.q 1 5⟩) (fun _ => ?_)
  exact hZ326.out _ _ _ (by kernel_rfl) (by kernel_rfl) rfl ⟨wd38.heap.size, by (iterate 5 refine ⟨by kernel_rfl, ?_⟩); exact ⟨(by first | omega | (simp; done) | (simp; omega)), F35⟩⟩
 intro K hK
 have kb_ := F35.bx6 7 rfl
 go_simp
 clear kb_
 have F338 := ((F35.front 7 rfl rfl).set 2 (.int .i64 0)).nf #[.int .i64 0, .int .i64 300, .int .i64 0, .int .i64 50, .int .i64 200, .int .i64 24] rfl
 clear F35
 refine ru_back hK (by exact ⟨F338.q 1 0, F338.q 1 3, F338.q 1 5⟩) (fun _ => ?_)
 exact hZ331.out _ _ _ (by kernel_rfl) (by kernel_rfl) rfl ⟨(by kernel_rfl), (by kernel_rfl), (by kernel_rfl), (by first | omega | (simp; done) | (simp; omega)), F338⟩
end Go.Proofs.YtcoldeolmleeiaaGreat
