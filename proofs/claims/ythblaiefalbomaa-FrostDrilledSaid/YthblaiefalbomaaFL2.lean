/- frost: FrostDrilled walked. -/
import Derived.Test.YthblaiefalbomaaF30
import Derived.Test.YthblaiefalbomaaF26
import Derived.Test.YthblaiefalbomaaFC
import Derived.Test.YthblaiefalbomaaNewS
import Derived.Test.YthblaiefalbomaaSat
set_option linter.unusedVariables false
set_option linter.unusedSimpArgs false
set_option linter.unnecessarySimpa false
namespace Go.Proofs.Ythblaiefalbomaa
open Go.RowKit
set_option maxRecDepth 100000

theorem bothOk {x c : Ice} {t : Tr} (hx : iceErr x = 0) (hc : iceErr c = 0) (ht : inI t x) (htc : inI t c) : iceErr (both x c) = 0 ∧ coreE x c = 0 ∧ inI t (both x c) := by
  obtain ⟨⟨x1, x2⟩, x3, x4⟩ := iceB hx
  obtain ⟨⟨c1, c2⟩, c3, c4⟩ := iceB hc
  obtain ⟨⟨⟨t1, t2⟩, t3, t4⟩, ⟨t5, t6⟩, t7, t8⟩ := ht
  obtain ⟨⟨⟨s1, s2⟩, s3, s4⟩, ⟨s5, s6⟩, s7, s8⟩ := htc
  refine ⟨?_, ?_, ?_⟩
  · unfold iceErr spanErr both
    simp only
    (repeat' split) <;> first | rfl | (exfalso; omega) | omega
  · rw [coreE, if_neg (not_not_intro hx), if_neg (not_not_intro hc), if_neg (by simp only [both]; omega)]
  · unfold both
    refine ⟨⟨⟨?_, ?_⟩, ?_, ?_⟩, ⟨?_, ?_⟩, ?_, ?_⟩
    all_goals simp only
    all_goals omega
theorem both_comm (a b : Ice) : both a b = both b a := by
  unfold both
  refine Ice.eqs ?_ ?_ ?_ ?_ ?_ ?_ ?_ ?_
  all_goals simp only
  all_goals omega
theorem both_twice (a b : Ice) : both (both a b) b = both a b := by
  unfold both
  refine Ice.eqs ?_ ?_ ?_ ?_ ?_ ?_ ?_ ?_
  all_goals simp only
  all_goals omega
theorem both_in (a b : Ice) : insideB (both a b) a = true ∧ insideB (both a b) b = true := by
  unfold insideB inS both
  simp only [Bool.and_eq_true, decide_eq_true_eq]
  omega
theorem inIceB_of {t : Tr} {x : Ice} (h : inI t x) : inIceB t x = true := by
  obtain ⟨⟨⟨t1, t2⟩, t3, t4⟩, ⟨t5, t6⟩, t7, t8⟩ := h
  unfold inIceB hasS
  simp only [Bool.and_eq_true, decide_eq_true_eq]
  omega
/-- What the calls say of ice and a core that have true ice in common. -/
theorem drill {x c : Ice} {t : Tr} (hx : iceErr x = 0) (hc : iceErr c = 0) (ht : inI t x) (htc : inI t c) : ∃ Y : Ice,
    ((∀ w, Calls Try.prog 39 #[.agg (iceC x), .agg (iceC c)] w (Ret (.tuple #[.agg (iceC Y), .int .i64 0]) w)) ∧ (∀ w, Calls Try.prog 39 #[.agg (iceC c), .agg (iceC x)] w (Ret (.tuple #[.agg (iceC Y), .int .i64 0]) w)) ∧
      (∀ w, Calls Try.prog 39 #[.agg (iceC Y), .agg (iceC c)] w (Ret (.tuple #[.agg (iceC Y), .int .i64 0]) w))) ∧
    (∀ w, Calls Try.prog 43 #[.agg (iceC Y), .agg (iceC x)] w (Ret (.bool true) w)) ∧ (∀ w, Calls Try.prog 43 #[.agg (iceC Y), .agg (iceC c)] w (Ret (.bool true) w)) ∧
    ∀ w, Calls Try.prog 44 #[.agg #[.int .i64 t.bl, .int .i64 t.wh, .int .i64 t.we, .int .i64 t.sn], .agg (iceC Y)] w (Ret (.bool true) w) := by
  obtain ⟨h1, h2, h3⟩ := bothOk hx hc ht htc
  obtain ⟨_, h5, _⟩ := bothOk hc hx htc ht
  obtain ⟨_, h6, _⟩ := bothOk h1 hc h3 htc
  refine ⟨both x c, ⟨fun w => ?_, fun w => ?_, fun w => ?_⟩, fun w => ?_, fun w => ?_, fun w => ?_⟩
  · have h := core_c x c w
    rw [coreI, if_pos h2, h2] at h
    exact h
  · have h := core_c c x w
    rw [coreI, if_pos h5, h5, both_comm] at h
    exact h
  · have h := core_c (both x c) c w
    rw [coreI, if_pos h6, h6, both_twice] at h
    exact h
  · have h := insideI_c (both x c) x w
    rw [(both_in x c).1] at h
    exact h
  · have h := insideI_c (both x c) c w
    rw [(both_in x c).2] at h
    exact h
  · have h := inIce_c t (both x c) w
    rw [inIceB_of h3] at h
    exact h
set_option maxHeartbeats 16000000 in
theorem drilled_walk (vn : Value) (zs : List Int) (w : World) (hn : Sl intEnc 1 0 w.heap.size w vn zs) :
    Calls Try.prog 7 #[vn] w (Ret (.bool true) w) := by
  have F1 : Bun w [] w := Bun.nil _
  obtain ⟨na, nc, rfl⟩ := hn.any
  have hm_nums := hn.len
  unfold maxLen at hm_nums
  have F2 := F1.sl0 hn (Nat.le_refl _) rfl
  clear F1
  go_enter Try.func7, Try.ntmps7
  go_wp2_with fail
  refine (newSeed_c 0 w.heap.size _ zs _ (F2.at 0 rfl : Sl intEnc 1 0 w.heap.size _ (.slice na zs.length nc) zs)).mono ?_
  rintro e w5 ⟨sb, rfl, hsb, hsbs, hg3⟩
  have hsbl := hsbs.lt
  have hg3s := hg3.size
  (try simp at hg3s)
  have F6 := F2.add (rseed sb) hg3 (hsbs) (fun g e => by cases e; exact ⟨hsb, hsbs.lt⟩)
  clear F2
  clear hg3
  go_wp2_with fail
  refine (iceOf_c sb _ (F6.at 0 rfl : SeedAt _ sb)).mono ?_
  rintro e w9 ⟨ic, rfl, ⟨hic, hicm⟩, hs8, hg7⟩
  have hicb := iceB hic
  have hg7s := hg7.size
  (try simp at hg7s)
  have F10 := F6.seedAt 0 rfl hg7 hs8
  clear F6
  clear hg7
  go_wp2_with fail
  have F11 := F10.new 32 (iceC ic) (n := w9.heap.size) (by simp)
  clear F10
  refine (trueIce_c sb ic _ (F11.at 1 rfl : SeedAt _ sb) hic).mono ?_
  rintro e w14 ⟨tt, rfl, htt, hs13, hg12⟩
  have httb := htt
  obtain ⟨⟨⟨htt1, htt2⟩, htt3, htt4⟩, ⟨htt5, htt6⟩, htt7, htt8⟩ := httb
  have hg12s := hg12.size
  (try simp at hg12s)
  have F15 := F11.seedAt 1 rfl hg12 hs13
  clear F11
  clear hg12
  go_wp2_with fail
  have F32 := F15.new 48 #[.int .i64 tt.bl, .int .i64 tt.wh, .int .i64 tt.we, .int .i64 tt.sn] (n := w14.heap.size) (by simp)
  clear F15
  obtain ⟨w33, hx34, F36, hxs35⟩ := (show Bun w [rbox w14.heap.size 48 #[.int .i64 tt.bl, .int .i64 tt.wh, .int .i64 tt.we, .int .i64 tt.sn], rbox w9.heap.size 32 (iceC ic), rseed sb, rsl intEnc 1 0 w.heap.size (.slice na zs.length nc) zs] _ from F32).name
  (try simp at hxs35)
  rw [hx34]
  clear hx34 F32
  have F37 := F36.drew
  clear F36
  refine ru_begin (fun W => W.cell? ⟨w14.heap.size, 0, none⟩ = some (.int .i64 tt.bl) ∧ W.cell? ⟨w14.heap.size, 1, none⟩ = some (.int .i64 tt.wh) ∧ W.cell? ⟨w14.heap.size, 2, none⟩ = some (.int .i64 tt.we) ∧ W.cell? ⟨w14.heap.size, 3, none⟩ = some (.int .i64 tt.sn)) 50 (by kernel_rfl) ?_ ?_
  · exact ⟨F37.cl 0 0 rfl rfl, F37.cl 0 1 rfl rfl, F37.cl 0 2 rfl rfl, F37.cl 0 3 rfl rfl⟩
  obtain ⟨wd39, hwd_⟩ : ∃ x : World, w33.drew = x := ⟨_, rfl⟩
  rw [hwd_] at F37 ⊢
  have wd39s : w33.heap.size ≤ wd39.heap.size := by rw [← hwd_]; exact Nat.le_refl _
  clear hwd_
  have hS38 := (And.intro (F37.cl 0 0 rfl rfl) (And.intro (F37.cl 0 1 rfl rfl) (And.intro (F37.cl 0 2 rfl rfl) (F37.cl 0 3 rfl rfl))))
  refine ru_take 0 [] (v := ?_) rfl (by kernel_rfl) (fun _ _ _ h => h) (by assumption) (.inl ⟨by first | kernel_rfl | rfl, ?_⟩) ?_
  rotate_left
  · (intro wS hwS; (try dsimp only at hwS); go_simp; (try with_reducible rfl))
  (try simp only [Act.put, List.setIfInBounds_toArray, List.set_cons_zero, List.set_cons_succ])
  refine ru_take 1 [] (v := ?_) rfl (by kernel_rfl) (fun _ _ _ h => h) (by assumption) (.inl ⟨by first | kernel_rfl | rfl, ?_⟩) ?_
  rotate_left
  · (intro wS hwS; (try dsimp only at hwS); go_simp; (try with_reducible rfl))
  (try simp only [Act.put, List.setIfInBounds_toArray, List.set_cons_zero, List.set_cons_succ])
  refine ru_take 2 [] (v := ?_) rfl (by kernel_rfl) (fun _ _ _ h => h) (by assumption) (.inl ⟨by first | kernel_rfl | rfl, ?_⟩) ?_
  rotate_left
  · (intro wS hwS; (try dsimp only at hwS); go_simp; (try with_reducible rfl))
  (try simp only [Act.put, List.setIfInBounds_toArray, List.set_cons_zero, List.set_cons_succ])
  refine ru_take 6 [] (v := ?_) rfl (by kernel_rfl) (fun _ _ _ h => h) (by assumption) (.inl ⟨by first | kernel_rfl | rfl, ?_⟩) ?_
  rotate_left
  · (intro wS hwS; (try dsimp only at hwS); go_simp; (try with_reducible rfl))
  (try simp only [Act.put, List.setIfInBounds_toArray, List.set_cons_zero, List.set_cons_succ])
  refine ru_take 7 [] (v := ?_) rfl (by kernel_rfl) (fun _ _ _ h => h) (by assumption) (.inl ⟨by first | kernel_rfl | rfl, ?_⟩) ?_
  rotate_left
  · (intro wS hwS; (try dsimp only at hwS); go_simp; (try with_reducible rfl))
  (try simp only [Act.put, List.setIfInBounds_toArray, List.set_cons_zero, List.set_cons_succ])
  refine ru_take 8 [] (v := ?_) rfl (by kernel_rfl) (fun _ _ _ h => h) (by assumption) (.inl ⟨by first | kernel_rfl | rfl, ?_⟩) ?_
  rotate_left
  · (intro wS hwS; (try dsimp only at hwS); go_simp; (try with_reducible rfl))
  (try simp only [Act.put, List.setIfInBounds_toArray, List.set_cons_zero, List.set_cons_succ])
  refine ru_take 12 [] (v := ?_) rfl (by kernel_rfl) (fun _ _ _ h => h) (by assumption) (.inl ⟨by first | kernel_rfl | rfl, ?_⟩) ?_
  rotate_left
  · (intro wS hwS; (try dsimp only at hwS); go_simp; (try with_reducible rfl))
  (try simp only [Act.put, List.setIfInBounds_toArray, List.set_cons_zero, List.set_cons_succ])
  refine ru_take 13 [] (v := ?_) rfl (by kernel_rfl) (fun _ _ _ h => h) (by assumption) (.inl ⟨by first | kernel_rfl | rfl, ?_⟩) ?_
  rotate_left
  · (intro wS hwS; (try dsimp only at hwS); go_simp; (try with_reducible rfl))
  (try simp only [Act.put, List.setIfInBounds_toArray, List.set_cons_zero, List.set_cons_succ])
  refine ru_take 14 [] (v := ?_) rfl (by kernel_rfl) (fun _ _ _ h => h) (by assumption) (.inl ⟨by first | kernel_rfl | rfl, ?_⟩) ?_
  rotate_left
  · (intro wS hwS; (try dsimp only at hwS); go_simp; (try with_reducible rfl))
  (try simp only [Act.put, List.setIfInBounds_toArray, List.set_cons_zero, List.set_cons_succ])
  refine ru_take 18 [] (v := ?_) rfl (by kernel_rfl) (fun _ _ _ h => h) (by assumption) (.inl ⟨by first | kernel_rfl | rfl, ?_⟩) ?_
  rotate_left
  · (intro wS hwS; (try dsimp only at hwS); go_simp; (try with_reducible rfl))
  (try simp only [Act.put, List.setIfInBounds_toArray, List.set_cons_zero, List.set_cons_succ])
  refine ru_take 19 [] (v := ?_) rfl (by kernel_rfl) (fun _ _ _ h => h) (by assumption) (.inl ⟨by first | kernel_rfl | rfl, ?_⟩) ?_
  rotate_left
  · (intro wS hwS; (try dsimp only at hwS); go_simp; (try with_reducible rfl))
  (try simp only [Act.put, List.setIfInBounds_toArray, List.set_cons_zero, List.set_cons_succ])
  refine ru_take 20 [] (v := ?_) rfl (by kernel_rfl) (fun _ _ _ h => h) (by assumption) (.inl ⟨by first | kernel_rfl | rfl, ?_⟩) ?_
  rotate_left
  · (intro wS hwS; (try dsimp only at hwS); go_simp; (try with_reducible rfl))
  (try simp only [Act.put, List.setIfInBounds_toArray, List.set_cons_zero, List.set_cons_succ])
  refine ru_take 24 [] (v := ?_) rfl (by kernel_rfl) (fun _ _ _ h => h) (by assumption) (.inl ⟨by first | kernel_rfl | rfl, ?_⟩) ?_
  rotate_left
  · (intro wS hwS; (try dsimp only at hwS); go_simp; (try with_reducible rfl))
  (try simp only [Act.put, List.setIfInBounds_toArray, List.set_cons_zero, List.set_cons_succ])
  refine ru_take 25 [] (v := ?_) rfl (by kernel_rfl) (fun _ _ _ h => h) (by assumption) (.inl ⟨by first | kernel_rfl | rfl, ?_⟩) ?_
  rotate_left
  · (intro wS hwS; (try dsimp only at hwS); go_simp; (try with_reducible rfl))
  (try simp only [Act.put, List.setIfInBounds_toArray, List.set_cons_zero, List.set_cons_succ])
  refine ru_take 26 [] (v := ?_) rfl (by kernel_rfl) (fun _ _ _ h => h) (by assumption) (.inl ⟨by first | kernel_rfl | rfl, ?_⟩) ?_
  rotate_left
  · (intro wS hwS; (try dsimp only at hwS); go_simp; (try with_reducible rfl))
  (try simp only [Act.put, List.setIfInBounds_toArray, List.set_cons_zero, List.set_cons_succ])
  refine ru_take 30 [] (v := ?_) rfl (by kernel_rfl) (fun _ _ _ h => h) (by assumption) (.inl ⟨by first | kernel_rfl | rfl, ?_⟩) ?_
  rotate_left
  · (intro wS hwS; (try dsimp only at hwS); go_simp; (try with_reducible rfl))
  (try simp only [Act.put, List.setIfInBounds_toArray, List.set_cons_zero, List.set_cons_succ])
  refine ru_take 31 [] (v := ?_) rfl (by kernel_rfl) (fun _ _ _ h => h) (by assumption) (.inl ⟨by first | kernel_rfl | rfl, ?_⟩) ?_
  rotate_left
  · (intro wS hwS; (try dsimp only at hwS); go_simp; (try with_reducible rfl))
  (try simp only [Act.put, List.setIfInBounds_toArray, List.set_cons_zero, List.set_cons_succ])
  refine ru_take 32 [] (v := ?_) rfl (by kernel_rfl) (fun _ _ _ h => h) (by assumption) (.inl ⟨by first | kernel_rfl | rfl, ?_⟩) ?_
  rotate_left
  · (intro wS hwS; (try dsimp only at hwS); go_simp; (try with_reducible rfl))
  (try simp only [Act.put, List.setIfInBounds_toArray, List.set_cons_zero, List.set_cons_succ])
  refine ru_take 36 [] (v := ?_) rfl (by kernel_rfl) (fun _ _ _ h => h) (by assumption) (.inl ⟨by first | kernel_rfl | rfl, ?_⟩) ?_
  rotate_left
  · (intro wS hwS; (try dsimp only at hwS); go_simp; (try with_reducible rfl))
  (try simp only [Act.put, List.setIfInBounds_toArray, List.set_cons_zero, List.set_cons_succ])
  refine ru_take 37 [] (v := ?_) rfl (by kernel_rfl) (fun _ _ _ h => h) (by assumption) (.inl ⟨by first | kernel_rfl | rfl, ?_⟩) ?_
  rotate_left
  · (intro wS hwS; (try dsimp only at hwS); go_simp; (try with_reducible rfl))
  (try simp only [Act.put, List.setIfInBounds_toArray, List.set_cons_zero, List.set_cons_succ])
  refine ru_take 38 [] (v := ?_) rfl (by kernel_rfl) (fun _ _ _ h => h) (by assumption) (.inl ⟨by first | kernel_rfl | rfl, ?_⟩) ?_
  rotate_left
  · (intro wS hwS; (try dsimp only at hwS); go_simp; (try with_reducible rfl))
  (try simp only [Act.put, List.setIfInBounds_toArray, List.set_cons_zero, List.set_cons_succ])
  refine ru_take 42 [] (v := ?_) rfl (by kernel_rfl) (fun _ _ _ h => h) (by assumption) (.inl ⟨by first | kernel_rfl | rfl, ?_⟩) ?_
  rotate_left
  · (intro wS hwS; (try dsimp only at hwS); go_simp; (try with_reducible rfl))
  (try simp only [Act.put, List.setIfInBounds_toArray, List.set_cons_zero, List.set_cons_succ])
  refine ru_take 43 [] (v := ?_) rfl (by kernel_rfl) (fun _ _ _ h => h) (by assumption) (.inl ⟨by first | kernel_rfl | rfl, ?_⟩) ?_
  rotate_left
  · (intro wS hwS; (try dsimp only at hwS); go_simp; (try with_reducible rfl))
  (try simp only [Act.put, List.setIfInBounds_toArray, List.set_cons_zero, List.set_cons_succ])
  refine ru_take 44 [] (v := ?_) rfl (by kernel_rfl) (fun _ _ _ h => h) (by assumption) (.inl ⟨by first | kernel_rfl | rfl, ?_⟩) ?_
  rotate_left
  · (intro wS hwS; (try dsimp only at hwS); go_simp; (try with_reducible rfl))
  (try simp only [Act.put, List.setIfInBounds_toArray, List.set_cons_zero, List.set_cons_succ])
  clear hS38
  have hSS : ∀ (LA : List Res) (W : World), Bun w ([rbox w14.heap.size 48 #[.int .i64 tt.bl, .int .i64 tt.wh, .int .i64 tt.we, .int .i64 tt.sn], rbox w9.heap.size 32 (iceC ic), rseed sb, rsl intEnc 1 0 w.heap.size (.slice na zs.length nc) zs] ++ LA) W ∧ w33.heap.size ≤ W.heap.size → W.cell? ⟨w14.heap.size, 0, none⟩ = some (.int .i64 tt.bl) ∧ W.cell? ⟨w14.heap.size, 1, none⟩ = some (.int .i64 tt.wh) ∧ W.cell? ⟨w14.heap.size, 2, none⟩ = some (.int .i64 tt.we) ∧ W.cell? ⟨w14.heap.size, 3, none⟩ = some (.int .i64 tt.sn) := fun _ _ ⟨F_, _⟩ => ⟨F_.cl 0 0 rfl rfl, F_.cl 0 1 rfl rfl, F_.cl 0 2 rfl rfl, F_.cl 0 3 rfl rfl⟩
  refine ru_mix (goodBunS _ w33.heap.size) 125 [⟨49, 6, 32, (z8)⟩] [3, 4, 5, 9, 10, 11, 15, 16, 17, 21, 22, 23, 27, 28, 29, 33, 34, 35, 39, 40, 41, 45, 46, 47, 48] 1 (by kernel_rfl) (by kernel_rfl) (fun _ _ _ _ _ h => h) (U0 := (fun t => t 4 = .pointer (some ⟨w9.heap.size, 0, none⟩) ∧ t 5 = .pointer (some ⟨w14.heap.size, 0, none⟩) ∧ t 21 = .int .i64 tt.bl ∧ t 22 = .pointer (some ⟨sb, 0, none⟩) ∧ t 27 = .int .i64 tt.bl ∧ t 28 = .pointer (some ⟨sb, 0, none⟩) ∧ t 33 = .int .i64 tt.wh ∧ t 34 = .pointer (some ⟨sb, 0, none⟩) ∧ t 39 = .int .i64 tt.wh ∧ t 40 = .pointer (some ⟨sb, 0, none⟩) ∧ t 45 = .int .i64 tt.we ∧ t 46 = .pointer (some ⟨sb, 0, none⟩) ∧ t 51 = .int .i64 tt.we ∧ t 52 = .pointer (some ⟨sb, 0, none⟩) ∧ t 57 = .int .i64 tt.sn ∧ t 58 = .pointer (some ⟨sb, 0, none⟩) ∧ t 63 = .int .i64 tt.sn ∧ t 64 = .pointer (some ⟨sb, 0, none⟩))) (Um := (fun t => ∃ (r41 : Int) (r44 : Int) (r47 : Int) (r50 : Int) (r53 : Int) (r56 : Int) (r59 : Int) (r62 : Int), (0 ≤ r41 ∧ (r41 < 20 ∨ r41 = 0)) ∧ (0 ≤ r44 ∧ (r44 < 20 ∨ r44 = 0)) ∧ (0 ≤ r47 ∧ (r47 < 9 ∨ r47 = 0)) ∧ (0 ≤ r50 ∧ (r50 < 9 ∨ r50 = 0)) ∧ (0 ≤ r53 ∧ (r53 < 3 ∨ r53 = 0)) ∧ (0 ≤ r56 ∧ (r56 < 3 ∨ r56 = 0)) ∧ (0 ≤ r59 ∧ (r59 < 40 ∨ r59 = 0)) ∧ (0 ≤ r62 ∧ (r62 < 40 ∨ r62 = 0)) ∧ t 4 = .pointer (some ⟨w9.heap.size, 0, none⟩) ∧ t 5 = .pointer (some ⟨w14.heap.size, 0, none⟩) ∧ t 68 = .agg #[.int .i64 (max 0 (tt.bl - r41)), .int .i64 (tt.bl + r44), .int .i64 (max 0 (tt.wh - r47)), .int .i64 (tt.wh + r50), .int .i64 (max 0 (tt.we - r53)), .int .i64 (tt.we + r56), .int .i64 (max 0 (tt.sn - r59)), .int .i64 (tt.sn + r62)])) (L0 := [rbox w14.heap.size 48 #[.int .i64 tt.bl, .int .i64 tt.wh, .int .i64 tt.we, .int .i64 tt.sn], rbox w9.heap.size 32 (iceC ic), rseed sb, rsl intEnc 1 0 w.heap.size (.slice na zs.length nc) zs]) (Lm := [rbox w14.heap.size 48 #[.int .i64 tt.bl, .int .i64 tt.wh, .int .i64 tt.we, .int .i64 tt.sn], rbox w9.heap.size 32 (iceC ic), rseed sb, rsl intEnc 1 0 w.heap.size (.slice na zs.length nc) zs]) ?chM40 ?alM40 ⟨(by kernel_rfl), rfl, ⟨(by kernel_rfl), (by kernel_rfl), (by kernel_rfl), (by kernel_rfl), (by kernel_rfl), (by kernel_rfl), (by kernel_rfl), (by kernel_rfl), (by kernel_rfl), (by kernel_rfl), (by kernel_rfl), (by kernel_rfl), (by kernel_rfl), (by kernel_rfl), (by kernel_rfl), (by kernel_rfl), (by kernel_rfl), (by kernel_rfl)⟩⟩ ⟨F37, (by first | assumption | omega)⟩ ?restM40
  case chM40 =>
    refine Chain.callS 3 (fun t => ∃ (r41 : Int), (0 ≤ r41 ∧ (r41 < 20 ∨ r41 = 0)) ∧ t 4 = .pointer (some ⟨w9.heap.size, 0, none⟩) ∧ t 5 = .pointer (some ⟨w14.heap.size, 0, none⟩) ∧ t 21 = .int .i64 tt.bl ∧ t 23 = .int .i64 r41 ∧ t 27 = .int .i64 tt.bl ∧ t 28 = .pointer (some ⟨sb, 0, none⟩) ∧ t 33 = .int .i64 tt.wh ∧ t 34 = .pointer (some ⟨sb, 0, none⟩) ∧ t 39 = .int .i64 tt.wh ∧ t 40 = .pointer (some ⟨sb, 0, none⟩) ∧ t 45 = .int .i64 tt.we ∧ t 46 = .pointer (some ⟨sb, 0, none⟩) ∧ t 51 = .int .i64 tt.we ∧ t 52 = .pointer (some ⟨sb, 0, none⟩) ∧ t 57 = .int .i64 tt.sn ∧ t 58 = .pointer (some ⟨sb, 0, none⟩) ∧ t 63 = .int .i64 tt.sn ∧ t 64 = .pointer (some ⟨sb, 0, none⟩)) (List.forall_mem_cons.2 ⟨fun _ _ u => u, fun _ h => (by cases h)⟩) hSS (by kernel_rfl) ?_ ?_
    · rintro t w_ LA ⟨e4, e5, e21, e22, e27, e28, e33, e34, e39, e40, e45, e46, e51, e52, e57, e58, e63, e64⟩ ⟨F_, hwn_⟩
      have hws := F_.gb.size
      have e : ((List.range 125).map t).toArray = #[t 0, t 1, t 2, t 3, t 4, t 5, t 6, t 7, t 8, t 9, t 10, t 11, t 12, t 13, t 14, t 15, t 16, t 17, t 18, t 19, t 20, t 21, t 22, t 23, t 24, t 25, t 26, t 27, t 28, t 29, t 30, t 31, t 32, t 33, t 34, t 35, t 36, t 37, t 38, t 39, t 40, t 41, t 42, t 43, t 44, t 45, t 46, t 47, t 48, t 49, t 50, t 51, t 52, t 53, t 54, t 55, t 56, t 57, t 58, t 59, t 60, t 61, t 62, t 63, t 64, t 65, t 66, t 67, t 68, t 69, t 70, t 71, t 72, t 73, t 74, t 75, t 76, t 77, t 78, t 79, t 80, t 81, t 82, t 83, t 84, t 85, t 86, t 87, t 88, t 89, t 90, t 91, t 92, t 93, t 94, t 95, t 96, t 97, t 98, t 99, t 100, t 101, t 102, t 103, t 104, t 105, t 106, t 107, t 108, t 109, t 110, t 111, t 112, t 113, t 114, t 115, t 116, t 117, t 118, t 119, t 120, t 121, t 122, t 123, t 124] := rfl
      (try dsimp only at e)
      rw [e4, e5, e21, e22, e27, e28, e33, e34, e39, e40, e45, e46, e51, e52, e57, e58, e63, e64] at e; rw [e]; clear e e4 e5 e21 e22 e27 e28 e33 e34 e39 e40 e45 e46 e51 e52 e57 e58 e63 e64
      refine wpOp_stepH rfl (fun K hK => ?_)
      go_simp
      refine (below_c sb 20 _ (F_.at 2 rfl : SeedAt _ sb) (by omega) (by omega)).mono ?_
      rintro e w65 ⟨r41, rfl, hr42, hs67, hg66⟩
      unfold belowR at hr42
      exact hK.out _ _ ⟨(by kernel_rfl), rfl, ⟨r41, (by first | assumption | omega), (by kernel_rfl), (by kernel_rfl), (by kernel_rfl), (by kernel_rfl), (by kernel_rfl), (by kernel_rfl), (by kernel_rfl), (by kernel_rfl), (by kernel_rfl), (by kernel_rfl), (by kernel_rfl), (by kernel_rfl), (by kernel_rfl), (by kernel_rfl), (by kernel_rfl), (by kernel_rfl), (by kernel_rfl), (by kernel_rfl)⟩, List.forall_mem_cons.2 ⟨(by kernel_rfl), fun _ h => (by cases h)⟩, ⟨F_.seedAt 2 rfl hg66 hs67, Nat.le_trans hwn_ hg66.size⟩, hSS _ _ ⟨F_.seedAt 2 rfl hg66 hs67, Nat.le_trans hwn_ hg66.size⟩⟩
    refine Chain.pureS 4 (fun t => ∃ (r41 : Int), (0 ≤ r41 ∧ (r41 < 20 ∨ r41 = 0)) ∧ t 4 = .pointer (some ⟨w9.heap.size, 0, none⟩) ∧ t 5 = .pointer (some ⟨w14.heap.size, 0, none⟩) ∧ t 24 = .int .i64 (tt.bl - r41) ∧ t 27 = .int .i64 tt.bl ∧ t 28 = .pointer (some ⟨sb, 0, none⟩) ∧ t 33 = .int .i64 tt.wh ∧ t 34 = .pointer (some ⟨sb, 0, none⟩) ∧ t 39 = .int .i64 tt.wh ∧ t 40 = .pointer (some ⟨sb, 0, none⟩) ∧ t 45 = .int .i64 tt.we ∧ t 46 = .pointer (some ⟨sb, 0, none⟩) ∧ t 51 = .int .i64 tt.we ∧ t 52 = .pointer (some ⟨sb, 0, none⟩) ∧ t 57 = .int .i64 tt.sn ∧ t 58 = .pointer (some ⟨sb, 0, none⟩) ∧ t 63 = .int .i64 tt.sn ∧ t 64 = .pointer (some ⟨sb, 0, none⟩)) rfl (List.forall_mem_cons.2 ⟨fun _ _ u => u, fun _ h => (by cases h)⟩) hSS (by kernel_rfl) ?_ ?_
    · rintro t ⟨r41, hr42, e4, e5, e21, e23, e27, e28, e33, e34, e39, e40, e45, e46, e51, e52, e57, e58, e63, e64⟩
      have e : ((List.range 125).map t).toArray = #[t 0, t 1, t 2, t 3, t 4, t 5, t 6, t 7, t 8, t 9, t 10, t 11, t 12, t 13, t 14, t 15, t 16, t 17, t 18, t 19, t 20, t 21, t 22, t 23, t 24, t 25, t 26, t 27, t 28, t 29, t 30, t 31, t 32, t 33, t 34, t 35, t 36, t 37, t 38, t 39, t 40, t 41, t 42, t 43, t 44, t 45, t 46, t 47, t 48, t 49, t 50, t 51, t 52, t 53, t 54, t 55, t 56, t 57, t 58, t 59, t 60, t 61, t 62, t 63, t 64, t 65, t 66, t 67, t 68, t 69, t 70, t 71, t 72, t 73, t 74, t 75, t 76, t 77, t 78, t 79, t 80, t 81, t 82, t 83, t 84, t 85, t 86, t 87, t 88, t 89, t 90, t 91, t 92, t 93, t 94, t 95, t 96, t 97, t 98, t 99, t 100, t 101, t 102, t 103, t 104, t 105, t 106, t 107, t 108, t 109, t 110, t 111, t 112, t 113, t 114, t 115, t 116, t 117, t 118, t 119, t 120, t 121, t 122, t 123, t 124] := rfl
      (try dsimp only at e)
      rw [e4, e5, e21, e23, e27, e28, e33, e34, e39, e40, e45, e46, e51, e52, e57, e58, e63, e64] at e; rw [e]; clear e e4 e5 e21 e23 e27 e28 e33 e34 e39 e40 e45 e46 e51 e52 e57 e58 e63 e64
      have hw43 : IntKind.i64.wrap (tt.bl - r41) = tt.bl - r41 := IntWalk.i64_in _ (by omega)
      refine ⟨.int .i64 (tt.bl - r41), .inl ⟨by first | kernel_rfl | rfl, ?_⟩, ⟨(by kernel_rfl), rfl⟩, ⟨r41, (by first | assumption | omega), (by kernel_rfl), (by kernel_rfl), (by kernel_rfl), (by kernel_rfl), (by kernel_rfl), (by kernel_rfl), (by kernel_rfl), (by kernel_rfl), (by kernel_rfl), (by kernel_rfl), (by kernel_rfl), (by kernel_rfl), (by kernel_rfl), (by kernel_rfl), (by kernel_rfl), (by kernel_rfl), (by kernel_rfl)⟩, List.forall_mem_cons.2 ⟨(by kernel_rfl), fun _ h => (by cases h)⟩⟩
      intro wS _
      go_simp
      (try with_reducible rfl)
    refine Chain.pureS 5 (fun t => ∃ (r41 : Int), (0 ≤ r41 ∧ (r41 < 20 ∨ r41 = 0)) ∧ t 4 = .pointer (some ⟨w9.heap.size, 0, none⟩) ∧ t 5 = .pointer (some ⟨w14.heap.size, 0, none⟩) ∧ t 25 = .int .i64 (max 0 (tt.bl - r41)) ∧ t 27 = .int .i64 tt.bl ∧ t 28 = .pointer (some ⟨sb, 0, none⟩) ∧ t 33 = .int .i64 tt.wh ∧ t 34 = .pointer (some ⟨sb, 0, none⟩) ∧ t 39 = .int .i64 tt.wh ∧ t 40 = .pointer (some ⟨sb, 0, none⟩) ∧ t 45 = .int .i64 tt.we ∧ t 46 = .pointer (some ⟨sb, 0, none⟩) ∧ t 51 = .int .i64 tt.we ∧ t 52 = .pointer (some ⟨sb, 0, none⟩) ∧ t 57 = .int .i64 tt.sn ∧ t 58 = .pointer (some ⟨sb, 0, none⟩) ∧ t 63 = .int .i64 tt.sn ∧ t 64 = .pointer (some ⟨sb, 0, none⟩)) rfl (List.forall_mem_cons.2 ⟨fun _ _ u => u, fun _ h => (by cases h)⟩) hSS (by kernel_rfl) ?_ ?_
    · rintro t ⟨r41, hr42, e4, e5, e24, e27, e28, e33, e34, e39, e40, e45, e46, e51, e52, e57, e58, e63, e64⟩
      have e : ((List.range 125).map t).toArray = #[t 0, t 1, t 2, t 3, t 4, t 5, t 6, t 7, t 8, t 9, t 10, t 11, t 12, t 13, t 14, t 15, t 16, t 17, t 18, t 19, t 20, t 21, t 22, t 23, t 24, t 25, t 26, t 27, t 28, t 29, t 30, t 31, t 32, t 33, t 34, t 35, t 36, t 37, t 38, t 39, t 40, t 41, t 42, t 43, t 44, t 45, t 46, t 47, t 48, t 49, t 50, t 51, t 52, t 53, t 54, t 55, t 56, t 57, t 58, t 59, t 60, t 61, t 62, t 63, t 64, t 65, t 66, t 67, t 68, t 69, t 70, t 71, t 72, t 73, t 74, t 75, t 76, t 77, t 78, t 79, t 80, t 81, t 82, t 83, t 84, t 85, t 86, t 87, t 88, t 89, t 90, t 91, t 92, t 93, t 94, t 95, t 96, t 97, t 98, t 99, t 100, t 101, t 102, t 103, t 104, t 105, t 106, t 107, t 108, t 109, t 110, t 111, t 112, t 113, t 114, t 115, t 116, t 117, t 118, t 119, t 120, t 121, t 122, t 123, t 124] := rfl
      (try dsimp only at e)
      rw [e4, e5, e24, e27, e28, e33, e34, e39, e40, e45, e46, e51, e52, e57, e58, e63, e64] at e; rw [e]; clear e e4 e5 e24 e27 e28 e33 e34 e39 e40 e45 e46 e51 e52 e57 e58 e63 e64
      refine ⟨.int .i64 (max 0 (tt.bl - r41)), .inl ⟨by first | kernel_rfl | rfl, ?_⟩, ⟨(by kernel_rfl), rfl⟩, ⟨r41, (by first | assumption | omega), (by kernel_rfl), (by kernel_rfl), (by kernel_rfl), (by kernel_rfl), (by kernel_rfl), (by kernel_rfl), (by kernel_rfl), (by kernel_rfl), (by kernel_rfl), (by kernel_rfl), (by kernel_rfl), (by kernel_rfl), (by kernel_rfl), (by kernel_rfl), (by kernel_rfl), (by kernel_rfl), (by kernel_rfl)⟩, List.forall_mem_cons.2 ⟨(by kernel_rfl), fun _ h => (by cases h)⟩⟩
      intro wS _
      go_simp
      (try with_reducible rfl)
    refine Chain.callS 9 (fun t => ∃ (r41 : Int) (r44 : Int), (0 ≤ r41 ∧ (r41 < 20 ∨ r41 = 0)) ∧ (0 ≤ r44 ∧ (r44 < 20 ∨ r44 = 0)) ∧ t 4 = .pointer (some ⟨w9.heap.size, 0, none⟩) ∧ t 5 = .pointer (some ⟨w14.heap.size, 0, none⟩) ∧ t 25 = .int .i64 (max 0 (tt.bl - r41)) ∧ t 27 = .int .i64 tt.bl ∧ t 29 = .int .i64 r44 ∧ t 33 = .int .i64 tt.wh ∧ t 34 = .pointer (some ⟨sb, 0, none⟩) ∧ t 39 = .int .i64 tt.wh ∧ t 40 = .pointer (some ⟨sb, 0, none⟩) ∧ t 45 = .int .i64 tt.we ∧ t 46 = .pointer (some ⟨sb, 0, none⟩) ∧ t 51 = .int .i64 tt.we ∧ t 52 = .pointer (some ⟨sb, 0, none⟩) ∧ t 57 = .int .i64 tt.sn ∧ t 58 = .pointer (some ⟨sb, 0, none⟩) ∧ t 63 = .int .i64 tt.sn ∧ t 64 = .pointer (some ⟨sb, 0, none⟩)) (List.forall_mem_cons.2 ⟨fun _ _ u => u, fun _ h => (by cases h)⟩) hSS (by kernel_rfl) ?_ ?_
    · rintro t w_ LA ⟨r41, hr42, e4, e5, e25, e27, e28, e33, e34, e39, e40, e45, e46, e51, e52, e57, e58, e63, e64⟩ ⟨F_, hwn_⟩
      have hws := F_.gb.size
      have e : ((List.range 125).map t).toArray = #[t 0, t 1, t 2, t 3, t 4, t 5, t 6, t 7, t 8, t 9, t 10, t 11, t 12, t 13, t 14, t 15, t 16, t 17, t 18, t 19, t 20, t 21, t 22, t 23, t 24, t 25, t 26, t 27, t 28, t 29, t 30, t 31, t 32, t 33, t 34, t 35, t 36, t 37, t 38, t 39, t 40, t 41, t 42, t 43, t 44, t 45, t 46, t 47, t 48, t 49, t 50, t 51, t 52, t 53, t 54, t 55, t 56, t 57, t 58, t 59, t 60, t 61, t 62, t 63, t 64, t 65, t 66, t 67, t 68, t 69, t 70, t 71, t 72, t 73, t 74, t 75, t 76, t 77, t 78, t 79, t 80, t 81, t 82, t 83, t 84, t 85, t 86, t 87, t 88, t 89, t 90, t 91, t 92, t 93, t 94, t 95, t 96, t 97, t 98, t 99, t 100, t 101, t 102, t 103, t 104, t 105, t 106, t 107, t 108, t 109, t 110, t 111, t 112, t 113, t 114, t 115, t 116, t 117, t 118, t 119, t 120, t 121, t 122, t 123, t 124] := rfl
      (try dsimp only at e)
      rw [e4, e5, e25, e27, e28, e33, e34, e39, e40, e45, e46, e51, e52, e57, e58, e63, e64] at e; rw [e]; clear e e4 e5 e25 e27 e28 e33 e34 e39 e40 e45 e46 e51 e52 e57 e58 e63 e64
      refine wpOp_stepH rfl (fun K hK => ?_)
      go_simp
      refine (below_c sb 20 _ (F_.at 2 rfl : SeedAt _ sb) (by omega) (by omega)).mono ?_
      rintro e w68 ⟨r44, rfl, hr45, hs70, hg69⟩
      unfold belowR at hr45
      exact hK.out _ _ ⟨(by kernel_rfl), rfl, ⟨r41, r44, (by first | assumption | omega), (by first | assumption | omega), (by kernel_rfl), (by kernel_rfl), (by kernel_rfl), (by kernel_rfl), (by kernel_rfl), (by kernel_rfl), (by kernel_rfl), (by kernel_rfl), (by kernel_rfl), (by kernel_rfl), (by kernel_rfl), (by kernel_rfl), (by kernel_rfl), (by kernel_rfl), (by kernel_rfl), (by kernel_rfl), (by kernel_rfl)⟩, List.forall_mem_cons.2 ⟨(by kernel_rfl), fun _ h => (by cases h)⟩, ⟨F_.seedAt 2 rfl hg69 hs70, Nat.le_trans hwn_ hg69.size⟩, hSS _ _ ⟨F_.seedAt 2 rfl hg69 hs70, Nat.le_trans hwn_ hg69.size⟩⟩
    refine Chain.pureS 10 (fun t => ∃ (r41 : Int) (r44 : Int), (0 ≤ r41 ∧ (r41 < 20 ∨ r41 = 0)) ∧ (0 ≤ r44 ∧ (r44 < 20 ∨ r44 = 0)) ∧ t 4 = .pointer (some ⟨w9.heap.size, 0, none⟩) ∧ t 5 = .pointer (some ⟨w14.heap.size, 0, none⟩) ∧ t 25 = .int .i64 (max 0 (tt.bl - r41)) ∧ t 30 = .int .i64 (tt.bl + r44) ∧ t 33 = .int .i64 tt.wh ∧ t 34 = .pointer (some ⟨sb, 0, none⟩) ∧ t 39 = .int .i64 tt.wh ∧ t 40 = .pointer (some ⟨sb, 0, none⟩) ∧ t 45 = .int .i64 tt.we ∧ t 46 = .pointer (some ⟨sb, 0, none⟩) ∧ t 51 = .int .i64 tt.we ∧ t 52 = .pointer (some ⟨sb, 0, none⟩) ∧ t 57 = .int .i64 tt.sn ∧ t 58 = .pointer (some ⟨sb, 0, none⟩) ∧ t 63 = .int .i64 tt.sn ∧ t 64 = .pointer (some ⟨sb, 0, none⟩)) rfl (List.forall_mem_cons.2 ⟨fun _ _ u => u, fun _ h => (by cases h)⟩) hSS (by kernel_rfl) ?_ ?_
    · rintro t ⟨r41, r44, hr42, hr45, e4, e5, e25, e27, e29, e33, e34, e39, e40, e45, e46, e51, e52, e57, e58, e63, e64⟩
      have e : ((List.range 125).map t).toArray = #[t 0, t 1, t 2, t 3, t 4, t 5, t 6, t 7, t 8, t 9, t 10, t 11, t 12, t 13, t 14, t 15, t 16, t 17, t 18, t 19, t 20, t 21, t 22, t 23, t 24, t 25, t 26, t 27, t 28, t 29, t 30, t 31, t 32, t 33, t 34, t 35, t 36, t 37, t 38, t 39, t 40, t 41, t 42, t 43, t 44, t 45, t 46, t 47, t 48, t 49, t 50, t 51, t 52, t 53, t 54, t 55, t 56, t 57, t 58, t 59, t 60, t 61, t 62, t 63, t 64, t 65, t 66, t 67, t 68, t 69, t 70, t 71, t 72, t 73, t 74, t 75, t 76, t 77, t 78, t 79, t 80, t 81, t 82, t 83, t 84, t 85, t 86, t 87, t 88, t 89, t 90, t 91, t 92, t 93, t 94, t 95, t 96, t 97, t 98, t 99, t 100, t 101, t 102, t 103, t 104, t 105, t 106, t 107, t 108, t 109, t 110, t 111, t 112, t 113, t 114, t 115, t 116, t 117, t 118, t 119, t 120, t 121, t 122, t 123, t 124] := rfl
      (try dsimp only at e)
      rw [e4, e5, e25, e27, e29, e33, e34, e39, e40, e45, e46, e51, e52, e57, e58, e63, e64] at e; rw [e]; clear e e4 e5 e25 e27 e29 e33 e34 e39 e40 e45 e46 e51 e52 e57 e58 e63 e64
      have hw46 : IntKind.i64.wrap (tt.bl + r44) = tt.bl + r44 := IntWalk.i64_in _ (by omega)
      refine ⟨.int .i64 (tt.bl + r44), .inl ⟨by first | kernel_rfl | rfl, ?_⟩, ⟨(by kernel_rfl), rfl⟩, ⟨r41, r44, (by first | assumption | omega), (by first | assumption | omega), (by kernel_rfl), (by kernel_rfl), (by kernel_rfl), (by kernel_rfl), (by kernel_rfl), (by kernel_rfl), (by kernel_rfl), (by kernel_rfl), (by kernel_rfl), (by kernel_rfl), (by kernel_rfl), (by kernel_rfl), (by kernel_rfl), (by kernel_rfl), (by kernel_rfl), (by kernel_rfl)⟩, List.forall_mem_cons.2 ⟨(by kernel_rfl), fun _ h => (by cases h)⟩⟩
      intro wS _
      go_simp
      (try with_reducible rfl)
    refine Chain.callS 11 (fun t => ∃ (r41 : Int) (r44 : Int), (0 ≤ r41 ∧ (r41 < 20 ∨ r41 = 0)) ∧ (0 ≤ r44 ∧ (r44 < 20 ∨ r44 = 0)) ∧ t 4 = .pointer (some ⟨w9.heap.size, 0, none⟩) ∧ t 5 = .pointer (some ⟨w14.heap.size, 0, none⟩) ∧ t 31 = .agg #[.int .i64 (max 0 (tt.bl - r41)), .int .i64 (tt.bl + r44)] ∧ t 33 = .int .i64 tt.wh ∧ t 34 = .pointer (some ⟨sb, 0, none⟩) ∧ t 39 = .int .i64 tt.wh ∧ t 40 = .pointer (some ⟨sb, 0, none⟩) ∧ t 45 = .int .i64 tt.we ∧ t 46 = .pointer (some ⟨sb, 0, none⟩) ∧ t 51 = .int .i64 tt.we ∧ t 52 = .pointer (some ⟨sb, 0, none⟩) ∧ t 57 = .int .i64 tt.sn ∧ t 58 = .pointer (some ⟨sb, 0, none⟩) ∧ t 63 = .int .i64 tt.sn ∧ t 64 = .pointer (some ⟨sb, 0, none⟩)) (List.forall_mem_cons.2 ⟨fun _ _ u => u, fun _ h => (by cases h)⟩) hSS (by kernel_rfl) ?_ ?_
    · rintro t w_ LA ⟨r41, r44, hr42, hr45, e4, e5, e25, e30, e33, e34, e39, e40, e45, e46, e51, e52, e57, e58, e63, e64⟩ ⟨F_, hwn_⟩
      have hws := F_.gb.size
      have e : ((List.range 125).map t).toArray = #[t 0, t 1, t 2, t 3, t 4, t 5, t 6, t 7, t 8, t 9, t 10, t 11, t 12, t 13, t 14, t 15, t 16, t 17, t 18, t 19, t 20, t 21, t 22, t 23, t 24, t 25, t 26, t 27, t 28, t 29, t 30, t 31, t 32, t 33, t 34, t 35, t 36, t 37, t 38, t 39, t 40, t 41, t 42, t 43, t 44, t 45, t 46, t 47, t 48, t 49, t 50, t 51, t 52, t 53, t 54, t 55, t 56, t 57, t 58, t 59, t 60, t 61, t 62, t 63, t 64, t 65, t 66, t 67, t 68, t 69, t 70, t 71, t 72, t 73, t 74, t 75, t 76, t 77, t 78, t 79, t 80, t 81, t 82, t 83, t 84, t 85, t 86, t 87, t 88, t 89, t 90, t 91, t 92, t 93, t 94, t 95, t 96, t 97, t 98, t 99, t 100, t 101, t 102, t 103, t 104, t 105, t 106, t 107, t 108, t 109, t 110, t 111, t 112, t 113, t 114, t 115, t 116, t 117, t 118, t 119, t 120, t 121, t 122, t 123, t 124] := rfl
      (try dsimp only at e)
      rw [e4, e5, e25, e30, e33, e34, e39, e40, e45, e46, e51, e52, e57, e58, e63, e64] at e; rw [e]; clear e e4 e5 e25 e30 e33 e34 e39 e40 e45 e46 e51 e52 e57 e58 e63 e64
      refine wpOp_stepH rfl (fun K hK => ?_)
      go_simp
      refine (span_c (max 0 (tt.bl - r41)) (tt.bl + r44) _).mono ?_
      rintro e w71 ⟨rfl, hg72⟩
      exact hK.out _ _ ⟨(by kernel_rfl), rfl, ⟨r41, r44, (by first | assumption | omega), (by first | assumption | omega), (by kernel_rfl), (by kernel_rfl), (by kernel_rfl), (by kernel_rfl), (by kernel_rfl), (by kernel_rfl), (by kernel_rfl), (by kernel_rfl), (by kernel_rfl), (by kernel_rfl), (by kernel_rfl), (by kernel_rfl), (by kernel_rfl), (by kernel_rfl), (by kernel_rfl)⟩, List.forall_mem_cons.2 ⟨(by kernel_rfl), fun _ h => (by cases h)⟩, ⟨F_.gn hg72, Nat.le_trans hwn_ hg72.size⟩, hSS _ _ ⟨F_.gn hg72, Nat.le_trans hwn_ hg72.size⟩⟩
    refine Chain.callS 15 (fun t => ∃ (r41 : Int) (r44 : Int) (r47 : Int), (0 ≤ r41 ∧ (r41 < 20 ∨ r41 = 0)) ∧ (0 ≤ r44 ∧ (r44 < 20 ∨ r44 = 0)) ∧ (0 ≤ r47 ∧ (r47 < 9 ∨ r47 = 0)) ∧ t 4 = .pointer (some ⟨w9.heap.size, 0, none⟩) ∧ t 5 = .pointer (some ⟨w14.heap.size, 0, none⟩) ∧ t 31 = .agg #[.int .i64 (max 0 (tt.bl - r41)), .int .i64 (tt.bl + r44)] ∧ t 33 = .int .i64 tt.wh ∧ t 35 = .int .i64 r47 ∧ t 39 = .int .i64 tt.wh ∧ t 40 = .pointer (some ⟨sb, 0, none⟩) ∧ t 45 = .int .i64 tt.we ∧ t 46 = .pointer (some ⟨sb, 0, none⟩) ∧ t 51 = .int .i64 tt.we ∧ t 52 = .pointer (some ⟨sb, 0, none⟩) ∧ t 57 = .int .i64 tt.sn ∧ t 58 = .pointer (some ⟨sb, 0, none⟩) ∧ t 63 = .int .i64 tt.sn ∧ t 64 = .pointer (some ⟨sb, 0, none⟩)) (List.forall_mem_cons.2 ⟨fun _ _ u => u, fun _ h => (by cases h)⟩) hSS (by kernel_rfl) ?_ ?_
    · rintro t w_ LA ⟨r41, r44, hr42, hr45, e4, e5, e31, e33, e34, e39, e40, e45, e46, e51, e52, e57, e58, e63, e64⟩ ⟨F_, hwn_⟩
      have hws := F_.gb.size
      have e : ((List.range 125).map t).toArray = #[t 0, t 1, t 2, t 3, t 4, t 5, t 6, t 7, t 8, t 9, t 10, t 11, t 12, t 13, t 14, t 15, t 16, t 17, t 18, t 19, t 20, t 21, t 22, t 23, t 24, t 25, t 26, t 27, t 28, t 29, t 30, t 31, t 32, t 33, t 34, t 35, t 36, t 37, t 38, t 39, t 40, t 41, t 42, t 43, t 44, t 45, t 46, t 47, t 48, t 49, t 50, t 51, t 52, t 53, t 54, t 55, t 56, t 57, t 58, t 59, t 60, t 61, t 62, t 63, t 64, t 65, t 66, t 67, t 68, t 69, t 70, t 71, t 72, t 73, t 74, t 75, t 76, t 77, t 78, t 79, t 80, t 81, t 82, t 83, t 84, t 85, t 86, t 87, t 88, t 89, t 90, t 91, t 92, t 93, t 94, t 95, t 96, t 97, t 98, t 99, t 100, t 101, t 102, t 103, t 104, t 105, t 106, t 107, t 108, t 109, t 110, t 111, t 112, t 113, t 114, t 115, t 116, t 117, t 118, t 119, t 120, t 121, t 122, t 123, t 124] := rfl
      (try dsimp only at e)
      rw [e4, e5, e31, e33, e34, e39, e40, e45, e46, e51, e52, e57, e58, e63, e64] at e; rw [e]; clear e e4 e5 e31 e33 e34 e39 e40 e45 e46 e51 e52 e57 e58 e63 e64
      refine wpOp_stepH rfl (fun K hK => ?_)
      go_simp
      refine (below_c sb 9 _ (F_.at 2 rfl : SeedAt _ sb) (by omega) (by omega)).mono ?_
      rintro e w74 ⟨r47, rfl, hr48, hs76, hg75⟩
      unfold belowR at hr48
      exact hK.out _ _ ⟨(by kernel_rfl), rfl, ⟨r41, r44, r47, (by first | assumption | omega), (by first | assumption | omega), (by first | assumption | omega), (by kernel_rfl), (by kernel_rfl), (by kernel_rfl), (by kernel_rfl), (by kernel_rfl), (by kernel_rfl), (by kernel_rfl), (by kernel_rfl), (by kernel_rfl), (by kernel_rfl), (by kernel_rfl), (by kernel_rfl), (by kernel_rfl), (by kernel_rfl), (by kernel_rfl)⟩, List.forall_mem_cons.2 ⟨(by kernel_rfl), fun _ h => (by cases h)⟩, ⟨F_.seedAt 2 rfl hg75 hs76, Nat.le_trans hwn_ hg75.size⟩, hSS _ _ ⟨F_.seedAt 2 rfl hg75 hs76, Nat.le_trans hwn_ hg75.size⟩⟩
    refine Chain.pureS 16 (fun t => ∃ (r41 : Int) (r44 : Int) (r47 : Int), (0 ≤ r41 ∧ (r41 < 20 ∨ r41 = 0)) ∧ (0 ≤ r44 ∧ (r44 < 20 ∨ r44 = 0)) ∧ (0 ≤ r47 ∧ (r47 < 9 ∨ r47 = 0)) ∧ t 4 = .pointer (some ⟨w9.heap.size, 0, none⟩) ∧ t 5 = .pointer (some ⟨w14.heap.size, 0, none⟩) ∧ t 31 = .agg #[.int .i64 (max 0 (tt.bl - r41)), .int .i64 (tt.bl + r44)] ∧ t 36 = .int .i64 (tt.wh - r47) ∧ t 39 = .int .i64 tt.wh ∧ t 40 = .pointer (some ⟨sb, 0, none⟩) ∧ t 45 = .int .i64 tt.we ∧ t 46 = .pointer (some ⟨sb, 0, none⟩) ∧ t 51 = .int .i64 tt.we ∧ t 52 = .pointer (some ⟨sb, 0, none⟩) ∧ t 57 = .int .i64 tt.sn ∧ t 58 = .pointer (some ⟨sb, 0, none⟩) ∧ t 63 = .int .i64 tt.sn ∧ t 64 = .pointer (some ⟨sb, 0, none⟩)) rfl (List.forall_mem_cons.2 ⟨fun _ _ u => u, fun _ h => (by cases h)⟩) hSS (by kernel_rfl) ?_ ?_
    · rintro t ⟨r41, r44, r47, hr42, hr45, hr48, e4, e5, e31, e33, e35, e39, e40, e45, e46, e51, e52, e57, e58, e63, e64⟩
      have e : ((List.range 125).map t).toArray = #[t 0, t 1, t 2, t 3, t 4, t 5, t 6, t 7, t 8, t 9, t 10, t 11, t 12, t 13, t 14, t 15, t 16, t 17, t 18, t 19, t 20, t 21, t 22, t 23, t 24, t 25, t 26, t 27, t 28, t 29, t 30, t 31, t 32, t 33, t 34, t 35, t 36, t 37, t 38, t 39, t 40, t 41, t 42, t 43, t 44, t 45, t 46, t 47, t 48, t 49, t 50, t 51, t 52, t 53, t 54, t 55, t 56, t 57, t 58, t 59, t 60, t 61, t 62, t 63, t 64, t 65, t 66, t 67, t 68, t 69, t 70, t 71, t 72, t 73, t 74, t 75, t 76, t 77, t 78, t 79, t 80, t 81, t 82, t 83, t 84, t 85, t 86, t 87, t 88, t 89, t 90, t 91, t 92, t 93, t 94, t 95, t 96, t 97, t 98, t 99, t 100, t 101, t 102, t 103, t 104, t 105, t 106, t 107, t 108, t 109, t 110, t 111, t 112, t 113, t 114, t 115, t 116, t 117, t 118, t 119, t 120, t 121, t 122, t 123, t 124] := rfl
      (try dsimp only at e)
      rw [e4, e5, e31, e33, e35, e39, e40, e45, e46, e51, e52, e57, e58, e63, e64] at e; rw [e]; clear e e4 e5 e31 e33 e35 e39 e40 e45 e46 e51 e52 e57 e58 e63 e64
      have hw49 : IntKind.i64.wrap (tt.wh - r47) = tt.wh - r47 := IntWalk.i64_in _ (by omega)
      refine ⟨.int .i64 (tt.wh - r47), .inl ⟨by first | kernel_rfl | rfl, ?_⟩, ⟨(by kernel_rfl), rfl⟩, ⟨r41, r44, r47, (by first | assumption | omega), (by first | assumption | omega), (by first | assumption | omega), (by kernel_rfl), (by kernel_rfl), (by kernel_rfl), (by kernel_rfl), (by kernel_rfl), (by kernel_rfl), (by kernel_rfl), (by kernel_rfl), (by kernel_rfl), (by kernel_rfl), (by kernel_rfl), (by kernel_rfl), (by kernel_rfl), (by kernel_rfl)⟩, List.forall_mem_cons.2 ⟨(by kernel_rfl), fun _ h => (by cases h)⟩⟩
      intro wS _
      go_simp
      (try with_reducible rfl)
    refine Chain.pureS 17 (fun t => ∃ (r41 : Int) (r44 : Int) (r47 : Int), (0 ≤ r41 ∧ (r41 < 20 ∨ r41 = 0)) ∧ (0 ≤ r44 ∧ (r44 < 20 ∨ r44 = 0)) ∧ (0 ≤ r47 ∧ (r47 < 9 ∨ r47 = 0)) ∧ t 4 = .pointer (some ⟨w9.heap.size, 0, none⟩) ∧ t 5 = .pointer (some ⟨w14.heap.size, 0, none⟩) ∧ t 31 = .agg #[.int .i64 (max 0 (tt.bl - r41)), .int .i64 (tt.bl + r44)] ∧ t 37 = .int .i64 (max 0 (tt.wh - r47)) ∧ t 39 = .int .i64 tt.wh ∧ t 40 = .pointer (some ⟨sb, 0, none⟩) ∧ t 45 = .int .i64 tt.we ∧ t 46 = .pointer (some ⟨sb, 0, none⟩) ∧ t 51 = .int .i64 tt.we ∧ t 52 = .pointer (some ⟨sb, 0, none⟩) ∧ t 57 = .int .i64 tt.sn ∧ t 58 = .pointer (some ⟨sb, 0, none⟩) ∧ t 63 = .int .i64 tt.sn ∧ t 64 = .pointer (some ⟨sb, 0, none⟩)) rfl (List.forall_mem_cons.2 ⟨fun _ _ u => u, fun _ h => (by cases h)⟩) hSS (by kernel_rfl) ?_ ?_
    · rintro t ⟨r41, r44, r47, hr42, hr45, hr48, e4, e5, e31, e36, e39, e40, e45, e46, e51, e52, e57, e58, e63, e64⟩
      have e : ((List.range 125).map t).toArray = #[t 0, t 1, t 2, t 3, t 4, t 5, t 6, t 7, t 8, t 9, t 10, t 11, t 12, t 13, t 14, t 15, t 16, t 17, t 18, t 19, t 20, t 21, t 22, t 23, t 24, t 25, t 26, t 27, t 28, t 29, t 30, t 31, t 32, t 33, t 34, t 35, t 36, t 37, t 38, t 39, t 40, t 41, t 42, t 43, t 44, t 45, t 46, t 47, t 48, t 49, t 50, t 51, t 52, t 53, t 54, t 55, t 56, t 57, t 58, t 59, t 60, t 61, t 62, t 63, t 64, t 65, t 66, t 67, t 68, t 69, t 70, t 71, t 72, t 73, t 74, t 75, t 76, t 77, t 78, t 79, t 80, t 81, t 82, t 83, t 84, t 85, t 86, t 87, t 88, t 89, t 90, t 91, t 92, t 93, t 94, t 95, t 96, t 97, t 98, t 99, t 100, t 101, t 102, t 103, t 104, t 105, t 106, t 107, t 108, t 109, t 110, t 111, t 112, t 113, t 114, t 115, t 116, t 117, t 118, t 119, t 120, t 121, t 122, t 123, t 124] := rfl
      (try dsimp only at e)
      rw [e4, e5, e31, e36, e39, e40, e45, e46, e51, e52, e57, e58, e63, e64] at e; rw [e]; clear e e4 e5 e31 e36 e39 e40 e45 e46 e51 e52 e57 e58 e63 e64
      refine ⟨.int .i64 (max 0 (tt.wh - r47)), .inl ⟨by first | kernel_rfl | rfl, ?_⟩, ⟨(by kernel_rfl), rfl⟩, ⟨r41, r44, r47, (by first | assumption | omega), (by first | assumption | omega), (by first | assumption | omega), (by kernel_rfl), (by kernel_rfl), (by kernel_rfl), (by kernel_rfl), (by kernel_rfl), (by kernel_rfl), (by kernel_rfl), (by kernel_rfl), (by kernel_rfl), (by kernel_rfl), (by kernel_rfl), (by kernel_rfl), (by kernel_rfl), (by kernel_rfl)⟩, List.forall_mem_cons.2 ⟨(by kernel_rfl), fun _ h => (by cases h)⟩⟩
      intro wS _
      go_simp
      (try with_reducible rfl)
    refine Chain.callS 21 (fun t => ∃ (r41 : Int) (r44 : Int) (r47 : Int) (r50 : Int), (0 ≤ r41 ∧ (r41 < 20 ∨ r41 = 0)) ∧ (0 ≤ r44 ∧ (r44 < 20 ∨ r44 = 0)) ∧ (0 ≤ r47 ∧ (r47 < 9 ∨ r47 = 0)) ∧ (0 ≤ r50 ∧ (r50 < 9 ∨ r50 = 0)) ∧ t 4 = .pointer (some ⟨w9.heap.size, 0, none⟩) ∧ t 5 = .pointer (some ⟨w14.heap.size, 0, none⟩) ∧ t 31 = .agg #[.int .i64 (max 0 (tt.bl - r41)), .int .i64 (tt.bl + r44)] ∧ t 37 = .int .i64 (max 0 (tt.wh - r47)) ∧ t 39 = .int .i64 tt.wh ∧ t 41 = .int .i64 r50 ∧ t 45 = .int .i64 tt.we ∧ t 46 = .pointer (some ⟨sb, 0, none⟩) ∧ t 51 = .int .i64 tt.we ∧ t 52 = .pointer (some ⟨sb, 0, none⟩) ∧ t 57 = .int .i64 tt.sn ∧ t 58 = .pointer (some ⟨sb, 0, none⟩) ∧ t 63 = .int .i64 tt.sn ∧ t 64 = .pointer (some ⟨sb, 0, none⟩)) (List.forall_mem_cons.2 ⟨fun _ _ u => u, fun _ h => (by cases h)⟩) hSS (by kernel_rfl) ?_ ?_
    · rintro t w_ LA ⟨r41, r44, r47, hr42, hr45, hr48, e4, e5, e31, e37, e39, e40, e45, e46, e51, e52, e57, e58, e63, e64⟩ ⟨F_, hwn_⟩
      have hws := F_.gb.size
      have e : ((List.range 125).map t).toArray = #[t 0, t 1, t 2, t 3, t 4, t 5, t 6, t 7, t 8, t 9, t 10, t 11, t 12, t 13, t 14, t 15, t 16, t 17, t 18, t 19, t 20, t 21, t 22, t 23, t 24, t 25, t 26, t 27, t 28, t 29, t 30, t 31, t 32, t 33, t 34, t 35, t 36, t 37, t 38, t 39, t 40, t 41, t 42, t 43, t 44, t 45, t 46, t 47, t 48, t 49, t 50, t 51, t 52, t 53, t 54, t 55, t 56, t 57, t 58, t 59, t 60, t 61, t 62, t 63, t 64, t 65, t 66, t 67, t 68, t 69, t 70, t 71, t 72, t 73, t 74, t 75, t 76, t 77, t 78, t 79, t 80, t 81, t 82, t 83, t 84, t 85, t 86, t 87, t 88, t 89, t 90, t 91, t 92, t 93, t 94, t 95, t 96, t 97, t 98, t 99, t 100, t 101, t 102, t 103, t 104, t 105, t 106, t 107, t 108, t 109, t 110, t 111, t 112, t 113, t 114, t 115, t 116, t 117, t 118, t 119, t 120, t 121, t 122, t 123, t 124] := rfl
      (try dsimp only at e)
      rw [e4, e5, e31, e37, e39, e40, e45, e46, e51, e52, e57, e58, e63, e64] at e; rw [e]; clear e e4 e5 e31 e37 e39 e40 e45 e46 e51 e52 e57 e58 e63 e64
      refine wpOp_stepH rfl (fun K hK => ?_)
      go_simp
      refine (below_c sb 9 _ (F_.at 2 rfl : SeedAt _ sb) (by omega) (by omega)).mono ?_
      rintro e w77 ⟨r50, rfl, hr51, hs79, hg78⟩
      unfold belowR at hr51
      exact hK.out _ _ ⟨(by kernel_rfl), rfl, ⟨r41, r44, r47, r50, (by first | assumption | omega), (by first | assumption | omega), (by first | assumption | omega), (by first | assumption | omega), (by kernel_rfl), (by kernel_rfl), (by kernel_rfl), (by kernel_rfl), (by kernel_rfl), (by kernel_rfl), (by kernel_rfl), (by kernel_rfl), (by kernel_rfl), (by kernel_rfl), (by kernel_rfl), (by kernel_rfl), (by kernel_rfl), (by kernel_rfl)⟩, List.forall_mem_cons.2 ⟨(by kernel_rfl), fun _ h => (by cases h)⟩, ⟨F_.seedAt 2 rfl hg78 hs79, Nat.le_trans hwn_ hg78.size⟩, hSS _ _ ⟨F_.seedAt 2 rfl hg78 hs79, Nat.le_trans hwn_ hg78.size⟩⟩
    refine Chain.pureS 22 (fun t => ∃ (r41 : Int) (r44 : Int) (r47 : Int) (r50 : Int), (0 ≤ r41 ∧ (r41 < 20 ∨ r41 = 0)) ∧ (0 ≤ r44 ∧ (r44 < 20 ∨ r44 = 0)) ∧ (0 ≤ r47 ∧ (r47 < 9 ∨ r47 = 0)) ∧ (0 ≤ r50 ∧ (r50 < 9 ∨ r50 = 0)) ∧ t 4 = .pointer (some ⟨w9.heap.size, 0, none⟩) ∧ t 5 = .pointer (some ⟨w14.heap.size, 0, none⟩) ∧ t 31 = .agg #[.int .i64 (max 0 (tt.bl - r41)), .int .i64 (tt.bl + r44)] ∧ t 37 = .int .i64 (max 0 (tt.wh - r47)) ∧ t 42 = .int .i64 (tt.wh + r50) ∧ t 45 = .int .i64 tt.we ∧ t 46 = .pointer (some ⟨sb, 0, none⟩) ∧ t 51 = .int .i64 tt.we ∧ t 52 = .pointer (some ⟨sb, 0, none⟩) ∧ t 57 = .int .i64 tt.sn ∧ t 58 = .pointer (some ⟨sb, 0, none⟩) ∧ t 63 = .int .i64 tt.sn ∧ t 64 = .pointer (some ⟨sb, 0, none⟩)) rfl (List.forall_mem_cons.2 ⟨fun _ _ u => u, fun _ h => (by cases h)⟩) hSS (by kernel_rfl) ?_ ?_
    · rintro t ⟨r41, r44, r47, r50, hr42, hr45, hr48, hr51, e4, e5, e31, e37, e39, e41, e45, e46, e51, e52, e57, e58, e63, e64⟩
      have e : ((List.range 125).map t).toArray = #[t 0, t 1, t 2, t 3, t 4, t 5, t 6, t 7, t 8, t 9, t 10, t 11, t 12, t 13, t 14, t 15, t 16, t 17, t 18, t 19, t 20, t 21, t 22, t 23, t 24, t 25, t 26, t 27, t 28, t 29, t 30, t 31, t 32, t 33, t 34, t 35, t 36, t 37, t 38, t 39, t 40, t 41, t 42, t 43, t 44, t 45, t 46, t 47, t 48, t 49, t 50, t 51, t 52, t 53, t 54, t 55, t 56, t 57, t 58, t 59, t 60, t 61, t 62, t 63, t 64, t 65, t 66, t 67, t 68, t 69, t 70, t 71, t 72, t 73, t 74, t 75, t 76, t 77, t 78, t 79, t 80, t 81, t 82, t 83, t 84, t 85, t 86, t 87, t 88, t 89, t 90, t 91, t 92, t 93, t 94, t 95, t 96, t 97, t 98, t 99, t 100, t 101, t 102, t 103, t 104, t 105, t 106, t 107, t 108, t 109, t 110, t 111, t 112, t 113, t 114, t 115, t 116, t 117, t 118, t 119, t 120, t 121, t 122, t 123, t 124] := rfl
      (try dsimp only at e)
      rw [e4, e5, e31, e37, e39, e41, e45, e46, e51, e52, e57, e58, e63, e64] at e; rw [e]; clear e e4 e5 e31 e37 e39 e41 e45 e46 e51 e52 e57 e58 e63 e64
      have hw52 : IntKind.i64.wrap (tt.wh + r50) = tt.wh + r50 := IntWalk.i64_in _ (by omega)
      refine ⟨.int .i64 (tt.wh + r50), .inl ⟨by first | kernel_rfl | rfl, ?_⟩, ⟨(by kernel_rfl), rfl⟩, ⟨r41, r44, r47, r50, (by first | assumption | omega), (by first | assumption | omega), (by first | assumption | omega), (by first | assumption | omega), (by kernel_rfl), (by kernel_rfl), (by kernel_rfl), (by kernel_rfl), (by kernel_rfl), (by kernel_rfl), (by kernel_rfl), (by kernel_rfl), (by kernel_rfl), (by kernel_rfl), (by kernel_rfl), (by kernel_rfl), (by kernel_rfl)⟩, List.forall_mem_cons.2 ⟨(by kernel_rfl), fun _ h => (by cases h)⟩⟩
      intro wS _
      go_simp
      (try with_reducible rfl)
    refine Chain.callS 23 (fun t => ∃ (r41 : Int) (r44 : Int) (r47 : Int) (r50 : Int), (0 ≤ r41 ∧ (r41 < 20 ∨ r41 = 0)) ∧ (0 ≤ r44 ∧ (r44 < 20 ∨ r44 = 0)) ∧ (0 ≤ r47 ∧ (r47 < 9 ∨ r47 = 0)) ∧ (0 ≤ r50 ∧ (r50 < 9 ∨ r50 = 0)) ∧ t 4 = .pointer (some ⟨w9.heap.size, 0, none⟩) ∧ t 5 = .pointer (some ⟨w14.heap.size, 0, none⟩) ∧ t 31 = .agg #[.int .i64 (max 0 (tt.bl - r41)), .int .i64 (tt.bl + r44)] ∧ t 43 = .agg #[.int .i64 (max 0 (tt.wh - r47)), .int .i64 (tt.wh + r50)] ∧ t 45 = .int .i64 tt.we ∧ t 46 = .pointer (some ⟨sb, 0, none⟩) ∧ t 51 = .int .i64 tt.we ∧ t 52 = .pointer (some ⟨sb, 0, none⟩) ∧ t 57 = .int .i64 tt.sn ∧ t 58 = .pointer (some ⟨sb, 0, none⟩) ∧ t 63 = .int .i64 tt.sn ∧ t 64 = .pointer (some ⟨sb, 0, none⟩)) (List.forall_mem_cons.2 ⟨fun _ _ u => u, fun _ h => (by cases h)⟩) hSS (by kernel_rfl) ?_ ?_
    · rintro t w_ LA ⟨r41, r44, r47, r50, hr42, hr45, hr48, hr51, e4, e5, e31, e37, e42, e45, e46, e51, e52, e57, e58, e63, e64⟩ ⟨F_, hwn_⟩
      have hws := F_.gb.size
      have e : ((List.range 125).map t).toArray = #[t 0, t 1, t 2, t 3, t 4, t 5, t 6, t 7, t 8, t 9, t 10, t 11, t 12, t 13, t 14, t 15, t 16, t 17, t 18, t 19, t 20, t 21, t 22, t 23, t 24, t 25, t 26, t 27, t 28, t 29, t 30, t 31, t 32, t 33, t 34, t 35, t 36, t 37, t 38, t 39, t 40, t 41, t 42, t 43, t 44, t 45, t 46, t 47, t 48, t 49, t 50, t 51, t 52, t 53, t 54, t 55, t 56, t 57, t 58, t 59, t 60, t 61, t 62, t 63, t 64, t 65, t 66, t 67, t 68, t 69, t 70, t 71, t 72, t 73, t 74, t 75, t 76, t 77, t 78, t 79, t 80, t 81, t 82, t 83, t 84, t 85, t 86, t 87, t 88, t 89, t 90, t 91, t 92, t 93, t 94, t 95, t 96, t 97, t 98, t 99, t 100, t 101, t 102, t 103, t 104, t 105, t 106, t 107, t 108, t 109, t 110, t 111, t 112, t 113, t 114, t 115, t 116, t 117, t 118, t 119, t 120, t 121, t 122, t 123, t 124] := rfl
      (try dsimp only at e)
      rw [e4, e5, e31, e37, e42, e45, e46, e51, e52, e57, e58, e63, e64] at e; rw [e]; clear e e4 e5 e31 e37 e42 e45 e46 e51 e52 e57 e58 e63 e64
      refine wpOp_stepH rfl (fun K hK => ?_)
      go_simp
      refine (span_c (max 0 (tt.wh - r47)) (tt.wh + r50) _).mono ?_
      rintro e w80 ⟨rfl, hg81⟩
      exact hK.out _ _ ⟨(by kernel_rfl), rfl, ⟨r41, r44, r47, r50, (by first | assumption | omega), (by first | assumption | omega), (by first | assumption | omega), (by first | assumption | omega), (by kernel_rfl), (by kernel_rfl), (by kernel_rfl), (by kernel_rfl), (by kernel_rfl), (by kernel_rfl), (by kernel_rfl), (by kernel_rfl), (by kernel_rfl), (by kernel_rfl), (by kernel_rfl), (by kernel_rfl)⟩, List.forall_mem_cons.2 ⟨(by kernel_rfl), fun _ h => (by cases h)⟩, ⟨F_.gn hg81, Nat.le_trans hwn_ hg81.size⟩, hSS _ _ ⟨F_.gn hg81, Nat.le_trans hwn_ hg81.size⟩⟩
    refine Chain.callS 27 (fun t => ∃ (r41 : Int) (r44 : Int) (r47 : Int) (r50 : Int) (r53 : Int), (0 ≤ r41 ∧ (r41 < 20 ∨ r41 = 0)) ∧ (0 ≤ r44 ∧ (r44 < 20 ∨ r44 = 0)) ∧ (0 ≤ r47 ∧ (r47 < 9 ∨ r47 = 0)) ∧ (0 ≤ r50 ∧ (r50 < 9 ∨ r50 = 0)) ∧ (0 ≤ r53 ∧ (r53 < 3 ∨ r53 = 0)) ∧ t 4 = .pointer (some ⟨w9.heap.size, 0, none⟩) ∧ t 5 = .pointer (some ⟨w14.heap.size, 0, none⟩) ∧ t 31 = .agg #[.int .i64 (max 0 (tt.bl - r41)), .int .i64 (tt.bl + r44)] ∧ t 43 = .agg #[.int .i64 (max 0 (tt.wh - r47)), .int .i64 (tt.wh + r50)] ∧ t 45 = .int .i64 tt.we ∧ t 47 = .int .i64 r53 ∧ t 51 = .int .i64 tt.we ∧ t 52 = .pointer (some ⟨sb, 0, none⟩) ∧ t 57 = .int .i64 tt.sn ∧ t 58 = .pointer (some ⟨sb, 0, none⟩) ∧ t 63 = .int .i64 tt.sn ∧ t 64 = .pointer (some ⟨sb, 0, none⟩)) (List.forall_mem_cons.2 ⟨fun _ _ u => u, fun _ h => (by cases h)⟩) hSS (by kernel_rfl) ?_ ?_
    · rintro t w_ LA ⟨r41, r44, r47, r50, hr42, hr45, hr48, hr51, e4, e5, e31, e43, e45, e46, e51, e52, e57, e58, e63, e64⟩ ⟨F_, hwn_⟩
      have hws := F_.gb.size
      have e : ((List.range 125).map t).toArray = #[t 0, t 1, t 2, t 3, t 4, t 5, t 6, t 7, t 8, t 9, t 10, t 11, t 12, t 13, t 14, t 15, t 16, t 17, t 18, t 19, t 20, t 21, t 22, t 23, t 24, t 25, t 26, t 27, t 28, t 29, t 30, t 31, t 32, t 33, t 34, t 35, t 36, t 37, t 38, t 39, t 40, t 41, t 42, t 43, t 44, t 45, t 46, t 47, t 48, t 49, t 50, t 51, t 52, t 53, t 54, t 55, t 56, t 57, t 58, t 59, t 60, t 61, t 62, t 63, t 64, t 65, t 66, t 67, t 68, t 69, t 70, t 71, t 72, t 73, t 74, t 75, t 76, t 77, t 78, t 79, t 80, t 81, t 82, t 83, t 84, t 85, t 86, t 87, t 88, t 89, t 90, t 91, t 92, t 93, t 94, t 95, t 96, t 97, t 98, t 99, t 100, t 101, t 102, t 103, t 104, t 105, t 106, t 107, t 108, t 109, t 110, t 111, t 112, t 113, t 114, t 115, t 116, t 117, t 118, t 119, t 120, t 121, t 122, t 123, t 124] := rfl
      (try dsimp only at e)
      rw [e4, e5, e31, e43, e45, e46, e51, e52, e57, e58, e63, e64] at e; rw [e]; clear e e4 e5 e31 e43 e45 e46 e51 e52 e57 e58 e63 e64
      refine wpOp_stepH rfl (fun K hK => ?_)
      go_simp
      refine (below_c sb 3 _ (F_.at 2 rfl : SeedAt _ sb) (by omega) (by omega)).mono ?_
      rintro e w83 ⟨r53, rfl, hr54, hs85, hg84⟩
      unfold belowR at hr54
      exact hK.out _ _ ⟨(by kernel_rfl), rfl, ⟨r41, r44, r47, r50, r53, (by first | assumption | omega), (by first | assumption | omega), (by first | assumption | omega), (by first | assumption | omega), (by first | assumption | omega), (by kernel_rfl), (by kernel_rfl), (by kernel_rfl), (by kernel_rfl), (by kernel_rfl), (by kernel_rfl), (by kernel_rfl), (by kernel_rfl), (by kernel_rfl), (by kernel_rfl), (by kernel_rfl), (by kernel_rfl)⟩, List.forall_mem_cons.2 ⟨(by kernel_rfl), fun _ h => (by cases h)⟩, ⟨F_.seedAt 2 rfl hg84 hs85, Nat.le_trans hwn_ hg84.size⟩, hSS _ _ ⟨F_.seedAt 2 rfl hg84 hs85, Nat.le_trans hwn_ hg84.size⟩⟩
    refine Chain.pureS 28 (fun t => ∃ (r41 : Int) (r44 : Int) (r47 : Int) (r50 : Int) (r53 : Int), (0 ≤ r41 ∧ (r41 < 20 ∨ r41 = 0)) ∧ (0 ≤ r44 ∧ (r44 < 20 ∨ r44 = 0)) ∧ (0 ≤ r47 ∧ (r47 < 9 ∨ r47 = 0)) ∧ (0 ≤ r50 ∧ (r50 < 9 ∨ r50 = 0)) ∧ (0 ≤ r53 ∧ (r53 < 3 ∨ r53 = 0)) ∧ t 4 = .pointer (some ⟨w9.heap.size, 0, none⟩) ∧ t 5 = .pointer (some ⟨w14.heap.size, 0, none⟩) ∧ t 31 = .agg #[.int .i64 (max 0 (tt.bl - r41)), .int .i64 (tt.bl + r44)] ∧ t 43 = .agg #[.int .i64 (max 0 (tt.wh - r47)), .int .i64 (tt.wh + r50)] ∧ t 48 = .int .i64 (tt.we - r53) ∧ t 51 = .int .i64 tt.we ∧ t 52 = .pointer (some ⟨sb, 0, none⟩) ∧ t 57 = .int .i64 tt.sn ∧ t 58 = .pointer (some ⟨sb, 0, none⟩) ∧ t 63 = .int .i64 tt.sn ∧ t 64 = .pointer (some ⟨sb, 0, none⟩)) rfl (List.forall_mem_cons.2 ⟨fun _ _ u => u, fun _ h => (by cases h)⟩) hSS (by kernel_rfl) ?_ ?_
    · rintro t ⟨r41, r44, r47, r50, r53, hr42, hr45, hr48, hr51, hr54, e4, e5, e31, e43, e45, e47, e51, e52, e57, e58, e63, e64⟩
      have e : ((List.range 125).map t).toArray = #[t 0, t 1, t 2, t 3, t 4, t 5, t 6, t 7, t 8, t 9, t 10, t 11, t 12, t 13, t 14, t 15, t 16, t 17, t 18, t 19, t 20, t 21, t 22, t 23, t 24, t 25, t 26, t 27, t 28, t 29, t 30, t 31, t 32, t 33, t 34, t 35, t 36, t 37, t 38, t 39, t 40, t 41, t 42, t 43, t 44, t 45, t 46, t 47, t 48, t 49, t 50, t 51, t 52, t 53, t 54, t 55, t 56, t 57, t 58, t 59, t 60, t 61, t 62, t 63, t 64, t 65, t 66, t 67, t 68, t 69, t 70, t 71, t 72, t 73, t 74, t 75, t 76, t 77, t 78, t 79, t 80, t 81, t 82, t 83, t 84, t 85, t 86, t 87, t 88, t 89, t 90, t 91, t 92, t 93, t 94, t 95, t 96, t 97, t 98, t 99, t 100, t 101, t 102, t 103, t 104, t 105, t 106, t 107, t 108, t 109, t 110, t 111, t 112, t 113, t 114, t 115, t 116, t 117, t 118, t 119, t 120, t 121, t 122, t 123, t 124] := rfl
      (try dsimp only at e)
      rw [e4, e5, e31, e43, e45, e47, e51, e52, e57, e58, e63, e64] at e; rw [e]; clear e e4 e5 e31 e43 e45 e47 e51 e52 e57 e58 e63 e64
      have hw55 : IntKind.i64.wrap (tt.we - r53) = tt.we - r53 := IntWalk.i64_in _ (by omega)
      refine ⟨.int .i64 (tt.we - r53), .inl ⟨by first | kernel_rfl | rfl, ?_⟩, ⟨(by kernel_rfl), rfl⟩, ⟨r41, r44, r47, r50, r53, (by first | assumption | omega), (by first | assumption | omega), (by first | assumption | omega), (by first | assumption | omega), (by first | assumption | omega), (by kernel_rfl), (by kernel_rfl), (by kernel_rfl), (by kernel_rfl), (by kernel_rfl), (by kernel_rfl), (by kernel_rfl), (by kernel_rfl), (by kernel_rfl), (by kernel_rfl), (by kernel_rfl)⟩, List.forall_mem_cons.2 ⟨(by kernel_rfl), fun _ h => (by cases h)⟩⟩
      intro wS _
      go_simp
      (try with_reducible rfl)
    refine Chain.pureS 29 (fun t => ∃ (r41 : Int) (r44 : Int) (r47 : Int) (r50 : Int) (r53 : Int), (0 ≤ r41 ∧ (r41 < 20 ∨ r41 = 0)) ∧ (0 ≤ r44 ∧ (r44 < 20 ∨ r44 = 0)) ∧ (0 ≤ r47 ∧ (r47 < 9 ∨ r47 = 0)) ∧ (0 ≤ r50 ∧ (r50 < 9 ∨ r50 = 0)) ∧ (0 ≤ r53 ∧ (r53 < 3 ∨ r53 = 0)) ∧ t 4 = .pointer (some ⟨w9.heap.size, 0, none⟩) ∧ t 5 = .pointer (some ⟨w14.heap.size, 0, none⟩) ∧ t 31 = .agg #[.int .i64 (max 0 (tt.bl - r41)), .int .i64 (tt.bl + r44)] ∧ t 43 = .agg #[.int .i64 (max 0 (tt.wh - r47)), .int .i64 (tt.wh + r50)] ∧ t 49 = .int .i64 (max 0 (tt.we - r53)) ∧ t 51 = .int .i64 tt.we ∧ t 52 = .pointer (some ⟨sb, 0, none⟩) ∧ t 57 = .int .i64 tt.sn ∧ t 58 = .pointer (some ⟨sb, 0, none⟩) ∧ t 63 = .int .i64 tt.sn ∧ t 64 = .pointer (some ⟨sb, 0, none⟩)) rfl (List.forall_mem_cons.2 ⟨fun _ _ u => u, fun _ h => (by cases h)⟩) hSS (by kernel_rfl) ?_ ?_
    · rintro t ⟨r41, r44, r47, r50, r53, hr42, hr45, hr48, hr51, hr54, e4, e5, e31, e43, e48, e51, e52, e57, e58, e63, e64⟩
      have e : ((List.range 125).map t).toArray = #[t 0, t 1, t 2, t 3, t 4, t 5, t 6, t 7, t 8, t 9, t 10, t 11, t 12, t 13, t 14, t 15, t 16, t 17, t 18, t 19, t 20, t 21, t 22, t 23, t 24, t 25, t 26, t 27, t 28, t 29, t 30, t 31, t 32, t 33, t 34, t 35, t 36, t 37, t 38, t 39, t 40, t 41, t 42, t 43, t 44, t 45, t 46, t 47, t 48, t 49, t 50, t 51, t 52, t 53, t 54, t 55, t 56, t 57, t 58, t 59, t 60, t 61, t 62, t 63, t 64, t 65, t 66, t 67, t 68, t 69, t 70, t 71, t 72, t 73, t 74, t 75, t 76, t 77, t 78, t 79, t 80, t 81, t 82, t 83, t 84, t 85, t 86, t 87, t 88, t 89, t 90, t 91, t 92, t 93, t 94, t 95, t 96, t 97, t 98, t 99, t 100, t 101, t 102, t 103, t 104, t 105, t 106, t 107, t 108, t 109, t 110, t 111, t 112, t 113, t 114, t 115, t 116, t 117, t 118, t 119, t 120, t 121, t 122, t 123, t 124] := rfl
      (try dsimp only at e)
      rw [e4, e5, e31, e43, e48, e51, e52, e57, e58, e63, e64] at e; rw [e]; clear e e4 e5 e31 e43 e48 e51 e52 e57 e58 e63 e64
      refine ⟨.int .i64 (max 0 (tt.we - r53)), .inl ⟨by first | kernel_rfl | rfl, ?_⟩, ⟨(by kernel_rfl), rfl⟩, ⟨r41, r44, r47, r50, r53, (by first | assumption | omega), (by first | assumption | omega), (by first | assumption | omega), (by first | assumption | omega), (by first | assumption | omega), (by kernel_rfl), (by kernel_rfl), (by kernel_rfl), (by kernel_rfl), (by kernel_rfl), (by kernel_rfl), (by kernel_rfl), (by kernel_rfl), (by kernel_rfl), (by kernel_rfl), (by kernel_rfl)⟩, List.forall_mem_cons.2 ⟨(by kernel_rfl), fun _ h => (by cases h)⟩⟩
      intro wS _
      go_simp
      (try with_reducible rfl)
    refine Chain.callS 33 (fun t => ∃ (r41 : Int) (r44 : Int) (r47 : Int) (r50 : Int) (r53 : Int) (r56 : Int), (0 ≤ r41 ∧ (r41 < 20 ∨ r41 = 0)) ∧ (0 ≤ r44 ∧ (r44 < 20 ∨ r44 = 0)) ∧ (0 ≤ r47 ∧ (r47 < 9 ∨ r47 = 0)) ∧ (0 ≤ r50 ∧ (r50 < 9 ∨ r50 = 0)) ∧ (0 ≤ r53 ∧ (r53 < 3 ∨ r53 = 0)) ∧ (0 ≤ r56 ∧ (r56 < 3 ∨ r56 = 0)) ∧ t 4 = .pointer (some ⟨w9.heap.size, 0, none⟩) ∧ t 5 = .pointer (some ⟨w14.heap.size, 0, none⟩) ∧ t 31 = .agg #[.int .i64 (max 0 (tt.bl - r41)), .int .i64 (tt.bl + r44)] ∧ t 43 = .agg #[.int .i64 (max 0 (tt.wh - r47)), .int .i64 (tt.wh + r50)] ∧ t 49 = .int .i64 (max 0 (tt.we - r53)) ∧ t 51 = .int .i64 tt.we ∧ t 53 = .int .i64 r56 ∧ t 57 = .int .i64 tt.sn ∧ t 58 = .pointer (some ⟨sb, 0, none⟩) ∧ t 63 = .int .i64 tt.sn ∧ t 64 = .pointer (some ⟨sb, 0, none⟩)) (List.forall_mem_cons.2 ⟨fun _ _ u => u, fun _ h => (by cases h)⟩) hSS (by kernel_rfl) ?_ ?_
    · rintro t w_ LA ⟨r41, r44, r47, r50, r53, hr42, hr45, hr48, hr51, hr54, e4, e5, e31, e43, e49, e51, e52, e57, e58, e63, e64⟩ ⟨F_, hwn_⟩
      have hws := F_.gb.size
      have e : ((List.range 125).map t).toArray = #[t 0, t 1, t 2, t 3, t 4, t 5, t 6, t 7, t 8, t 9, t 10, t 11, t 12, t 13, t 14, t 15, t 16, t 17, t 18, t 19, t 20, t 21, t 22, t 23, t 24, t 25, t 26, t 27, t 28, t 29, t 30, t 31, t 32, t 33, t 34, t 35, t 36, t 37, t 38, t 39, t 40, t 41, t 42, t 43, t 44, t 45, t 46, t 47, t 48, t 49, t 50, t 51, t 52, t 53, t 54, t 55, t 56, t 57, t 58, t 59, t 60, t 61, t 62, t 63, t 64, t 65, t 66, t 67, t 68, t 69, t 70, t 71, t 72, t 73, t 74, t 75, t 76, t 77, t 78, t 79, t 80, t 81, t 82, t 83, t 84, t 85, t 86, t 87, t 88, t 89, t 90, t 91, t 92, t 93, t 94, t 95, t 96, t 97, t 98, t 99, t 100, t 101, t 102, t 103, t 104, t 105, t 106, t 107, t 108, t 109, t 110, t 111, t 112, t 113, t 114, t 115, t 116, t 117, t 118, t 119, t 120, t 121, t 122, t 123, t 124] := rfl
      (try dsimp only at e)
      rw [e4, e5, e31, e43, e49, e51, e52, e57, e58, e63, e64] at e; rw [e]; clear e e4 e5 e31 e43 e49 e51 e52 e57 e58 e63 e64
      refine wpOp_stepH rfl (fun K hK => ?_)
      go_simp
      refine (below_c sb 3 _ (F_.at 2 rfl : SeedAt _ sb) (by omega) (by omega)).mono ?_
      rintro e w86 ⟨r56, rfl, hr57, hs88, hg87⟩
      unfold belowR at hr57
      exact hK.out _ _ ⟨(by kernel_rfl), rfl, ⟨r41, r44, r47, r50, r53, r56, (by first | assumption | omega), (by first | assumption | omega), (by first | assumption | omega), (by first | assumption | omega), (by first | assumption | omega), (by first | assumption | omega), (by kernel_rfl), (by kernel_rfl), (by kernel_rfl), (by kernel_rfl), (by kernel_rfl), (by kernel_rfl), (by kernel_rfl), (by kernel_rfl), (by kernel_rfl), (by kernel_rfl), (by kernel_rfl)⟩, List.forall_mem_cons.2 ⟨(by kernel_rfl), fun _ h => (by cases h)⟩, ⟨F_.seedAt 2 rfl hg87 hs88, Nat.le_trans hwn_ hg87.size⟩, hSS _ _ ⟨F_.seedAt 2 rfl hg87 hs88, Nat.le_trans hwn_ hg87.size⟩⟩
    refine Chain.pureS 34 (fun t => ∃ (r41 : Int) (r44 : Int) (r47 : Int) (r50 : Int) (r53 : Int) (r56 : Int), (0 ≤ r41 ∧ (r41 < 20 ∨ r41 = 0)) ∧ (0 ≤ r44 ∧ (r44 < 20 ∨ r44 = 0)) ∧ (0 ≤ r47 ∧ (r47 < 9 ∨ r47 = 0)) ∧ (0 ≤ r50 ∧ (r50 < 9 ∨ r50 = 0)) ∧ (0 ≤ r53 ∧ (r53 < 3 ∨ r53 = 0)) ∧ (0 ≤ r56 ∧ (r56 < 3 ∨ r56 = 0)) ∧ t 4 = .pointer (some ⟨w9.heap.size, 0, none⟩) ∧ t 5 = .pointer (some ⟨w14.heap.size, 0, none⟩) ∧ t 31 = .agg #[.int .i64 (max 0 (tt.bl - r41)), .int .i64 (tt.bl + r44)] ∧ t 43 = .agg #[.int .i64 (max 0 (tt.wh - r47)), .int .i64 (tt.wh + r50)] ∧ t 49 = .int .i64 (max 0 (tt.we - r53)) ∧ t 54 = .int .i64 (tt.we + r56) ∧ t 57 = .int .i64 tt.sn ∧ t 58 = .pointer (some ⟨sb, 0, none⟩) ∧ t 63 = .int .i64 tt.sn ∧ t 64 = .pointer (some ⟨sb, 0, none⟩)) rfl (List.forall_mem_cons.2 ⟨fun _ _ u => u, fun _ h => (by cases h)⟩) hSS (by kernel_rfl) ?_ ?_
    · rintro t ⟨r41, r44, r47, r50, r53, r56, hr42, hr45, hr48, hr51, hr54, hr57, e4, e5, e31, e43, e49, e51, e53, e57, e58, e63, e64⟩
      have e : ((List.range 125).map t).toArray = #[t 0, t 1, t 2, t 3, t 4, t 5, t 6, t 7, t 8, t 9, t 10, t 11, t 12, t 13, t 14, t 15, t 16, t 17, t 18, t 19, t 20, t 21, t 22, t 23, t 24, t 25, t 26, t 27, t 28, t 29, t 30, t 31, t 32, t 33, t 34, t 35, t 36, t 37, t 38, t 39, t 40, t 41, t 42, t 43, t 44, t 45, t 46, t 47, t 48, t 49, t 50, t 51, t 52, t 53, t 54, t 55, t 56, t 57, t 58, t 59, t 60, t 61, t 62, t 63, t 64, t 65, t 66, t 67, t 68, t 69, t 70, t 71, t 72, t 73, t 74, t 75, t 76, t 77, t 78, t 79, t 80, t 81, t 82, t 83, t 84, t 85, t 86, t 87, t 88, t 89, t 90, t 91, t 92, t 93, t 94, t 95, t 96, t 97, t 98, t 99, t 100, t 101, t 102, t 103, t 104, t 105, t 106, t 107, t 108, t 109, t 110, t 111, t 112, t 113, t 114, t 115, t 116, t 117, t 118, t 119, t 120, t 121, t 122, t 123, t 124] := rfl
      (try dsimp only at e)
      rw [e4, e5, e31, e43, e49, e51, e53, e57, e58, e63, e64] at e; rw [e]; clear e e4 e5 e31 e43 e49 e51 e53 e57 e58 e63 e64
      have hw58 : IntKind.i64.wrap (tt.we + r56) = tt.we + r56 := IntWalk.i64_in _ (by omega)
      refine ⟨.int .i64 (tt.we + r56), .inl ⟨by first | kernel_rfl | rfl, ?_⟩, ⟨(by kernel_rfl), rfl⟩, ⟨r41, r44, r47, r50, r53, r56, (by first | assumption | omega), (by first | assumption | omega), (by first | assumption | omega), (by first | assumption | omega), (by first | assumption | omega), (by first | assumption | omega), (by kernel_rfl), (by kernel_rfl), (by kernel_rfl), (by kernel_rfl), (by kernel_rfl), (by kernel_rfl), (by kernel_rfl), (by kernel_rfl), (by kernel_rfl), (by kernel_rfl)⟩, List.forall_mem_cons.2 ⟨(by kernel_rfl), fun _ h => (by cases h)⟩⟩
      intro wS _
      go_simp
      (try with_reducible rfl)
    refine Chain.callS 35 (fun t => ∃ (r41 : Int) (r44 : Int) (r47 : Int) (r50 : Int) (r53 : Int) (r56 : Int), (0 ≤ r41 ∧ (r41 < 20 ∨ r41 = 0)) ∧ (0 ≤ r44 ∧ (r44 < 20 ∨ r44 = 0)) ∧ (0 ≤ r47 ∧ (r47 < 9 ∨ r47 = 0)) ∧ (0 ≤ r50 ∧ (r50 < 9 ∨ r50 = 0)) ∧ (0 ≤ r53 ∧ (r53 < 3 ∨ r53 = 0)) ∧ (0 ≤ r56 ∧ (r56 < 3 ∨ r56 = 0)) ∧ t 4 = .pointer (some ⟨w9.heap.size, 0, none⟩) ∧ t 5 = .pointer (some ⟨w14.heap.size, 0, none⟩) ∧ t 31 = .agg #[.int .i64 (max 0 (tt.bl - r41)), .int .i64 (tt.bl + r44)] ∧ t 43 = .agg #[.int .i64 (max 0 (tt.wh - r47)), .int .i64 (tt.wh + r50)] ∧ t 55 = .agg #[.int .i64 (max 0 (tt.we - r53)), .int .i64 (tt.we + r56)] ∧ t 57 = .int .i64 tt.sn ∧ t 58 = .pointer (some ⟨sb, 0, none⟩) ∧ t 63 = .int .i64 tt.sn ∧ t 64 = .pointer (some ⟨sb, 0, none⟩)) (List.forall_mem_cons.2 ⟨fun _ _ u => u, fun _ h => (by cases h)⟩) hSS (by kernel_rfl) ?_ ?_
    · rintro t w_ LA ⟨r41, r44, r47, r50, r53, r56, hr42, hr45, hr48, hr51, hr54, hr57, e4, e5, e31, e43, e49, e54, e57, e58, e63, e64⟩ ⟨F_, hwn_⟩
      have hws := F_.gb.size
      have e : ((List.range 125).map t).toArray = #[t 0, t 1, t 2, t 3, t 4, t 5, t 6, t 7, t 8, t 9, t 10, t 11, t 12, t 13, t 14, t 15, t 16, t 17, t 18, t 19, t 20, t 21, t 22, t 23, t 24, t 25, t 26, t 27, t 28, t 29, t 30, t 31, t 32, t 33, t 34, t 35, t 36, t 37, t 38, t 39, t 40, t 41, t 42, t 43, t 44, t 45, t 46, t 47, t 48, t 49, t 50, t 51, t 52, t 53, t 54, t 55, t 56, t 57, t 58, t 59, t 60, t 61, t 62, t 63, t 64, t 65, t 66, t 67, t 68, t 69, t 70, t 71, t 72, t 73, t 74, t 75, t 76, t 77, t 78, t 79, t 80, t 81, t 82, t 83, t 84, t 85, t 86, t 87, t 88, t 89, t 90, t 91, t 92, t 93, t 94, t 95, t 96, t 97, t 98, t 99, t 100, t 101, t 102, t 103, t 104, t 105, t 106, t 107, t 108, t 109, t 110, t 111, t 112, t 113, t 114, t 115, t 116, t 117, t 118, t 119, t 120, t 121, t 122, t 123, t 124] := rfl
      (try dsimp only at e)
      rw [e4, e5, e31, e43, e49, e54, e57, e58, e63, e64] at e; rw [e]; clear e e4 e5 e31 e43 e49 e54 e57 e58 e63 e64
      refine wpOp_stepH rfl (fun K hK => ?_)
      go_simp
      refine (span_c (max 0 (tt.we - r53)) (tt.we + r56) _).mono ?_
      rintro e w89 ⟨rfl, hg90⟩
      exact hK.out _ _ ⟨(by kernel_rfl), rfl, ⟨r41, r44, r47, r50, r53, r56, (by first | assumption | omega), (by first | assumption | omega), (by first | assumption | omega), (by first | assumption | omega), (by first | assumption | omega), (by first | assumption | omega), (by kernel_rfl), (by kernel_rfl), (by kernel_rfl), (by kernel_rfl), (by kernel_rfl), (by kernel_rfl), (by kernel_rfl), (by kernel_rfl), (by kernel_rfl)⟩, List.forall_mem_cons.2 ⟨(by kernel_rfl), fun _ h => (by cases h)⟩, ⟨F_.gn hg90, Nat.le_trans hwn_ hg90.size⟩, hSS _ _ ⟨F_.gn hg90, Nat.le_trans hwn_ hg90.size⟩⟩
    refine Chain.callS 39 (fun t => ∃ (r41 : Int) (r44 : Int) (r47 : Int) (r50 : Int) (r53 : Int) (r56 : Int) (r59 : Int), (0 ≤ r41 ∧ (r41 < 20 ∨ r41 = 0)) ∧ (0 ≤ r44 ∧ (r44 < 20 ∨ r44 = 0)) ∧ (0 ≤ r47 ∧ (r47 < 9 ∨ r47 = 0)) ∧ (0 ≤ r50 ∧ (r50 < 9 ∨ r50 = 0)) ∧ (0 ≤ r53 ∧ (r53 < 3 ∨ r53 = 0)) ∧ (0 ≤ r56 ∧ (r56 < 3 ∨ r56 = 0)) ∧ (0 ≤ r59 ∧ (r59 < 40 ∨ r59 = 0)) ∧ t 4 = .pointer (some ⟨w9.heap.size, 0, none⟩) ∧ t 5 = .pointer (some ⟨w14.heap.size, 0, none⟩) ∧ t 31 = .agg #[.int .i64 (max 0 (tt.bl - r41)), .int .i64 (tt.bl + r44)] ∧ t 43 = .agg #[.int .i64 (max 0 (tt.wh - r47)), .int .i64 (tt.wh + r50)] ∧ t 55 = .agg #[.int .i64 (max 0 (tt.we - r53)), .int .i64 (tt.we + r56)] ∧ t 57 = .int .i64 tt.sn ∧ t 59 = .int .i64 r59 ∧ t 63 = .int .i64 tt.sn ∧ t 64 = .pointer (some ⟨sb, 0, none⟩)) (List.forall_mem_cons.2 ⟨fun _ _ u => u, fun _ h => (by cases h)⟩) hSS (by kernel_rfl) ?_ ?_
    · rintro t w_ LA ⟨r41, r44, r47, r50, r53, r56, hr42, hr45, hr48, hr51, hr54, hr57, e4, e5, e31, e43, e55, e57, e58, e63, e64⟩ ⟨F_, hwn_⟩
      have hws := F_.gb.size
      have e : ((List.range 125).map t).toArray = #[t 0, t 1, t 2, t 3, t 4, t 5, t 6, t 7, t 8, t 9, t 10, t 11, t 12, t 13, t 14, t 15, t 16, t 17, t 18, t 19, t 20, t 21, t 22, t 23, t 24, t 25, t 26, t 27, t 28, t 29, t 30, t 31, t 32, t 33, t 34, t 35, t 36, t 37, t 38, t 39, t 40, t 41, t 42, t 43, t 44, t 45, t 46, t 47, t 48, t 49, t 50, t 51, t 52, t 53, t 54, t 55, t 56, t 57, t 58, t 59, t 60, t 61, t 62, t 63, t 64, t 65, t 66, t 67, t 68, t 69, t 70, t 71, t 72, t 73, t 74, t 75, t 76, t 77, t 78, t 79, t 80, t 81, t 82, t 83, t 84, t 85, t 86, t 87, t 88, t 89, t 90, t 91, t 92, t 93, t 94, t 95, t 96, t 97, t 98, t 99, t 100, t 101, t 102, t 103, t 104, t 105, t 106, t 107, t 108, t 109, t 110, t 111, t 112, t 113, t 114, t 115, t 116, t 117, t 118, t 119, t 120, t 121, t 122, t 123, t 124] := rfl
      (try dsimp only at e)
      rw [e4, e5, e31, e43, e55, e57, e58, e63, e64] at e; rw [e]; clear e e4 e5 e31 e43 e55 e57 e58 e63 e64
      refine wpOp_stepH rfl (fun K hK => ?_)
      go_simp
      refine (below_c sb 40 _ (F_.at 2 rfl : SeedAt _ sb) (by omega) (by omega)).mono ?_
      rintro e w92 ⟨r59, rfl, hr60, hs94, hg93⟩
      unfold belowR at hr60
      exact hK.out _ _ ⟨(by kernel_rfl), rfl, ⟨r41, r44, r47, r50, r53, r56, r59, (by first | assumption | omega), (by first | assumption | omega), (by first | assumption | omega), (by first | assumption | omega), (by first | assumption | omega), (by first | assumption | omega), (by first | assumption | omega), (by kernel_rfl), (by kernel_rfl), (by kernel_rfl), (by kernel_rfl), (by kernel_rfl), (by kernel_rfl), (by kernel_rfl), (by kernel_rfl), (by kernel_rfl)⟩, List.forall_mem_cons.2 ⟨(by kernel_rfl), fun _ h => (by cases h)⟩, ⟨F_.seedAt 2 rfl hg93 hs94, Nat.le_trans hwn_ hg93.size⟩, hSS _ _ ⟨F_.seedAt 2 rfl hg93 hs94, Nat.le_trans hwn_ hg93.size⟩⟩
    refine Chain.pureS 40 (fun t => ∃ (r41 : Int) (r44 : Int) (r47 : Int) (r50 : Int) (r53 : Int) (r56 : Int) (r59 : Int), (0 ≤ r41 ∧ (r41 < 20 ∨ r41 = 0)) ∧ (0 ≤ r44 ∧ (r44 < 20 ∨ r44 = 0)) ∧ (0 ≤ r47 ∧ (r47 < 9 ∨ r47 = 0)) ∧ (0 ≤ r50 ∧ (r50 < 9 ∨ r50 = 0)) ∧ (0 ≤ r53 ∧ (r53 < 3 ∨ r53 = 0)) ∧ (0 ≤ r56 ∧ (r56 < 3 ∨ r56 = 0)) ∧ (0 ≤ r59 ∧ (r59 < 40 ∨ r59 = 0)) ∧ t 4 = .pointer (some ⟨w9.heap.size, 0, none⟩) ∧ t 5 = .pointer (some ⟨w14.heap.size, 0, none⟩) ∧ t 31 = .agg #[.int .i64 (max 0 (tt.bl - r41)), .int .i64 (tt.bl + r44)] ∧ t 43 = .agg #[.int .i64 (max 0 (tt.wh - r47)), .int .i64 (tt.wh + r50)] ∧ t 55 = .agg #[.int .i64 (max 0 (tt.we - r53)), .int .i64 (tt.we + r56)] ∧ t 60 = .int .i64 (tt.sn - r59) ∧ t 63 = .int .i64 tt.sn ∧ t 64 = .pointer (some ⟨sb, 0, none⟩)) rfl (List.forall_mem_cons.2 ⟨fun _ _ u => u, fun _ h => (by cases h)⟩) hSS (by kernel_rfl) ?_ ?_
    · rintro t ⟨r41, r44, r47, r50, r53, r56, r59, hr42, hr45, hr48, hr51, hr54, hr57, hr60, e4, e5, e31, e43, e55, e57, e59, e63, e64⟩
      have e : ((List.range 125).map t).toArray = #[t 0, t 1, t 2, t 3, t 4, t 5, t 6, t 7, t 8, t 9, t 10, t 11, t 12, t 13, t 14, t 15, t 16, t 17, t 18, t 19, t 20, t 21, t 22, t 23, t 24, t 25, t 26, t 27, t 28, t 29, t 30, t 31, t 32, t 33, t 34, t 35, t 36, t 37, t 38, t 39, t 40, t 41, t 42, t 43, t 44, t 45, t 46, t 47, t 48, t 49, t 50, t 51, t 52, t 53, t 54, t 55, t 56, t 57, t 58, t 59, t 60, t 61, t 62, t 63, t 64, t 65, t 66, t 67, t 68, t 69, t 70, t 71, t 72, t 73, t 74, t 75, t 76, t 77, t 78, t 79, t 80, t 81, t 82, t 83, t 84, t 85, t 86, t 87, t 88, t 89, t 90, t 91, t 92, t 93, t 94, t 95, t 96, t 97, t 98, t 99, t 100, t 101, t 102, t 103, t 104, t 105, t 106, t 107, t 108, t 109, t 110, t 111, t 112, t 113, t 114, t 115, t 116, t 117, t 118, t 119, t 120, t 121, t 122, t 123, t 124] := rfl
      (try dsimp only at e)
      rw [e4, e5, e31, e43, e55, e57, e59, e63, e64] at e; rw [e]; clear e e4 e5 e31 e43 e55 e57 e59 e63 e64
      have hw61 : IntKind.i64.wrap (tt.sn - r59) = tt.sn - r59 := IntWalk.i64_in _ (by omega)
      refine ⟨.int .i64 (tt.sn - r59), .inl ⟨by first | kernel_rfl | rfl, ?_⟩, ⟨(by kernel_rfl), rfl⟩, ⟨r41, r44, r47, r50, r53, r56, r59, (by first | assumption | omega), (by first | assumption | omega), (by first | assumption | omega), (by first | assumption | omega), (by first | assumption | omega), (by first | assumption | omega), (by first | assumption | omega), (by kernel_rfl), (by kernel_rfl), (by kernel_rfl), (by kernel_rfl), (by kernel_rfl), (by kernel_rfl), (by kernel_rfl), (by kernel_rfl)⟩, List.forall_mem_cons.2 ⟨(by kernel_rfl), fun _ h => (by cases h)⟩⟩
      intro wS _
      go_simp
      (try with_reducible rfl)
    refine Chain.pureS 41 (fun t => ∃ (r41 : Int) (r44 : Int) (r47 : Int) (r50 : Int) (r53 : Int) (r56 : Int) (r59 : Int), (0 ≤ r41 ∧ (r41 < 20 ∨ r41 = 0)) ∧ (0 ≤ r44 ∧ (r44 < 20 ∨ r44 = 0)) ∧ (0 ≤ r47 ∧ (r47 < 9 ∨ r47 = 0)) ∧ (0 ≤ r50 ∧ (r50 < 9 ∨ r50 = 0)) ∧ (0 ≤ r53 ∧ (r53 < 3 ∨ r53 = 0)) ∧ (0 ≤ r56 ∧ (r56 < 3 ∨ r56 = 0)) ∧ (0 ≤ r59 ∧ (r59 < 40 ∨ r59 = 0)) ∧ t 4 = .pointer (some ⟨w9.heap.size, 0, none⟩) ∧ t 5 = .pointer (some ⟨w14.heap.size, 0, none⟩) ∧ t 31 = .agg #[.int .i64 (max 0 (tt.bl - r41)), .int .i64 (tt.bl + r44)] ∧ t 43 = .agg #[.int .i64 (max 0 (tt.wh - r47)), .int .i64 (tt.wh + r50)] ∧ t 55 = .agg #[.int .i64 (max 0 (tt.we - r53)), .int .i64 (tt.we + r56)] ∧ t 61 = .int .i64 (max 0 (tt.sn - r59)) ∧ t 63 = .int .i64 tt.sn ∧ t 64 = .pointer (some ⟨sb, 0, none⟩)) rfl (List.forall_mem_cons.2 ⟨fun _ _ u => u, fun _ h => (by cases h)⟩) hSS (by kernel_rfl) ?_ ?_
    · rintro t ⟨r41, r44, r47, r50, r53, r56, r59, hr42, hr45, hr48, hr51, hr54, hr57, hr60, e4, e5, e31, e43, e55, e60, e63, e64⟩
      have e : ((List.range 125).map t).toArray = #[t 0, t 1, t 2, t 3, t 4, t 5, t 6, t 7, t 8, t 9, t 10, t 11, t 12, t 13, t 14, t 15, t 16, t 17, t 18, t 19, t 20, t 21, t 22, t 23, t 24, t 25, t 26, t 27, t 28, t 29, t 30, t 31, t 32, t 33, t 34, t 35, t 36, t 37, t 38, t 39, t 40, t 41, t 42, t 43, t 44, t 45, t 46, t 47, t 48, t 49, t 50, t 51, t 52, t 53, t 54, t 55, t 56, t 57, t 58, t 59, t 60, t 61, t 62, t 63, t 64, t 65, t 66, t 67, t 68, t 69, t 70, t 71, t 72, t 73, t 74, t 75, t 76, t 77, t 78, t 79, t 80, t 81, t 82, t 83, t 84, t 85, t 86, t 87, t 88, t 89, t 90, t 91, t 92, t 93, t 94, t 95, t 96, t 97, t 98, t 99, t 100, t 101, t 102, t 103, t 104, t 105, t 106, t 107, t 108, t 109, t 110, t 111, t 112, t 113, t 114, t 115, t 116, t 117, t 118, t 119, t 120, t 121, t 122, t 123, t 124] := rfl
      (try dsimp only at e)
      rw [e4, e5, e31, e43, e55, e60, e63, e64] at e; rw [e]; clear e e4 e5 e31 e43 e55 e60 e63 e64
      refine ⟨.int .i64 (max 0 (tt.sn - r59)), .inl ⟨by first | kernel_rfl | rfl, ?_⟩, ⟨(by kernel_rfl), rfl⟩, ⟨r41, r44, r47, r50, r53, r56, r59, (by first | assumption | omega), (by first | assumption | omega), (by first | assumption | omega), (by first | assumption | omega), (by first | assumption | omega), (by first | assumption | omega), (by first | assumption | omega), (by kernel_rfl), (by kernel_rfl), (by kernel_rfl), (by kernel_rfl), (by kernel_rfl), (by kernel_rfl), (by kernel_rfl), (by kernel_rfl)⟩, List.forall_mem_cons.2 ⟨(by kernel_rfl), fun _ h => (by cases h)⟩⟩
      intro wS _
      go_simp
      (try with_reducible rfl)
    refine Chain.callS 45 (fun t => ∃ (r41 : Int) (r44 : Int) (r47 : Int) (r50 : Int) (r53 : Int) (r56 : Int) (r59 : Int) (r62 : Int), (0 ≤ r41 ∧ (r41 < 20 ∨ r41 = 0)) ∧ (0 ≤ r44 ∧ (r44 < 20 ∨ r44 = 0)) ∧ (0 ≤ r47 ∧ (r47 < 9 ∨ r47 = 0)) ∧ (0 ≤ r50 ∧ (r50 < 9 ∨ r50 = 0)) ∧ (0 ≤ r53 ∧ (r53 < 3 ∨ r53 = 0)) ∧ (0 ≤ r56 ∧ (r56 < 3 ∨ r56 = 0)) ∧ (0 ≤ r59 ∧ (r59 < 40 ∨ r59 = 0)) ∧ (0 ≤ r62 ∧ (r62 < 40 ∨ r62 = 0)) ∧ t 4 = .pointer (some ⟨w9.heap.size, 0, none⟩) ∧ t 5 = .pointer (some ⟨w14.heap.size, 0, none⟩) ∧ t 31 = .agg #[.int .i64 (max 0 (tt.bl - r41)), .int .i64 (tt.bl + r44)] ∧ t 43 = .agg #[.int .i64 (max 0 (tt.wh - r47)), .int .i64 (tt.wh + r50)] ∧ t 55 = .agg #[.int .i64 (max 0 (tt.we - r53)), .int .i64 (tt.we + r56)] ∧ t 61 = .int .i64 (max 0 (tt.sn - r59)) ∧ t 63 = .int .i64 tt.sn ∧ t 65 = .int .i64 r62) (List.forall_mem_cons.2 ⟨fun _ _ u => u, fun _ h => (by cases h)⟩) hSS (by kernel_rfl) ?_ ?_
    · rintro t w_ LA ⟨r41, r44, r47, r50, r53, r56, r59, hr42, hr45, hr48, hr51, hr54, hr57, hr60, e4, e5, e31, e43, e55, e61, e63, e64⟩ ⟨F_, hwn_⟩
      have hws := F_.gb.size
      have e : ((List.range 125).map t).toArray = #[t 0, t 1, t 2, t 3, t 4, t 5, t 6, t 7, t 8, t 9, t 10, t 11, t 12, t 13, t 14, t 15, t 16, t 17, t 18, t 19, t 20, t 21, t 22, t 23, t 24, t 25, t 26, t 27, t 28, t 29, t 30, t 31, t 32, t 33, t 34, t 35, t 36, t 37, t 38, t 39, t 40, t 41, t 42, t 43, t 44, t 45, t 46, t 47, t 48, t 49, t 50, t 51, t 52, t 53, t 54, t 55, t 56, t 57, t 58, t 59, t 60, t 61, t 62, t 63, t 64, t 65, t 66, t 67, t 68, t 69, t 70, t 71, t 72, t 73, t 74, t 75, t 76, t 77, t 78, t 79, t 80, t 81, t 82, t 83, t 84, t 85, t 86, t 87, t 88, t 89, t 90, t 91, t 92, t 93, t 94, t 95, t 96, t 97, t 98, t 99, t 100, t 101, t 102, t 103, t 104, t 105, t 106, t 107, t 108, t 109, t 110, t 111, t 112, t 113, t 114, t 115, t 116, t 117, t 118, t 119, t 120, t 121, t 122, t 123, t 124] := rfl
      (try dsimp only at e)
      rw [e4, e5, e31, e43, e55, e61, e63, e64] at e; rw [e]; clear e e4 e5 e31 e43 e55 e61 e63 e64
      refine wpOp_stepH rfl (fun K hK => ?_)
      go_simp
      refine (below_c sb 40 _ (F_.at 2 rfl : SeedAt _ sb) (by omega) (by omega)).mono ?_
      rintro e w95 ⟨r62, rfl, hr63, hs97, hg96⟩
      unfold belowR at hr63
      exact hK.out _ _ ⟨(by kernel_rfl), rfl, ⟨r41, r44, r47, r50, r53, r56, r59, r62, (by first | assumption | omega), (by first | assumption | omega), (by first | assumption | omega), (by first | assumption | omega), (by first | assumption | omega), (by first | assumption | omega), (by first | assumption | omega), (by first | assumption | omega), (by kernel_rfl), (by kernel_rfl), (by kernel_rfl), (by kernel_rfl), (by kernel_rfl), (by kernel_rfl), (by kernel_rfl), (by kernel_rfl)⟩, List.forall_mem_cons.2 ⟨(by kernel_rfl), fun _ h => (by cases h)⟩, ⟨F_.seedAt 2 rfl hg96 hs97, Nat.le_trans hwn_ hg96.size⟩, hSS _ _ ⟨F_.seedAt 2 rfl hg96 hs97, Nat.le_trans hwn_ hg96.size⟩⟩
    refine Chain.pureS 46 (fun t => ∃ (r41 : Int) (r44 : Int) (r47 : Int) (r50 : Int) (r53 : Int) (r56 : Int) (r59 : Int) (r62 : Int), (0 ≤ r41 ∧ (r41 < 20 ∨ r41 = 0)) ∧ (0 ≤ r44 ∧ (r44 < 20 ∨ r44 = 0)) ∧ (0 ≤ r47 ∧ (r47 < 9 ∨ r47 = 0)) ∧ (0 ≤ r50 ∧ (r50 < 9 ∨ r50 = 0)) ∧ (0 ≤ r53 ∧ (r53 < 3 ∨ r53 = 0)) ∧ (0 ≤ r56 ∧ (r56 < 3 ∨ r56 = 0)) ∧ (0 ≤ r59 ∧ (r59 < 40 ∨ r59 = 0)) ∧ (0 ≤ r62 ∧ (r62 < 40 ∨ r62 = 0)) ∧ t 4 = .pointer (some ⟨w9.heap.size, 0, none⟩) ∧ t 5 = .pointer (some ⟨w14.heap.size, 0, none⟩) ∧ t 31 = .agg #[.int .i64 (max 0 (tt.bl - r41)), .int .i64 (tt.bl + r44)] ∧ t 43 = .agg #[.int .i64 (max 0 (tt.wh - r47)), .int .i64 (tt.wh + r50)] ∧ t 55 = .agg #[.int .i64 (max 0 (tt.we - r53)), .int .i64 (tt.we + r56)] ∧ t 61 = .int .i64 (max 0 (tt.sn - r59)) ∧ t 66 = .int .i64 (tt.sn + r62)) rfl (List.forall_mem_cons.2 ⟨fun _ _ u => u, fun _ h => (by cases h)⟩) hSS (by kernel_rfl) ?_ ?_
    · rintro t ⟨r41, r44, r47, r50, r53, r56, r59, r62, hr42, hr45, hr48, hr51, hr54, hr57, hr60, hr63, e4, e5, e31, e43, e55, e61, e63, e65⟩
      have e : ((List.range 125).map t).toArray = #[t 0, t 1, t 2, t 3, t 4, t 5, t 6, t 7, t 8, t 9, t 10, t 11, t 12, t 13, t 14, t 15, t 16, t 17, t 18, t 19, t 20, t 21, t 22, t 23, t 24, t 25, t 26, t 27, t 28, t 29, t 30, t 31, t 32, t 33, t 34, t 35, t 36, t 37, t 38, t 39, t 40, t 41, t 42, t 43, t 44, t 45, t 46, t 47, t 48, t 49, t 50, t 51, t 52, t 53, t 54, t 55, t 56, t 57, t 58, t 59, t 60, t 61, t 62, t 63, t 64, t 65, t 66, t 67, t 68, t 69, t 70, t 71, t 72, t 73, t 74, t 75, t 76, t 77, t 78, t 79, t 80, t 81, t 82, t 83, t 84, t 85, t 86, t 87, t 88, t 89, t 90, t 91, t 92, t 93, t 94, t 95, t 96, t 97, t 98, t 99, t 100, t 101, t 102, t 103, t 104, t 105, t 106, t 107, t 108, t 109, t 110, t 111, t 112, t 113, t 114, t 115, t 116, t 117, t 118, t 119, t 120, t 121, t 122, t 123, t 124] := rfl
      (try dsimp only at e)
      rw [e4, e5, e31, e43, e55, e61, e63, e65] at e; rw [e]; clear e e4 e5 e31 e43 e55 e61 e63 e65
      have hw64 : IntKind.i64.wrap (tt.sn + r62) = tt.sn + r62 := IntWalk.i64_in _ (by omega)
      refine ⟨.int .i64 (tt.sn + r62), .inl ⟨by first | kernel_rfl | rfl, ?_⟩, ⟨(by kernel_rfl), rfl⟩, ⟨r41, r44, r47, r50, r53, r56, r59, r62, (by first | assumption | omega), (by first | assumption | omega), (by first | assumption | omega), (by first | assumption | omega), (by first | assumption | omega), (by first | assumption | omega), (by first | assumption | omega), (by first | assumption | omega), (by kernel_rfl), (by kernel_rfl), (by kernel_rfl), (by kernel_rfl), (by kernel_rfl), (by kernel_rfl), (by kernel_rfl)⟩, List.forall_mem_cons.2 ⟨(by kernel_rfl), fun _ h => (by cases h)⟩⟩
      intro wS _
      go_simp
      (try with_reducible rfl)
    refine Chain.callS 47 (fun t => ∃ (r41 : Int) (r44 : Int) (r47 : Int) (r50 : Int) (r53 : Int) (r56 : Int) (r59 : Int) (r62 : Int), (0 ≤ r41 ∧ (r41 < 20 ∨ r41 = 0)) ∧ (0 ≤ r44 ∧ (r44 < 20 ∨ r44 = 0)) ∧ (0 ≤ r47 ∧ (r47 < 9 ∨ r47 = 0)) ∧ (0 ≤ r50 ∧ (r50 < 9 ∨ r50 = 0)) ∧ (0 ≤ r53 ∧ (r53 < 3 ∨ r53 = 0)) ∧ (0 ≤ r56 ∧ (r56 < 3 ∨ r56 = 0)) ∧ (0 ≤ r59 ∧ (r59 < 40 ∨ r59 = 0)) ∧ (0 ≤ r62 ∧ (r62 < 40 ∨ r62 = 0)) ∧ t 4 = .pointer (some ⟨w9.heap.size, 0, none⟩) ∧ t 5 = .pointer (some ⟨w14.heap.size, 0, none⟩) ∧ t 31 = .agg #[.int .i64 (max 0 (tt.bl - r41)), .int .i64 (tt.bl + r44)] ∧ t 43 = .agg #[.int .i64 (max 0 (tt.wh - r47)), .int .i64 (tt.wh + r50)] ∧ t 55 = .agg #[.int .i64 (max 0 (tt.we - r53)), .int .i64 (tt.we + r56)] ∧ t 67 = .agg #[.int .i64 (max 0 (tt.sn - r59)), .int .i64 (tt.sn + r62)]) (List.forall_mem_cons.2 ⟨fun _ _ u => u, fun _ h => (by cases h)⟩) hSS (by kernel_rfl) ?_ ?_
    · rintro t w_ LA ⟨r41, r44, r47, r50, r53, r56, r59, r62, hr42, hr45, hr48, hr51, hr54, hr57, hr60, hr63, e4, e5, e31, e43, e55, e61, e66⟩ ⟨F_, hwn_⟩
      have hws := F_.gb.size
      have e : ((List.range 125).map t).toArray = #[t 0, t 1, t 2, t 3, t 4, t 5, t 6, t 7, t 8, t 9, t 10, t 11, t 12, t 13, t 14, t 15, t 16, t 17, t 18, t 19, t 20, t 21, t 22, t 23, t 24, t 25, t 26, t 27, t 28, t 29, t 30, t 31, t 32, t 33, t 34, t 35, t 36, t 37, t 38, t 39, t 40, t 41, t 42, t 43, t 44, t 45, t 46, t 47, t 48, t 49, t 50, t 51, t 52, t 53, t 54, t 55, t 56, t 57, t 58, t 59, t 60, t 61, t 62, t 63, t 64, t 65, t 66, t 67, t 68, t 69, t 70, t 71, t 72, t 73, t 74, t 75, t 76, t 77, t 78, t 79, t 80, t 81, t 82, t 83, t 84, t 85, t 86, t 87, t 88, t 89, t 90, t 91, t 92, t 93, t 94, t 95, t 96, t 97, t 98, t 99, t 100, t 101, t 102, t 103, t 104, t 105, t 106, t 107, t 108, t 109, t 110, t 111, t 112, t 113, t 114, t 115, t 116, t 117, t 118, t 119, t 120, t 121, t 122, t 123, t 124] := rfl
      (try dsimp only at e)
      rw [e4, e5, e31, e43, e55, e61, e66] at e; rw [e]; clear e e4 e5 e31 e43 e55 e61 e66
      refine wpOp_stepH rfl (fun K hK => ?_)
      go_simp
      refine (span_c (max 0 (tt.sn - r59)) (tt.sn + r62) _).mono ?_
      rintro e w98 ⟨rfl, hg99⟩
      exact hK.out _ _ ⟨(by kernel_rfl), rfl, ⟨r41, r44, r47, r50, r53, r56, r59, r62, (by first | assumption | omega), (by first | assumption | omega), (by first | assumption | omega), (by first | assumption | omega), (by first | assumption | omega), (by first | assumption | omega), (by first | assumption | omega), (by first | assumption | omega), (by kernel_rfl), (by kernel_rfl), (by kernel_rfl), (by kernel_rfl), (by kernel_rfl), (by kernel_rfl)⟩, List.forall_mem_cons.2 ⟨(by kernel_rfl), fun _ h => (by cases h)⟩, ⟨F_.gn hg99, Nat.le_trans hwn_ hg99.size⟩, hSS _ _ ⟨F_.gn hg99, Nat.le_trans hwn_ hg99.size⟩⟩
    refine Chain.pureS 48 (fun t => ∃ (r41 : Int) (r44 : Int) (r47 : Int) (r50 : Int) (r53 : Int) (r56 : Int) (r59 : Int) (r62 : Int), (0 ≤ r41 ∧ (r41 < 20 ∨ r41 = 0)) ∧ (0 ≤ r44 ∧ (r44 < 20 ∨ r44 = 0)) ∧ (0 ≤ r47 ∧ (r47 < 9 ∨ r47 = 0)) ∧ (0 ≤ r50 ∧ (r50 < 9 ∨ r50 = 0)) ∧ (0 ≤ r53 ∧ (r53 < 3 ∨ r53 = 0)) ∧ (0 ≤ r56 ∧ (r56 < 3 ∨ r56 = 0)) ∧ (0 ≤ r59 ∧ (r59 < 40 ∨ r59 = 0)) ∧ (0 ≤ r62 ∧ (r62 < 40 ∨ r62 = 0)) ∧ t 4 = .pointer (some ⟨w9.heap.size, 0, none⟩) ∧ t 5 = .pointer (some ⟨w14.heap.size, 0, none⟩) ∧ t 68 = .agg #[.int .i64 (max 0 (tt.bl - r41)), .int .i64 (tt.bl + r44), .int .i64 (max 0 (tt.wh - r47)), .int .i64 (tt.wh + r50), .int .i64 (max 0 (tt.we - r53)), .int .i64 (tt.we + r56), .int .i64 (max 0 (tt.sn - r59)), .int .i64 (tt.sn + r62)]) rfl (List.forall_mem_cons.2 ⟨fun _ _ u => u, fun _ h => (by cases h)⟩) hSS (by kernel_rfl) ?_ ?_
    · rintro t ⟨r41, r44, r47, r50, r53, r56, r59, r62, hr42, hr45, hr48, hr51, hr54, hr57, hr60, hr63, e4, e5, e31, e43, e55, e67⟩
      have e : ((List.range 125).map t).toArray = #[t 0, t 1, t 2, t 3, t 4, t 5, t 6, t 7, t 8, t 9, t 10, t 11, t 12, t 13, t 14, t 15, t 16, t 17, t 18, t 19, t 20, t 21, t 22, t 23, t 24, t 25, t 26, t 27, t 28, t 29, t 30, t 31, t 32, t 33, t 34, t 35, t 36, t 37, t 38, t 39, t 40, t 41, t 42, t 43, t 44, t 45, t 46, t 47, t 48, t 49, t 50, t 51, t 52, t 53, t 54, t 55, t 56, t 57, t 58, t 59, t 60, t 61, t 62, t 63, t 64, t 65, t 66, t 67, t 68, t 69, t 70, t 71, t 72, t 73, t 74, t 75, t 76, t 77, t 78, t 79, t 80, t 81, t 82, t 83, t 84, t 85, t 86, t 87, t 88, t 89, t 90, t 91, t 92, t 93, t 94, t 95, t 96, t 97, t 98, t 99, t 100, t 101, t 102, t 103, t 104, t 105, t 106, t 107, t 108, t 109, t 110, t 111, t 112, t 113, t 114, t 115, t 116, t 117, t 118, t 119, t 120, t 121, t 122, t 123, t 124] := rfl
      (try dsimp only at e)
      rw [e4, e5, e31, e43, e55, e67] at e; rw [e]; clear e e4 e5 e31 e43 e55 e67
      refine ⟨.agg #[.int .i64 (max 0 (tt.bl - r41)), .int .i64 (tt.bl + r44), .int .i64 (max 0 (tt.wh - r47)), .int .i64 (tt.wh + r50), .int .i64 (max 0 (tt.we - r53)), .int .i64 (tt.we + r56), .int .i64 (max 0 (tt.sn - r59)), .int .i64 (tt.sn + r62)], .inl ⟨by first | kernel_rfl | rfl, ?_⟩, ⟨(by kernel_rfl), rfl⟩, ⟨r41, r44, r47, r50, r53, r56, r59, r62, (by first | assumption | omega), (by first | assumption | omega), (by first | assumption | omega), (by first | assumption | omega), (by first | assumption | omega), (by first | assumption | omega), (by first | assumption | omega), (by first | assumption | omega), (by kernel_rfl), (by kernel_rfl), (by kernel_rfl)⟩, List.forall_mem_cons.2 ⟨(by kernel_rfl), fun _ h => (by cases h)⟩⟩
      intro wS _
      go_simp
      (try with_reducible rfl)
    exact Chain.nil _ _ _ (List.forall_mem_cons.2 ⟨fun _ _ u => u, fun _ h => (by cases h)⟩) hSS
  case alM40 => exact List.forall_mem_cons.2 ⟨fun _ _ _ h => wpOp_step rfl (fun K hK => by go_simp; exact hK _ _ h), fun _ h => (by cases h)⟩
  case restM40 =>
    rintro t w102 g ⟨r41, r44, r47, r50, r53, r56, r59, r62, hr42, hr45, hr48, hr51, hr54, hr57, hr60, hr63, e4, e5, e68⟩ hA ⟨F_, hwnM40⟩
    clear hSS
    clear F37
    have hA0 : t 6 = .pointer (some ⟨g 49, 0, none⟩) := hA _ (.head _)
    have F103 : Bun w [rbox (g 49) 32 (z8), rbox w14.heap.size 48 #[.int .i64 tt.bl, .int .i64 tt.wh, .int .i64 tt.we, .int .i64 tt.sn], rbox w9.heap.size 32 (iceC ic), rseed sb, rsl intEnc 1 0 w.heap.size (.slice na zs.length nc) zs] w102 := F_
    clear hA F_
    obtain ⟨g101, hgx_⟩ : ∃ x_, g 49 = x_ := ⟨_, rfl⟩
    rw [hgx_] at hA0 F103; clear hgx_
    have hws := F103.gb.size
    have g101l := (F103.bx8 0 rfl).2.2
    have e : ((List.range 125).map t).toArray = #[t 0, t 1, t 2, t 3, t 4, t 5, t 6, t 7, t 8, t 9, t 10, t 11, t 12, t 13, t 14, t 15, t 16, t 17, t 18, t 19, t 20, t 21, t 22, t 23, t 24, t 25, t 26, t 27, t 28, t 29, t 30, t 31, t 32, t 33, t 34, t 35, t 36, t 37, t 38, t 39, t 40, t 41, t 42, t 43, t 44, t 45, t 46, t 47, t 48, t 49, t 50, t 51, t 52, t 53, t 54, t 55, t 56, t 57, t 58, t 59, t 60, t 61, t 62, t 63, t 64, t 65, t 66, t 67, t 68, t 69, t 70, t 71, t 72, t 73, t 74, t 75, t 76, t 77, t 78, t 79, t 80, t 81, t 82, t 83, t 84, t 85, t 86, t 87, t 88, t 89, t 90, t 91, t 92, t 93, t 94, t 95, t 96, t 97, t 98, t 99, t 100, t 101, t 102, t 103, t 104, t 105, t 106, t 107, t 108, t 109, t 110, t 111, t 112, t 113, t 114, t 115, t 116, t 117, t 118, t 119, t 120, t 121, t 122, t 123, t 124] := rfl
    (try dsimp only at e)
    rw [e4, e5, e68, hA0] at e; rw [e]; clear e e4 e5 e68 hA0
    refine ru_one 50 rfl (by kernel_rfl) (fun K hK => ?_)
    have kb_ := F103.bx8 0 rfl
    go_simp
    clear kb_
    have F104 := F103.pt8 (.int .i64 (max 0 (tt.bl - r41))) (.int .i64 (tt.bl + r44)) (.int .i64 (max 0 (tt.wh - r47))) (.int .i64 (tt.wh + r50)) (.int .i64 (max 0 (tt.we - r53))) (.int .i64 (tt.we + r56)) (.int .i64 (max 0 (tt.sn - r59))) (.int .i64 (tt.sn + r62))
    clear F103
    refine ru_back_late hK (by kernel_rfl) ?_
    clear hK K
    (try simp only [Act.put, List.setIfInBounds_toArray, List.set_cons_zero, List.set_cons_succ])
    refine ru_done (by kernel_rfl) ?_
    obtain ⟨w105, hx106, F108, hxs107⟩ := (show Bun w [rbox g101 32 #[.int .i64 (max 0 (tt.bl - r41)), .int .i64 (tt.bl + r44), .int .i64 (max 0 (tt.wh - r47)), .int .i64 (tt.wh + r50), .int .i64 (max 0 (tt.we - r53)), .int .i64 (tt.we + r56), .int .i64 (max 0 (tt.sn - r59)), .int .i64 (tt.sn + r62)], rbox w14.heap.size 48 #[.int .i64 tt.bl, .int .i64 tt.wh, .int .i64 tt.we, .int .i64 tt.sn], rbox w9.heap.size 32 (iceC ic), rseed sb, rsl intEnc 1 0 w.heap.size (.slice na zs.length nc) zs] _ from F104).name
    (try simp at hxs107)
    rw [hx106]
    clear hx106 F104
    obtain ⟨Y, ⟨hY1, hY2, hY3⟩, hY4, hY5, hY6⟩ := drill (c := ⟨⟨max 0 (tt.bl - r41), tt.bl + r44⟩, ⟨max 0 (tt.wh - r47), tt.wh + r50⟩, ⟨max 0 (tt.we - r53), tt.we + r56⟩, ⟨max 0 (tt.sn - r59), tt.sn + r62⟩⟩) (t := tt) hic (by unfold iceErr spanErr; simp only; (repeat' split) <;> first | rfl | (exfalso; omega) | omega) htt (by unfold inI; simp only; omega)
    have HY := Lib.hid (And.intro hY1 (And.intro hY2 (And.intro hY3 (And.intro hY4 (And.intro hY5 hY6)))))
    clear hY1 hY2 hY3 hY4 hY5 hY6
    have b109 := F108.bx8 0 rfl
    have b110 := F108.bx8 2 rfl
    go_wp2_with fail
    clear b109 b110
    refine (HY.out.1 _).mono ?_
    rintro e w113 ⟨rfl, hg111⟩
    have hg111s := hg111.size
    (try simp at hg111s)
    have F114 := F108.gn hg111
    clear F108
    clear hg111
    have b115 := F114.bx8 0 rfl
    have b116 := F114.bx8 2 rfl
    go_wp2_with fail
    clear b115 b116
    have F117 := F114.new 32 (iceC Y) (n := w113.heap.size) (by simp)
    clear F114
    refine (HY.out.2.1 _).mono ?_
    rintro e w120 ⟨rfl, hg118⟩
    have hg118s := hg118.size
    (try simp at hg118s)
    have F121 := F117.gn hg118
    clear F117
    clear hg118
    have b122 := F121.bx8 0 rfl
    have b123 := F121.bx8 1 rfl
    go_wp2_with fail
    clear b122 b123
    have F124 := F121.new 32 (iceC Y) (n := w120.heap.size) (by simp)
    clear F121
    refine (HY.out.2.2.1 _).mono ?_
    rintro e w127 ⟨rfl, hg125⟩
    have hg125s := hg125.size
    (try simp at hg125s)
    have F128 := F124.gn hg125
    clear F124
    clear hg125
    have b129 := F128.bx8 0 rfl
    have b130 := F128.bx8 1 rfl
    have b131 := F128.bx8 4 rfl
    go_wp2_with fail
    clear b129 b130 b131
    have F132 := F128.new 32 (iceC Y) (n := w127.heap.size) (by simp)
    clear F128
    refine (HY.out.2.2.2.1 _).mono ?_
    rintro e w135 ⟨rfl, hg133⟩
    have hg133s := hg133.size
    (try simp at hg133s)
    have F136 := F132.gn hg133
    clear F132
    clear hg133
    have b137 := F136.bx8 2 rfl
    have b138 := F136.bx8 3 rfl
    go_wp2_with fail
    clear b137 b138
    refine (HY.out.2.2.2.2.1 _).mono ?_
    rintro e w141 ⟨rfl, hg139⟩
    have hg139s := hg139.size
    (try simp at hg139s)
    have F142 := F136.gn hg139
    clear F136
    clear hg139
    have b143 := F142.bx8 2 rfl
    have b144 := F142.bx4 4 rfl
    go_wp2_with fail
    clear b143 b144
    refine (HY.out.2.2.2.2.2 _).mono ?_
    rintro e w147 ⟨rfl, hg145⟩
    have hg145s := hg145.size
    (try simp at hg145s)
    have F148 := F142.gn hg145
    clear F142
    clear hg145
    go_wp2_with fail
    refine (awake_c _).mono ?_
    rintro e w151 ⟨rfl, hg149⟩
    have hg149s := hg149.size
    (try simp at hg149s)
    have F152 := F148.gn hg149
    clear F148
    clear hg149
    go_wp2_with fail
    go_ret
    exact ⟨rfl, F152.gb⟩

end Go.Proofs.Ythblaiefalbomaa
