/- top: rescue: the example of chapter 7. -/
import Derived.Test.YtlefmbjipdlcfaaMRC3
import Derived.Test.YtlefmbjipdlcfaaMB4
set_option linter.unusedVariables false
set_option linter.unusedSimpArgs false
set_option linter.unnecessarySimpa false
namespace Go.Proofs.Ytlefmbjipdlcfaa
open Go.RowKit
set_option maxRecDepth 100000
attribute [local go_sem] Oper.semAt_some
set_option maxHeartbeats 16000000 in
theorem lives_c (vp vq vw vc : Value) (n : Nat) (ls : List Lg) (p : Pst) (m : Int) (w : World) (hr : RscAt w vp vq vw vc n ls p m) (hk : RscOk n ls p m) :
  Calls Try.prog 52 #[.agg #[.int .i64 (n : Int), vp, vq, vw, vc], .agg #[.int .i64 0, .int .i64 0]] w (Ret (.agg #[.int .i64 m, .int .i64 m]) w) := by
 have F1 : Bun w [] w := Bun.nil _
 obtain ⟨⟨lo1, hi1, hl1, hh1⟩, ⟨lo2, hi2, hl2, hh2⟩, ⟨lo3, hi3, hl3, hh3⟩, ⟨lo4, hi4, hl4, hh4⟩⟩ := hr
 have hm_ps := hl1.len
 unfold maxLen at hm_ps
 obtain ⟨a1_, c1_, rfl⟩ := hl1.any
 replace F1 := F1.sl0 hl1 hh1 rfl
 clear hl1
 have hm_po := hl2.len
 unfold maxLen at hm_po
 obtain ⟨a2_, c2_, rfl⟩ := hl2.any
 replace F1 := F1.sl0 hl2 hh2 rfl
 clear hl2
 have hm_wa := hl3.len
 unfold maxLen at hm_wa
 obtain ⟨a3_, c3_, rfl⟩ := hl3.any
 replace F1 := F1.sl0 hl3 hh3 rfl
 clear hl3
 have hm_ch := hl4.len
 unfold maxLen at hm_ch
 obtain ⟨a4_, c4_, rfl⟩ := hl4.any
 replace F1 := F1.sl0 hl4 hh4 rfl
 clear hl4
 rw [show (ws0 n).length = n from List.length_replicate] at F1 hm_wa
 obtain ⟨x6, o7, e_⟩ := Sl.addr (F1.at 2 rfl : Sl poEnc 7 lo2 hi2 _ (.slice a2_ [p].length c2_) [p]) Nat.zero_lt_one
 subst e_
 have hz8 : Hid ([p][0]? = some p) := lhd (rfl)
 obtain ⟨x9, o10, e_⟩ := Sl.addr (F1.at 0 rfl : Sl chEnc 3 lo4 hi4 _ (.slice a4_ [m].length c4_) [m]) Nat.zero_lt_one
 subst e_
 have hz11 : Hid ([m][0]? = some m) := lhd (rfl)
 have HRK := lhd hk
 have hnk_ := hk.nn
 have hlk_ := hk.len
 have hsk_ := hk.spot
 have hrk_ := hk.rdy
 have hmk_ := hk.mm
 clear hk
 go_enter Try.func52, Try.ntmps52
 go_wp2_with fail
 replace F1 := F1.new 42 #[.int .i64 (n : Int), .slice a1_ ls.length c1_, .slice (some ⟨x6, o7, none⟩) 1 c2_, .slice a3_ n c3_, .slice (some ⟨x9, o10, none⟩) 1 c4_] (n := w.heap.size) (by simp)
 replace F1 := F1.new 31 #[.int .i64 0, .int .i64 0] (n := (w.heap.size + 1)) (by simp)
 replace F1 := F1.new 31 #[.int .i64 0, .int .i64 0] (n := (w.heap.size + 2)) (by simp)
 replace F1 := F1.new 84 #[.int .i64 0, .int .i64 0] (n := (w.heap.size + 3)) (by simp)
 refine (endsOf_c 0 0 _).mono ?_
 rintro e w18 ⟨rfl, hg16⟩
 have hg16s := hg16.size
 (try simp at hg16s)
 replace F1 := F1.gn hg16
 clear hg16
 go_wp2_with fail
 refine wp_loop_rounds 3 ?_
 rw [rounds_succ]
 have b20 := F1.bx5 3 rfl
 have ge21 : ∀ w, (Instr.index 84 (.agg #[.int .i64 0, .int .i64 0]) (.int .i64 0)).run Try.prog w = .ok (.int .i64 0) w := fun _ => by kernel_rfl
 go_wp2_with fail
 clear b20 ge21
 refine wp_loop_rounds 2 ?_
 rw [rounds_succ]
 have ge22 : World.cell? _ ⟨x9, o10, none⟩ = some (.int .i64 (-400)) := (by have h_ := Sl.cells (F1.at 4 rfl) hz11.out 0 _ rfl; simpa [Nat.add_assoc] using h_)
 have gl23 := cell_lt ge22
 have ge24 : World.cell? _ ⟨x9, o10 + 1, none⟩ = some (.int .i64 m) := (by have h_ := Sl.cells (F1.at 4 rfl) hz11.out 1 _ rfl; simpa [Nat.add_assoc] using h_)
 have ge25 : World.cell? _ ⟨x9, o10 + 2, none⟩ = some (.int .i64 m) := (by have h_ := Sl.cells (F1.at 4 rfl) hz11.out 2 _ rfl; simpa [Nat.add_assoc] using h_)
 go_wp2_with fail
 clear ge22 gl23 ge24 ge25
 replace F1 := F1.new 38 #[.int .i64 (-400), .int .i64 m, .int .i64 m] (n := w18.heap.size) (by simp)
 refine (endsOf_c m m _).mono ?_
 rintro e w29 ⟨rfl, hg27⟩
 have hg27s := hg27.size
 (try simp at hg27s)
 replace F1 := F1.gn hg27
 clear hg27
 have b31 := F1.bx2 1 rfl
 have ge32 : ∀ w, (Instr.index 84 (.agg #[.int .i64 m, .int .i64 m]) (.int .i64 0)).run Try.prog w = .ok (.int .i64 m) w := fun _ => by kernel_rfl
 go_wp2_with fail
 clear b31 ge32
 have F33 := ((F1.front 1 rfl rfl).set 0 (.int .i64 m)).nf #[.int .i64 m, .int .i64 0] rfl
 clear F1
 have Fn_ := ((F33.drop 1 rfl).drop 2 rfl)
 (try dsimp only [List.eraseIdx_cons_succ, List.eraseIdx_cons_zero] at Fn_)
 obtain ⟨w34, hx35, F37, hxs36⟩ := Fn_.name
 (try simp at hxs36)
 rw [hx35]
 clear hx35 F33 Fn_
 rw [rounds_succ]
 go_wp2_with fail
 rw [rounds_succ]
 have b38 := F37.bx5 2 rfl
 have ge39 : ∀ w, (Instr.index 84 (.agg #[.int .i64 0, .int .i64 0]) (.int .i64 1)).run Try.prog w = .ok (.int .i64 0) w := fun _ => by kernel_rfl
 go_wp2_with fail
 clear b38 ge39
 refine wp_loop_rounds 2 ?_
 rw [rounds_succ]
 have ge40 : World.cell? _ ⟨x9, o10, none⟩ = some (.int .i64 (-400)) := (by have h_ := Sl.cells (F37.at 3 rfl) hz11.out 0 _ rfl; simpa [Nat.add_assoc] using h_)
 have gl41 := cell_lt ge40
 have ge42 : World.cell? _ ⟨x9, o10 + 1, none⟩ = some (.int .i64 m) := (by have h_ := Sl.cells (F37.at 3 rfl) hz11.out 1 _ rfl; simpa [Nat.add_assoc] using h_)
 have ge43 : World.cell? _ ⟨x9, o10 + 2, none⟩ = some (.int .i64 m) := (by have h_ := Sl.cells (F37.at 3 rfl) hz11.out 2 _ rfl; simpa [Nat.add_assoc] using h_)
 go_wp2_with fail
 clear ge40 gl41 ge42 ge43
 replace F37 := F37.new 38 #[.int .i64 (-400), .int .i64 m, .int .i64 m] (n := w34.heap.size) (by simp)
 refine (endsOf_c m m _).mono ?_
 rintro e w47 ⟨rfl, hg45⟩
 have hg45s := hg45.size
 (try simp at hg45s)
 replace F37 := F37.gn hg45
 clear hg45
 have b49 := F37.bx2 1 rfl
 have ge50 : ∀ w, (Instr.index 84 (.agg #[.int .i64 m, .int .i64 m]) (.int .i64 1)).run Try.prog w = .ok (.int .i64 m) w := fun _ => by kernel_rfl
 go_wp2_with fail
 clear b49 ge50
 have F51 := ((F37.front 1 rfl rfl).set 1 (.int .i64 m)).nf #[.int .i64 m, .int .i64 m] rfl
 clear F37
 have Fn_ := (F51.drop 1 rfl)
 (try dsimp only [List.eraseIdx_cons_succ, List.eraseIdx_cons_zero] at Fn_)
 obtain ⟨w52, hx53, F55, hxs54⟩ := Fn_.name
 (try simp at hxs54)
 rw [hx53]
 clear hx53 F51 Fn_
 rw [rounds_succ]
 go_wp2_with fail
 rw [rounds_succ]
 have b56 := F55.bx2 0 rfl
 go_wp2_with fail
 clear b56
 refine (span_c m m _).mono ?_
 rintro e w59 ⟨rfl, hg57⟩
 have hg57s := hg57.size
 (try simp at hg57s)
 replace F55 := F55.gn hg57
 clear hg57
 have b61 := F55.bx2 1 rfl
 go_wp2_with fail
 clear b61
 have F62 := (F55.front 1 rfl rfl).pt2 (.int .i64 m) (.int .i64 m)
 clear F55
 have kb63 := F62.bx2 0 rfl
 go_wp2_with fail
 exact bodyPost_ret (v := .agg #[.int .i64 m, .int .i64 m]) (by simp [results, Try.results52, go_sem, kb63]) rfl (⟨rfl, F62.gb⟩)
def p7 : Pst := ⟨0, 2, 3⟩
theorem rsc7 : RscOk 1 [] p7 9 := ⟨⟨by decide, by decide⟩, by decide, (fun l h => by cases h), (fun l h => by cases h), ⟨by decide, by decide⟩, ⟨by decide, by decide, by decide⟩, ⟨by decide, by decide⟩⟩
theorem ds7 (u : Lg -> Bool) : dsS [] u (time0 1 0) 1 true (time0 1 0) := by
 unfold dsS
 rw [if_pos rfl]
 rfl
theorem goL7 : goL (time0 1 0) (time0 1 0) p7 1 = [⟨2, 3⟩] := by decide
def slcB : Value -> Bool
 | .slice _ _ _ => true
 | _ => false
def vEncR (v : Value) : List Value := [if slcB v = true then v else .slice none 0 0]
theorem infoRP : (Try.prog.info? 33).map (fun i => (i.zero, i.size, i.bytes)) = some (some (.slice none 0 0), 1, 24) := by kernel_rfl
theorem okRP : ElemOk Try.prog 93 33 1 24 vEncR where
 under := Try.underlying93
 info := info5 infoRP rfl
 pos := by omega
 small := by omega
 len := fun _ => rfl
 one := fun x u hu => by
  simp [vEncR] at hu
  subst hu
  split
  ·
   rename_i h
   cases x <;> first | rfl | cases h
  · rfl
abbrev R7 (w : World) (vp vq vw vc : Value) : Prop := RscAt w vp vq vw vc 1 [] p7 9
structure WatAt (w : World) (vp vq vw vc vt vl : Value) : Prop where
 r : R7 w vp vq vw vc
 g : ∃ vg, (∃ lo hi, Sl vEncR 1 lo hi w vt [vg] /\ hi <= w.heap.size) /\ ∃ lo hi, Sl spEnc 2 lo hi w vg [⟨2, 3⟩] /\ hi <= w.heap.size
 l : ∃ lo hi, Sl spEnc 2 lo hi w vl [⟨9, 9⟩] /\ hi <= w.heap.size
def WatP (vp vq vw vc : Value) (w : World) : Ending -> World -> Prop := fun e w' => ∃ (at_ ag al : Option Addr) (ct cg cl lo hi : Nat), e = .returned (.agg #[.int .i64 1, vp, vq, vw, vc, .slice at_ 1 ct, .slice al 1 cl]) /\ (w.heap.size <= lo /\ hi <= w'.heap.size) /\ Sl vEncR 1 lo hi w' (.slice at_ 1 ct) [.slice ag 1 cg] /\ Sl spEnc 2 lo hi w' (.slice ag 1 cg) [⟨2, 3⟩] /\ Sl spEnc 2 lo hi w' (.slice al 1 cl) [⟨9, 9⟩] /\ w.grownBy w' none
def AskP (vp vq vw vc : Value) (w : World) : Ending -> World -> Prop := fun e w' => ∃ (at_ ag al : Option Addr) (ct cg cl lo hi : Nat), e = .returned (.tuple #[.agg #[.int .i64 1, vp, vq, vw, vc, .slice at_ 1 ct, .slice al 1 cl], .int .i64 0]) /\ (w.heap.size <= lo /\ hi <= w'.heap.size) /\ Sl vEncR 1 lo hi w' (.slice at_ 1 ct) [.slice ag 1 cg] /\ Sl spEnc 2 lo hi w' (.slice ag 1 cg) [⟨2, 3⟩] /\ Sl spEnc 2 lo hi w' (.slice al 1 cl) [⟨9, 9⟩] /\ w.grownBy w' none
theorem goes7 (vp vq vw vc : Value) (w : World) (hr : R7 w vp vq vw vc) : Calls Try.prog 17 #[.agg #[.int .i64 1, vp, vq, vw, vc], .agg #[.int .i64 0, .int .i64 2, .int .i64 3, .int .i64 0, .int .i64 0, .int .i64 0, .slice none 0 0]] w (GoP 1 [⟨2, 3⟩] w) := by
 have h := goes_c vp vq vw vc 1 [] p7 9 1 (time0 1 0) (time0 1 0) w hr rsc7 (by decide) (ds7 useP) (ds7 useS)
 rw [goL7] at h
 exact h
theorem lives7 (vp vq vw vc : Value) (w : World) (hr : R7 w vp vq vw vc) : Calls Try.prog 52 #[.agg #[.int .i64 1, vp, vq, vw, vc], .agg #[.int .i64 0, .int .i64 0]] w (Ret (.agg #[.int .i64 9, .int .i64 9]) w) := lives_c vp vq vw vc 1 [] p7 9 w hr rsc7
set_option maxHeartbeats 8000000 in
theorem manned_c (a b c : Int) (w : World)  :
  Calls Try.prog 53 #[.agg #[.int .i64 a, .int .i64 b, .int .i64 c, .int .i64 0, .int .i64 0, .int .i64 0, .slice none 0 0], .int .i64 0] w (Ret (.bool true) w) := by
 have F1 : Bun w [] w := Bun.nil _
 go_enter Try.func53, Try.ntmps53
 go_wp2_with fail
 replace F1 := F1.new 35 #[.int .i64 a, .int .i64 b, .int .i64 c, .int .i64 0, .int .i64 0, .int .i64 0, .slice none 0 0] (n := w.heap.size) (by simp)
 go_ret
 exact ⟨rfl, F1.gb⟩
set_option maxHeartbeats 8000000 in
theorem soonest_c (lo hi : Nat) (v : Value) (w : World) (hl : Sl spEnc 2 lo hi w v [⟨2, 3⟩]) (h2 : hi <= w.heap.size) :
  Calls Try.prog 54 #[v] w (Ret (.agg #[.int .i64 2, .int .i64 3]) w) := by
 have F1 : Bun w [] w := Bun.nil _
 have hm_so := hl.len
 unfold maxLen at hm_so
 obtain ⟨aS, cS, rfl⟩ := hl.any
 replace F1 := F1.sl0 hl h2 rfl
 clear hl
 obtain ⟨x3, o4, e_⟩ := Sl.addr (F1.at 0 rfl : Sl spEnc 2 lo hi _ (.slice aS [(⟨2, 3⟩ : Sp)].length cS) ([(⟨2, 3⟩ : Sp)])) Nat.zero_lt_one
 subst e_
 have hz5 : Hid (([(⟨2, 3⟩ : Sp)])[0]? = some (⟨2, 3⟩ : Sp)) := lhd (rfl)
 go_enter Try.func54, Try.ntmps54
 go_wp2_with fail
 replace F1 := F1.new 31 #[.int .i64 0, .int .i64 0] (n := w.heap.size) (by simp)
 replace F1 := F1.new 31 #[.int .i64 1000000, .int .i64 1000000] (n := (w.heap.size + 1)) (by simp)
 have Fn_ := F1
 (try dsimp only [List.eraseIdx_cons_succ, List.eraseIdx_cons_zero] at Fn_)
 obtain ⟨w8, hx9, F11, hxs10⟩ := Fn_.name
 (try simp at hxs10)
 rw [hx9]
 clear hx9 F1 Fn_
 refine wp_loop_rounds 2 ?_
 rw [rounds_succ]
 have ge12 : World.cell? _ ⟨x3, o4, none⟩ = some (.int .i64 2) := (by have h_ := Sl.cells (F11.at 2 rfl) hz5.out 0 _ rfl; simpa [Nat.add_assoc] using h_)
 have gl13 := cell_lt ge12
 have ge14 : World.cell? _ ⟨x3, o4 + 1, none⟩ = some (.int .i64 3) := (by have h_ := Sl.cells (F11.at 2 rfl) hz5.out 1 _ rfl; simpa [Nat.add_assoc] using h_)
 replace F11 := F11.new 31 #[.int .i64 2, .int .i64 3] (n := w8.heap.size) (by simp)
 have b16 := F11.bx2 0 rfl
 have b17 := F11.bx2 1 rfl
 go_wp2_with fail
 clear b16 b17
 clear ge12 gl13 ge14
 have F18 := (F11.front 1 rfl rfl).pt2 (.int .i64 (min 1000000 2)) (.int .i64 (min 1000000 3))
 clear F11
 have Fn_ := (F18.drop 1 rfl)
 (try dsimp only [List.eraseIdx_cons_succ, List.eraseIdx_cons_zero] at Fn_)
 obtain ⟨w19, hx20, F22, hxs21⟩ := Fn_.name
 (try simp at hxs21)
 rw [hx20]
 clear hx20 F18 Fn_
 rw [rounds_succ]
 have Hx23 := lhd (show ((2 : Int)) = min 1000000 2 by decide)
 have Hx24 := lhd (show ((3 : Int)) = min 1000000 3 by decide)
 have b25 := F22.bx2 0 rfl
 have b26 := F22.bx2 1 rfl
 go_wp2_with fail
 clear b25 b26
 have F27 := (F22.front 1 rfl rfl).pt2 (.int .i64 (min 1000000 2)) (.int .i64 (min 1000000 3))
 clear F22
 have kb28 := F27.bx2 0 rfl
 go_wp2_with fail
 exact bodyPost_ret (v := .agg #[.int .i64 (min 1000000 2), .int .i64 (min 1000000 3)]) (by simp [results, Try.results54, go_sem, kb28]) rfl (⟨by rw [Hx23.out, Hx24.out] <;> rfl, F27.gb⟩)
theorem rng_watchOf_c (t : Nat -> Value) : ((List.range 43).map t).toArray = List.toArray [t 0, t 1, t 2, t 3, t 4, t 5, t 6, t 7, t 8, t 9, t 10, t 11, t 12, t 13, t 14, t 15, t 16, t 17, t 18, t 19, t 20, t 21, t 22, t 23, t 24, t 25, t 26, t 27, t 28, t 29, t 30, t 31, t 32, t 33, t 34, t 35, t 36, t 37, t 38, t 39, t 40, t 41, t 42] := rfl
set_option maxHeartbeats 32000000 in
theorem watchOf_c (vp vq vw vc : Value) (w : World) (hr : R7 w vp vq vw vc) :
  Calls Try.prog 47 #[.agg #[.int .i64 1, vp, vq, vw, vc]] w (WatP vp vq vw vc w) := by
 have F1 : Bun w [] w := Bun.nil _
 obtain ⟨⟨lo1, hi1, hl1, hh1⟩, ⟨lo2, hi2, hl2, hh2⟩, ⟨lo3, hi3, hl3, hh3⟩, ⟨lo4, hi4, hl4, hh4⟩⟩ := hr
 have hm_ps := hl1.len
 unfold maxLen at hm_ps
 obtain ⟨a1_, c1_, rfl⟩ := hl1.any
 replace F1 := F1.sl0 hl1 hh1 rfl
 clear hl1
 have hm_po := hl2.len
 unfold maxLen at hm_po
 obtain ⟨a2_, c2_, rfl⟩ := hl2.any
 replace F1 := F1.sl0 hl2 hh2 rfl
 clear hl2
 have hm_wa := hl3.len
 unfold maxLen at hm_wa
 obtain ⟨a3_, c3_, rfl⟩ := hl3.any
 replace F1 := F1.sl0 hl3 hh3 rfl
 clear hl3
 have hm_ch := hl4.len
 unfold maxLen at hm_ch
 obtain ⟨a4_, c4_, rfl⟩ := hl4.any
 replace F1 := F1.sl0 hl4 hh4 rfl
 clear hl4
 obtain ⟨x6, o7, e_⟩ := Sl.addr (F1.at 2 rfl : Sl poEnc 7 lo2 hi2 _ (.slice a2_ [p7].length c2_) [p7]) Nat.zero_lt_one
 subst e_
 have hz8 : Hid ([p7][0]? = some p7) := lhd (rfl)
 obtain ⟨x9, o10, e_⟩ := Sl.addr (F1.at 1 rfl : Sl spEnc 2 lo3 hi3 _ (.slice a3_ (ws0 1).length c3_) (ws0 1)) Nat.zero_lt_one
 subst e_
 have hz11 : Hid ((ws0 1)[0]? = some (⟨0, 0⟩ : Sp)) := lhd (rfl)
 obtain ⟨x12, o13, e_⟩ := Sl.addr (F1.at 0 rfl : Sl chEnc 3 lo4 hi4 _ (.slice a4_ [(9 : Int)].length c4_) ([(9 : Int)])) Nat.zero_lt_one
 subst e_
 have hz14 : Hid (([(9 : Int)])[0]? = some (9 : Int)) := lhd (rfl)
 go_enter Try.func47, Try.ntmps47
 replace F1 := F1.nilrow vEncR 33 1
 go_wp2_with fail
 replace F1 := F1.new 42 #[.int .i64 1, .slice a1_ 0 c1_, .slice (some ⟨x6, o7, none⟩) 1 c2_, .slice (some ⟨x9, o10, none⟩) 1 c3_, .slice (some ⟨x12, o13, none⟩) 1 c4_] (n := w.heap.size) (by simp)
 replace F1 := F1.new 95 #[.int .i64 0, .slice none 0 0, .slice none 0 0, .slice none 0 0, .slice none 0 0, .slice none 0 0, .slice none 0 0] (n := (w.heap.size + 1)) (by simp)
 replace F1 := F1.new 95 #[.int .i64 1, .slice a1_ 0 c1_, .slice (some ⟨x6, o7, none⟩) 1 c2_, .slice (some ⟨x9, o10, none⟩) 1 c3_, .slice (some ⟨x12, o13, none⟩) 1 c4_, .slice none 0 0, .slice none 0 0] (n := (w.heap.size + 2)) (by simp)
 refine wp_loop_rounds 2 ?_
 rw [rounds_succ]
 have ge19 : World.cell? _ ⟨x6, o7, none⟩ = some (.int .i64 0) := (by have h_ := Sl.cells (F1.at 6 rfl) hz8.out 0 _ rfl; simpa [Nat.add_assoc, p7] using h_)
 have gl20 := cell_lt ge19
 have ge21 : World.cell? _ ⟨x6, o7 + 1, none⟩ = some (.int .i64 2) := (by have h_ := Sl.cells (F1.at 6 rfl) hz8.out 1 _ rfl; simpa [Nat.add_assoc, p7] using h_)
 have ge22 : World.cell? _ ⟨x6, o7 + 2, none⟩ = some (.int .i64 3) := (by have h_ := Sl.cells (F1.at 6 rfl) hz8.out 2 _ rfl; simpa [Nat.add_assoc, p7] using h_)
 have ge23 : World.cell? _ ⟨x6, o7 + 3, none⟩ = some (.int .i64 0) := (by have h_ := Sl.cells (F1.at 6 rfl) hz8.out 3 _ rfl; simpa [Nat.add_assoc, p7] using h_)
 have ge24 : World.cell? _ ⟨x6, o7 + 4, none⟩ = some (.int .i64 0) := (by have h_ := Sl.cells (F1.at 6 rfl) hz8.out 4 _ rfl; simpa [Nat.add_assoc, p7] using h_)
 have ge25 : World.cell? _ ⟨x6, o7 + 5, none⟩ = some (.int .i64 0) := (by have h_ := Sl.cells (F1.at 6 rfl) hz8.out 5 _ rfl; simpa [Nat.add_assoc, p7] using h_)
 have ge26 : World.cell? _ ⟨x6, o7 + 6, none⟩ = some (.slice none 0 0) := (by have h_ := Sl.cells (F1.at 6 rfl) hz8.out 6 _ rfl; simpa [Nat.add_assoc, p7] using h_)
 go_wp2_with fail
 clear ge19 gl20 ge21 ge22 ge23 ge24 ge25 ge26
 replace F1 := F1.new 35 #[.int .i64 0, .int .i64 2, .int .i64 3, .int .i64 0, .int .i64 0, .int .i64 0, .slice none 0 0] (n := (w.heap.size + 3)) (by simp)
 have Fn_ := F1
 (try dsimp only [List.eraseIdx_cons_succ, List.eraseIdx_cons_zero] at Fn_)
 obtain ⟨w28, hx29, F31, hxs30⟩ := Fn_.name
 (try simp at hxs30)
 rw [hx29]
 clear hx29 F1 Fn_
 replace F31 := F31.drew
 refine ru_begin (fun W => W.cell? ⟨(w.heap.size + 2), 5, none⟩ = some (.slice none 0 0) /\ W.cell? ⟨w.heap.size, 0, none⟩ = some (.int .i64 1) /\ W.cell? ⟨w.heap.size, 1, none⟩ = some (.slice a1_ 0 c1_) /\ W.cell? ⟨w.heap.size, 2, none⟩ = some (.slice (some ⟨x6, o7, none⟩) 1 c2_) /\ W.cell? ⟨w.heap.size, 3, none⟩ = some (.slice (some ⟨x9, o10, none⟩) 1 c3_) /\ W.cell? ⟨w.heap.size, 4, none⟩ = some (.slice (some ⟨x12, o13, none⟩) 1 c4_) /\ W.cell? ⟨(w.heap.size + 3), 0, none⟩ = some (.int .i64 0) /\ W.cell? ⟨(w.heap.size + 3), 1, none⟩ = some (.int .i64 2) /\ W.cell? ⟨(w.heap.size + 3), 2, none⟩ = some (.int .i64 3) /\ W.cell? ⟨(w.heap.size + 3), 3, none⟩ = some (.int .i64 0) /\ W.cell? ⟨(w.heap.size + 3), 4, none⟩ = some (.int .i64 0) /\ W.cell? ⟨(w.heap.size + 3), 5, none⟩ = some (.int .i64 0) /\ W.cell? ⟨(w.heap.size + 3), 6, none⟩ = some (.slice none 0 0)) 8 (by kernel_rfl) ?_ ?_
 · exact ⟨F31.q 1 5, F31.q 3 0, F31.q 3 1, F31.q 3 2, F31.q 3 3, F31.q 3 4, F31.q 0 0, F31.q 0 1, F31.q 0 2, F31.q 0 3, F31.q 0 4, F31.q 0 5, F31.q 0 6⟩
 obtain ⟨wd34, hwd_⟩ : ∃ x : World, w28.drew = x := ⟨_, rfl⟩
 rw [hwd_] at F31 ⊢
 have wd34s : w28.heap.size <= wd34.heap.size := by rw [← hwd_]; exact Nat.le_refl _
 clear hwd_
 have hS33 := (And.intro (F31.q 1 5) (And.intro (F31.q 3 0) (And.intro (F31.q 3 1) (And.intro (F31.q 3 2) (And.intro (F31.q 3 3) (And.intro (F31.q 3 4) (And.intro (F31.q 0 0) (And.intro (F31.q 0 1) (And.intro (F31.q 0 2) (And.intro (F31.q 0 3) (And.intro (F31.q 0 4) (And.intro (F31.q 0 5) (F31.q 0 6)))))))))))))
 refine ru_t 0 [] ?_
 refine ru_t 1 [] ?_
 refine ru_t 2 [] ?_
 refine ru_t 3 [] ?_
 (try simp only [lpX])
 clear hS33
 refine ru_state 43 (fun t w_ => ∃ (ags : Option Addr) (cgs : Nat) (logs : Nat) (higs : Nat) (yg5 : Nat) (yg6 : Nat) (yc6 : Nat), (w.heap.size <= logs) /\ (higs <= w_.heap.size) /\ t 1 = .pointer (some ⟨w.heap.size, 0, none⟩) /\ t 2 = .pointer (some ⟨w.heap.size + 1, 0, none⟩) /\ t 3 = .pointer (some ⟨w.heap.size + 2, 0, none⟩) /\ t 11 = .slice (some ⟨x6, o7, none⟩) 1 c2_ /\ t 12 = .int .i64 1 /\ t 13 = .int .i64 0 /\ w28.heap.size <= w_.heap.size /\ Bun w [rbox (w.heap.size + 2) 95 #[.int .i64 1, .slice a1_ 0 c1_, .slice (some ⟨x6, o7, none⟩) 1 c2_, .slice (some ⟨x9, o10, none⟩) 1 c3_, .slice (some ⟨x12, o13, none⟩) 1 c4_, .slice (some ⟨yg6, 0, none⟩) 1 yc6, .slice none 0 0], rown vEncR 33 1 w.heap.size (.slice (some ⟨yg6, 0, none⟩) 1 yc6) ([] ++ [(.slice ags 1 cgs : Value)]), rbox yg5 33 #[.slice ags 1 cgs], rsl spEnc 2 logs higs (.slice ags 1 cgs) ([(⟨2, 3⟩ : Sp)]), rbox (w.heap.size + 3) 35 #[.int .i64 0, .int .i64 2, .int .i64 3, .int .i64 0, .int .i64 0, .int .i64 0, .slice none 0 0], rbox (w.heap.size + 1) 95 #[.int .i64 0, .slice none 0 0, .slice none 0 0, .slice none 0 0, .slice none 0 0, .slice none 0 0, .slice none 0 0], rbox w.heap.size 42 #[.int .i64 1, .slice a1_ 0 c1_, .slice (some ⟨x6, o7, none⟩) 1 c2_, .slice (some ⟨x9, o10, none⟩) 1 c3_, .slice (some ⟨x12, o13, none⟩) 1 c4_], rsl chEnc 3 lo4 hi4 (.slice (some ⟨x12, o13, none⟩) 1 c4_) ([(9 : Int)]), rsl spEnc 2 lo3 hi3 (.slice (some ⟨x9, o10, none⟩) 1 c3_) (ws0 1), rsl poEnc 7 lo2 hi2 (.slice (some ⟨x6, o7, none⟩) 1 c2_) [p7], rsl ptEnc 5 lo1 hi1 (.slice a1_ 0 c1_) ([] : List Lg)] w_) #[true, true, true, true, true, true, true, true, true] 0 ?st35 ?nx35
 case st35 =>
  rintro t w36 ⟨ags, cgs, logs, higs, yg5, yg6, yc6, hxg_, hyg_, e1, e2, e3, e11, e12, e13, hsz35, F37⟩
  clear F31
  rw [rng_watchOf_c t, e1, e2, e3, e11, e12, e13]
  clear e1 e2 e3 e11 e12 e13
  have hws35 := F37.gb.size
  have yg6l := (F37.ltAt 1 rfl _ rfl).1
  have yg5l := F37.ltAt 2 rfl yg5 rfl
  have yg5b := yg5l.2 rfl
  refine ru_done (by kernel_rfl) ?_
  have Fn_ := ((F37.drop 2 rfl).drop 3 rfl)
  (try dsimp only [List.eraseIdx_cons_succ, List.eraseIdx_cons_zero] at Fn_)
  obtain ⟨w38, hx39, F41, hxs40⟩ := Fn_.name
  (try simp at hxs40)
  rw [hx39]
  clear hx39 F37 Fn_
  go_wp2_with fail
  rw [rounds_succ]
  obtain ⟨gT_, rfl⟩ : ∃ x_ : Nat, x_ = yg6 := ⟨_, rfl⟩
  obtain ⟨cT_, rfl⟩ : ∃ x_ : Nat, x_ = yc6 := ⟨_, rfl⟩
  replace F41 := F41.nilrow spEnc 31 2
  have b43 := F41.bx5 5 rfl
  go_wp2_with fail
  clear b43
  refine wp_loop_rounds 2 ?_
  rw [rounds_succ]
  have ge44 : World.cell? _ ⟨x9, o10, none⟩ = some (.int .i64 0) := (by have h_ := Sl.cells (F41.at 7 rfl) hz11.out 0 _ rfl; simpa [Nat.add_assoc] using h_)
  have gl45 := cell_lt ge44
  have ge46 : World.cell? _ ⟨x9, o10 + 1, none⟩ = some (.int .i64 0) := (by have h_ := Sl.cells (F41.at 7 rfl) hz11.out 1 _ rfl; simpa [Nat.add_assoc] using h_)
  go_wp2_with fail
  clear ge44 gl45 ge46
  replace F41 := F41.new 31 #[.int .i64 0, .int .i64 0] (n := w38.heap.size) (by simp)
  have Fn_ := F41
  (try dsimp only [List.eraseIdx_cons_succ, List.eraseIdx_cons_zero] at Fn_)
  obtain ⟨w48, hx49, F51, hxs50⟩ := Fn_.name
  (try simp at hxs50)
  rw [hx49]
  clear hx49 F41 Fn_
  replace F51 := F51.drew
  refine ru_begin (fun W => W.cell? ⟨(w.heap.size + 2), 6, none⟩ = some (.slice none 0 0) /\ W.cell? ⟨w.heap.size, 0, none⟩ = some (.int .i64 1) /\ W.cell? ⟨w.heap.size, 1, none⟩ = some (.slice a1_ 0 c1_) /\ W.cell? ⟨w.heap.size, 2, none⟩ = some (.slice (some ⟨x6, o7, none⟩) 1 c2_) /\ W.cell? ⟨w.heap.size, 3, none⟩ = some (.slice (some ⟨x9, o10, none⟩) 1 c3_) /\ W.cell? ⟨w.heap.size, 4, none⟩ = some (.slice (some ⟨x12, o13, none⟩) 1 c4_) /\ W.cell? ⟨w38.heap.size, 0, none⟩ = some (.int .i64 0) /\ W.cell? ⟨w38.heap.size, 1, none⟩ = some (.int .i64 0)) 8 (by kernel_rfl) ?_ ?_
  · exact ⟨F51.q 2 6, F51.q 6 0, F51.q 6 1, F51.q 6 2, F51.q 6 3, F51.q 6 4, F51.q 0 0, F51.q 0 1⟩
  obtain ⟨wd54, hwd_⟩ : ∃ x : World, w48.drew = x := ⟨_, rfl⟩
  rw [hwd_] at F51 ⊢
  have wd54s : w48.heap.size <= wd54.heap.size := by rw [← hwd_]; exact Nat.le_refl _
  clear hwd_
  have hS53 := (And.intro (F51.q 2 6) (And.intro (F51.q 6 0) (And.intro (F51.q 6 1) (And.intro (F51.q 6 2) (And.intro (F51.q 6 3) (And.intro (F51.q 6 4) (And.intro (F51.q 0 0) (F51.q 0 1))))))))
  refine ru_t 0 [] ?_
  refine ru_t 1 [] ?_
  refine ru_t 2 [] ?_
  refine ru_t 3 [] ?_
  (try simp only [lpX])
  clear hS53
  refine ru_state 43 (fun t w_ => ∃ (yg5 : Nat) (yg6 : Nat) (yc6 : Nat), t 1 = .pointer (some ⟨w.heap.size, 0, none⟩) /\ t 2 = .pointer (some ⟨w.heap.size + 1, 0, none⟩) /\ t 3 = .pointer (some ⟨w.heap.size + 2, 0, none⟩) /\ t 27 = .slice (some ⟨x9, o10, none⟩) 1 c3_ /\ t 28 = .int .i64 1 /\ t 29 = .int .i64 0 /\ w48.heap.size <= w_.heap.size /\ Bun w [rbox (w.heap.size + 2) 95 #[.int .i64 1, .slice a1_ 0 c1_, .slice (some ⟨x6, o7, none⟩) 1 c2_, .slice (some ⟨x9, o10, none⟩) 1 c3_, .slice (some ⟨x12, o13, none⟩) 1 c4_, .slice (some ⟨gT_, 0, none⟩) 1 cT_, .slice (some ⟨yg6, 0, none⟩) 1 yc6], rown spEnc 31 2 w.heap.size (.slice (some ⟨yg6, 0, none⟩) 1 yc6) ([] ++ [(⟨9, 9⟩ : Sp)]), rbox yg5 31 #[.int .i64 9, .int .i64 9], rbox w38.heap.size 31 #[.int .i64 0, .int .i64 0], rown vEncR 33 1 w.heap.size (.slice (some ⟨gT_, 0, none⟩) 1 cT_) ([] ++ [(.slice ags 1 cgs : Value)]), rsl spEnc 2 logs higs (.slice ags 1 cgs) ([(⟨2, 3⟩ : Sp)]), rbox (w.heap.size + 1) 95 #[.int .i64 0, .slice none 0 0, .slice none 0 0, .slice none 0 0, .slice none 0 0, .slice none 0 0, .slice none 0 0], rbox w.heap.size 42 #[.int .i64 1, .slice a1_ 0 c1_, .slice (some ⟨x6, o7, none⟩) 1 c2_, .slice (some ⟨x9, o10, none⟩) 1 c3_, .slice (some ⟨x12, o13, none⟩) 1 c4_], rsl chEnc 3 lo4 hi4 (.slice (some ⟨x12, o13, none⟩) 1 c4_) ([(9 : Int)]), rsl spEnc 2 lo3 hi3 (.slice (some ⟨x9, o10, none⟩) 1 c3_) (ws0 1), rsl poEnc 7 lo2 hi2 (.slice (some ⟨x6, o7, none⟩) 1 c2_) [p7], rsl ptEnc 5 lo1 hi1 (.slice a1_ 0 c1_) ([] : List Lg)] w_) #[true, true, true, true, true, true, true, true, true] 0 ?st55 ?nx55
  case st55 =>
   rintro t w56 ⟨yg5, yg6, yc6, e1, e2, e3, e27, e28, e29, hsz55, F57⟩
   clear F51
   rw [rng_watchOf_c t, e1, e2, e3, e27, e28, e29]
   clear e1 e2 e3 e27 e28 e29
   have hws55 := F57.gb.size
   have yg6l := (F57.ltAt 1 rfl _ rfl).1
   have yg5l := F57.ltAt 2 rfl yg5 rfl
   have yg5b := yg5l.2 rfl
   refine ru_done (by kernel_rfl) ?_
   have Fn_ := ((F57.drop 2 rfl).drop 2 rfl)
   (try dsimp only [List.eraseIdx_cons_succ, List.eraseIdx_cons_zero] at Fn_)
   obtain ⟨w58, hx59, F61, hxs60⟩ := Fn_.name
   (try simp at hxs60)
   rw [hx59]
   clear hx59 F57 Fn_
   go_wp2_with fail
   rw [rounds_succ]
   have b62 := F61.bx7 0 rfl
   have b63 := F61.bx7 4 rfl
   go_wp2_with fail
   clear b62 b63
   have F64 := (F61.front 4 rfl rfl).pt7 (.int .i64 1) (.slice a1_ 0 c1_) (.slice (some ⟨x6, o7, none⟩) 1 c2_) (.slice (some ⟨x9, o10, none⟩) 1 c3_) (.slice (some ⟨x12, o13, none⟩) 1 c4_) (.slice (some ⟨gT_, 0, none⟩) 1 cT_) (.slice (some ⟨yg6, 0, none⟩) 1 yc6)
   clear F61
   have kb65 := F64.bx7 0 rfl
   go_wp2_with fail
   exact bodyPost_ret (v := .agg #[.int .i64 1, .slice a1_ 0 c1_, .slice (some ⟨x6, o7, none⟩) 1 c2_, .slice (some ⟨x9, o10, none⟩) 1 c3_, .slice (some ⟨x12, o13, none⟩) 1 c4_, .slice (some ⟨gT_, 0, none⟩) 1 cT_, .slice (some ⟨yg6, 0, none⟩) 1 yc6]) (by simp [results, Try.results47, go_sem, kb65]) rfl (⟨_, _, _, _, _, _, w.heap.size, _, rfl, ⟨Nat.le_refl _, Nat.le_refl _⟩, (Own.sl (F64.at 3 rfl : Own vEncR 33 1 w.heap.size _ (.slice (some ⟨gT_, 0, none⟩) 1 cT_) ([] ++ [(.slice ags 1 cgs : Value)])) (fun _ => rfl)), ((F64.at 4 rfl : Sl spEnc 2 logs higs _ (.slice ags 1 cgs) ([(⟨2, 3⟩ : Sp)])).wide (by first | omega | (simp; omega)) (by first | omega | (simp; omega))), (Own.sl (F64.at 2 rfl : Own spEnc 31 2 w.heap.size _ (.slice (some ⟨yg6, 0, none⟩) 1 yc6) ([] ++ [(⟨9, 9⟩ : Sp)])) (fun _ => rfl)), F64.gb⟩)
  intro hZ55
  refine ru_state 43 (fun t w_ => ∃ (yg5 : Nat) (yg6 : Nat) (yc6 : Nat), t 1 = .pointer (some ⟨w.heap.size, 0, none⟩) /\ t 2 = .pointer (some ⟨w.heap.size + 1, 0, none⟩) /\ t 3 = .pointer (some ⟨w.heap.size + 2, 0, none⟩) /\ t 27 = .slice (some ⟨x9, o10, none⟩) 1 c3_ /\ t 28 = .int .i64 1 /\ t 29 = .int .i64 0 /\ t 39 = .slice (some ⟨yg6, 0, none⟩) 1 yc6 /\ t 40 = .pointer (some ⟨w.heap.size + 2, 6, none⟩) /\ w48.heap.size <= w_.heap.size /\ Bun w [rown spEnc 31 2 w.heap.size (.slice (some ⟨yg6, 0, none⟩) 1 yc6) ([] ++ [(⟨9, 9⟩ : Sp)]), rbox yg5 31 #[.int .i64 9, .int .i64 9], rbox w38.heap.size 31 #[.int .i64 0, .int .i64 0], rbox (w.heap.size + 2) 95 #[.int .i64 1, .slice a1_ 0 c1_, .slice (some ⟨x6, o7, none⟩) 1 c2_, .slice (some ⟨x9, o10, none⟩) 1 c3_, .slice (some ⟨x12, o13, none⟩) 1 c4_, .slice (some ⟨gT_, 0, none⟩) 1 cT_, .slice none 0 0], rown vEncR 33 1 w.heap.size (.slice (some ⟨gT_, 0, none⟩) 1 cT_) ([] ++ [(.slice ags 1 cgs : Value)]), rsl spEnc 2 logs higs (.slice ags 1 cgs) ([(⟨2, 3⟩ : Sp)]), rbox (w.heap.size + 1) 95 #[.int .i64 0, .slice none 0 0, .slice none 0 0, .slice none 0 0, .slice none 0 0, .slice none 0 0, .slice none 0 0], rbox w.heap.size 42 #[.int .i64 1, .slice a1_ 0 c1_, .slice (some ⟨x6, o7, none⟩) 1 c2_, .slice (some ⟨x9, o10, none⟩) 1 c3_, .slice (some ⟨x12, o13, none⟩) 1 c4_], rsl chEnc 3 lo4 hi4 (.slice (some ⟨x12, o13, none⟩) 1 c4_) ([(9 : Int)]), rsl spEnc 2 lo3 hi3 (.slice (some ⟨x9, o10, none⟩) 1 c3_) (ws0 1), rsl poEnc 7 lo2 hi2 (.slice (some ⟨x6, o7, none⟩) 1 c2_) [p7], rsl ptEnc 5 lo1 hi1 (.slice a1_ 0 c1_) ([] : List Lg)] w_) #[true, true, true, true, true, true, true, true, false] 1 ?st66 ?nx66
  case st66 =>
   rintro t w67 ⟨yg5, yg6, yc6, e1, e2, e3, e27, e28, e29, e39, e40, hsz66, F68⟩
   clear F51
   rw [rng_watchOf_c t, e1, e2, e3, e27, e28, e29, e39, e40]
   clear e1 e2 e3 e27 e28 e29 e39 e40
   have hws66 := F68.gb.size
   have yg6l := (F68.ltAt 0 rfl _ rfl).1
   have yg5l := F68.ltAt 1 rfl yg5 rfl
   have yg5b := yg5l.2 rfl
   refine ru_one 8 rfl (by kernel_rfl) (fun K hK => ?_)
   have kb_ := F68.bx7 3 rfl
   go_simp
   clear kb_
   have F69 := ((F68.front 3 rfl rfl).set 6 (.slice (some ⟨yg6, 0, none⟩) 1 yc6)).nf #[.int .i64 1, .slice a1_ 0 c1_, .slice (some ⟨x6, o7, none⟩) 1 c2_, .slice (some ⟨x9, o10, none⟩) 1 c3_, .slice (some ⟨x12, o13, none⟩) 1 c4_, .slice (some ⟨gT_, 0, none⟩) 1 cT_, .slice (some ⟨yg6, 0, none⟩) 1 yc6] rfl
   clear F68
   refine ru_back_late hK (by kernel_rfl) ?_
   exact hZ55.out _ _ _ (by kernel_rfl) (by kernel_rfl) rfl ⟨yg5, yg6, yc6, by (iterate 6 refine ⟨by kernel_rfl, ?_⟩); exact ⟨(by first | omega | (simp; done) | (simp; omega)), F69⟩⟩
  intro hZ66
  refine ru_state 43 (fun t w_ => ∃ (yg5 : Nat), t 1 = .pointer (some ⟨w.heap.size, 0, none⟩) /\ t 2 = .pointer (some ⟨w.heap.size + 1, 0, none⟩) /\ t 3 = .pointer (some ⟨w.heap.size + 2, 0, none⟩) /\ t 27 = .slice (some ⟨x9, o10, none⟩) 1 c3_ /\ t 28 = .int .i64 1 /\ t 29 = .int .i64 0 /\ t 34 = .slice none 0 0 /\ t 38 = .slice (some ⟨yg5, 0, none⟩) 1 1 /\ w48.heap.size <= w_.heap.size /\ Bun w [rbox yg5 31 #[.int .i64 9, .int .i64 9], rbox w38.heap.size 31 #[.int .i64 0, .int .i64 0], rown spEnc 31 2 w.heap.size (.slice none 0 0) [], rbox (w.heap.size + 2) 95 #[.int .i64 1, .slice a1_ 0 c1_, .slice (some ⟨x6, o7, none⟩) 1 c2_, .slice (some ⟨x9, o10, none⟩) 1 c3_, .slice (some ⟨x12, o13, none⟩) 1 c4_, .slice (some ⟨gT_, 0, none⟩) 1 cT_, .slice none 0 0], rown vEncR 33 1 w.heap.size (.slice (some ⟨gT_, 0, none⟩) 1 cT_) ([] ++ [(.slice ags 1 cgs : Value)]), rsl spEnc 2 logs higs (.slice ags 1 cgs) ([(⟨2, 3⟩ : Sp)]), rbox (w.heap.size + 1) 95 #[.int .i64 0, .slice none 0 0, .slice none 0 0, .slice none 0 0, .slice none 0 0, .slice none 0 0, .slice none 0 0], rbox w.heap.size 42 #[.int .i64 1, .slice a1_ 0 c1_, .slice (some ⟨x6, o7, none⟩) 1 c2_, .slice (some ⟨x9, o10, none⟩) 1 c3_, .slice (some ⟨x12, o13, none⟩) 1 c4_], rsl chEnc 3 lo4 hi4 (.slice (some ⟨x12, o13, none⟩) 1 c4_) ([(9 : Int)]), rsl spEnc 2 lo3 hi3 (.slice (some ⟨x9, o10, none⟩) 1 c3_) (ws0 1), rsl poEnc 7 lo2 hi2 (.slice (some ⟨x6, o7, none⟩) 1 c2_) [p7], rsl ptEnc 5 lo1 hi1 (.slice a1_ 0 c1_) ([] : List Lg)] w_) #[true, true, true, true, true, true, false, false, false] 3 ?st70 ?nx70
  case st70 =>
   rintro t w71 ⟨yg5, e1, e2, e3, e27, e28, e29, e34, e38, hsz70, F72⟩
   clear F51
   rw [rng_watchOf_c t, e1, e2, e3, e27, e28, e29, e34, e38]
   clear e1 e2 e3 e27 e28 e29 e34 e38
   have hws70 := F72.gb.size
   have yg5l := F72.ltAt 0 rfl yg5 rfl
   have yg5b := yg5l.2 rfl
   refine ru_one 6 rfl (by kernel_rfl) (fun K hK => ?_)
   refine step_app _ okSp rfl _ _ rfl w.heap.size (.slice none 0 0) [] [(⟨9, 9⟩ : Sp)] rfl (by exact (F72.at 2 rfl : Own spEnc 31 2 w.heap.size _ (.slice none 0 0) [])) ⟨_, 0, none⟩ 1 1 rfl rfl (by decide) (news_of (F72.at 0 rfl : Bk _ yg5 31 #[.int .i64 9, .int .i64 9])) 1 (rfl) (by omega) (by first | omega | (simp; omega)) _ rfl ?_
   intro g73 cap74 w75 hp76
   have hp76s := hp76.gb.size
   (try simp at hp76s)
   have F77 := (F72.front 2 rfl rfl).app hp76 (Nat.le_refl _)
   clear F72
   refine ru_back hK (by exact ⟨F77.q 3 6, F77.q 7 0, F77.q 7 1, F77.q 7 2, F77.q 7 3, F77.q 7 4, F77.q 2 0, F77.q 2 1⟩) (fun _ => ?_)
   clear hK K
   (try simp only [lpX])
   refine ru_p 7 ?_
   (try simp only [lpX])
   exact hZ66.out _ _ _ (by kernel_rfl) (by kernel_rfl) rfl ⟨yg5, g73, cap74, by (iterate 8 refine ⟨by kernel_rfl, ?_⟩); exact ⟨(by first | omega | (simp; done) | (simp; omega)), F77⟩⟩
  intro hZ70
  refine ru_state 43 (fun t w_ => t 1 = .pointer (some ⟨w.heap.size, 0, none⟩) /\ t 2 = .pointer (some ⟨w.heap.size + 1, 0, none⟩) /\ t 3 = .pointer (some ⟨w.heap.size + 2, 0, none⟩) /\ t 27 = .slice (some ⟨x9, o10, none⟩) 1 c3_ /\ t 28 = .int .i64 1 /\ t 29 = .int .i64 0 /\ t 34 = .slice none 0 0 /\ t 37 = .agg #[.int .i64 9, .int .i64 9] /\ w48.heap.size <= w_.heap.size /\ Bun w [rbox w38.heap.size 31 #[.int .i64 0, .int .i64 0], rown spEnc 31 2 w.heap.size (.slice none 0 0) [], rbox (w.heap.size + 2) 95 #[.int .i64 1, .slice a1_ 0 c1_, .slice (some ⟨x6, o7, none⟩) 1 c2_, .slice (some ⟨x9, o10, none⟩) 1 c3_, .slice (some ⟨x12, o13, none⟩) 1 c4_, .slice (some ⟨gT_, 0, none⟩) 1 cT_, .slice none 0 0], rown vEncR 33 1 w.heap.size (.slice (some ⟨gT_, 0, none⟩) 1 cT_) ([] ++ [(.slice ags 1 cgs : Value)]), rsl spEnc 2 logs higs (.slice ags 1 cgs) ([(⟨2, 3⟩ : Sp)]), rbox (w.heap.size + 1) 95 #[.int .i64 0, .slice none 0 0, .slice none 0 0, .slice none 0 0, .slice none 0 0, .slice none 0 0, .slice none 0 0], rbox w.heap.size 42 #[.int .i64 1, .slice a1_ 0 c1_, .slice (some ⟨x6, o7, none⟩) 1 c2_, .slice (some ⟨x9, o10, none⟩) 1 c3_, .slice (some ⟨x12, o13, none⟩) 1 c4_], rsl chEnc 3 lo4 hi4 (.slice (some ⟨x12, o13, none⟩) 1 c4_) ([(9 : Int)]), rsl spEnc 2 lo3 hi3 (.slice (some ⟨x9, o10, none⟩) 1 c3_) (ws0 1), rsl poEnc 7 lo2 hi2 (.slice (some ⟨x6, o7, none⟩) 1 c2_) [p7], rsl ptEnc 5 lo1 hi1 (.slice a1_ 0 c1_) ([] : List Lg)] w_) #[true, true, true, true, true, false, false, false, false] 4 ?st78 ?nx78
  case st78 =>
   rintro t w79 ⟨e1, e2, e3, e27, e28, e29, e34, e37, hsz78, F80⟩
   clear F51
   rw [rng_watchOf_c t, e1, e2, e3, e27, e28, e29, e34, e37]
   clear e1 e2 e3 e27 e28 e29 e34 e37
   have hws78 := F80.gb.size
   refine ru_one 5 rfl (by kernel_rfl) (fun K hK => ?_)
   go_simp
   replace F80 := F80.new 31 #[.int .i64 9, .int .i64 9] (n := w79.heap.size) (by simp)
   refine ru_back hK (by exact ⟨F80.q 3 6, F80.q 7 0, F80.q 7 1, F80.q 7 2, F80.q 7 3, F80.q 7 4, F80.q 1 0, F80.q 1 1⟩) (fun _ => ?_)
   exact hZ70.out _ _ _ (by kernel_rfl) (by kernel_rfl) rfl ⟨w79.heap.size, by (iterate 8 refine ⟨by kernel_rfl, ?_⟩); exact ⟨(by first | omega | (simp; done) | (simp; omega)), F80⟩⟩
  intro hZ78
  refine ru_one 4 rfl (by kernel_rfl) (fun K hK => ?_)
  go_simp
  refine (lives7 _ _ _ _ _ ⟨⟨_, _, (F51.at 10 rfl : Sl ptEnc 5 lo1 hi1 _ (.slice a1_ 0 c1_) ([] : List Lg)), (Nat.le_trans hh1 F51.gb.size)⟩, ⟨_, _, (F51.at 9 rfl : Sl poEnc 7 lo2 hi2 _ (.slice (some ⟨x6, o7, none⟩) 1 c2_) [p7]), (Nat.le_trans hh2 F51.gb.size)⟩, ⟨_, _, (F51.at 8 rfl : Sl spEnc 2 lo3 hi3 _ (.slice (some ⟨x9, o10, none⟩) 1 c3_) (ws0 1)), (Nat.le_trans hh3 F51.gb.size)⟩, ⟨_, _, (F51.at 7 rfl : Sl chEnc 3 lo4 hi4 _ (.slice (some ⟨x12, o13, none⟩) 1 c4_) ([(9 : Int)])), (Nat.le_trans hh4 F51.gb.size)⟩⟩).mono ?_
  rintro e w84 ⟨rfl, hg82⟩
  have hg82s := hg82.size
  (try simp at hg82s)
  replace F51 := F51.gn hg82
  refine ru_back hK (by exact ⟨F51.q 2 6, F51.q 6 0, F51.q 6 1, F51.q 6 2, F51.q 6 3, F51.q 6 4, F51.q 0 0, F51.q 0 1⟩) (fun _ => ?_)
  exact hZ78.out _ _ _ (by kernel_rfl) (by kernel_rfl) rfl (by (iterate 8 refine ⟨by kernel_rfl, ?_⟩); exact ⟨(by first | omega | (simp; done) | (simp; omega)), F51⟩)
 intro hZ35
 refine ru_state 43 (fun t w_ => ∃ (ags : Option Addr) (cgs : Nat) (logs : Nat) (higs : Nat) (yg5 : Nat) (yg6 : Nat) (yc6 : Nat), (w.heap.size <= logs) /\ (higs <= w_.heap.size) /\ t 1 = .pointer (some ⟨w.heap.size, 0, none⟩) /\ t 2 = .pointer (some ⟨w.heap.size + 1, 0, none⟩) /\ t 3 = .pointer (some ⟨w.heap.size + 2, 0, none⟩) /\ t 11 = .slice (some ⟨x6, o7, none⟩) 1 c2_ /\ t 12 = .int .i64 1 /\ t 13 = .int .i64 0 /\ t 23 = .slice (some ⟨yg6, 0, none⟩) 1 yc6 /\ t 24 = .pointer (some ⟨w.heap.size + 2, 5, none⟩) /\ w28.heap.size <= w_.heap.size /\ Bun w [rown vEncR 33 1 w.heap.size (.slice (some ⟨yg6, 0, none⟩) 1 yc6) ([] ++ [(.slice ags 1 cgs : Value)]), rbox yg5 33 #[.slice ags 1 cgs], rsl spEnc 2 logs higs (.slice ags 1 cgs) ([(⟨2, 3⟩ : Sp)]), rbox (w.heap.size + 3) 35 #[.int .i64 0, .int .i64 2, .int .i64 3, .int .i64 0, .int .i64 0, .int .i64 0, .slice none 0 0], rbox (w.heap.size + 2) 95 #[.int .i64 1, .slice a1_ 0 c1_, .slice (some ⟨x6, o7, none⟩) 1 c2_, .slice (some ⟨x9, o10, none⟩) 1 c3_, .slice (some ⟨x12, o13, none⟩) 1 c4_, .slice none 0 0, .slice none 0 0], rbox (w.heap.size + 1) 95 #[.int .i64 0, .slice none 0 0, .slice none 0 0, .slice none 0 0, .slice none 0 0, .slice none 0 0, .slice none 0 0], rbox w.heap.size 42 #[.int .i64 1, .slice a1_ 0 c1_, .slice (some ⟨x6, o7, none⟩) 1 c2_, .slice (some ⟨x9, o10, none⟩) 1 c3_, .slice (some ⟨x12, o13, none⟩) 1 c4_], rsl chEnc 3 lo4 hi4 (.slice (some ⟨x12, o13, none⟩) 1 c4_) ([(9 : Int)]), rsl spEnc 2 lo3 hi3 (.slice (some ⟨x9, o10, none⟩) 1 c3_) (ws0 1), rsl poEnc 7 lo2 hi2 (.slice (some ⟨x6, o7, none⟩) 1 c2_) [p7], rsl ptEnc 5 lo1 hi1 (.slice a1_ 0 c1_) ([] : List Lg)] w_) #[true, true, true, true, true, true, true, true, false] 1 ?st86 ?nx86
 case st86 =>
  rintro t w87 ⟨ags, cgs, logs, higs, yg5, yg6, yc6, hxg_, hyg_, e1, e2, e3, e11, e12, e13, e23, e24, hsz86, F88⟩
  clear F31
  rw [rng_watchOf_c t, e1, e2, e3, e11, e12, e13, e23, e24]
  clear e1 e2 e3 e11 e12 e13 e23 e24
  have hws86 := F88.gb.size
  have yg6l := (F88.ltAt 0 rfl _ rfl).1
  have yg5l := F88.ltAt 1 rfl yg5 rfl
  have yg5b := yg5l.2 rfl
  refine ru_one 8 rfl (by kernel_rfl) (fun K hK => ?_)
  have kb_ := F88.bx7 4 rfl
  go_simp
  clear kb_
  have F89 := ((F88.front 4 rfl rfl).set 5 (.slice (some ⟨yg6, 0, none⟩) 1 yc6)).nf #[.int .i64 1, .slice a1_ 0 c1_, .slice (some ⟨x6, o7, none⟩) 1 c2_, .slice (some ⟨x9, o10, none⟩) 1 c3_, .slice (some ⟨x12, o13, none⟩) 1 c4_, .slice (some ⟨yg6, 0, none⟩) 1 yc6, .slice none 0 0] rfl
  clear F88
  refine ru_back_late hK (by kernel_rfl) ?_
  exact hZ35.out _ _ _ (by kernel_rfl) (by kernel_rfl) rfl ⟨ags, cgs, logs, higs, yg5, yg6, yc6, (by first | omega | (simp; omega)), (by first | omega | (simp; omega)), by (iterate 6 refine ⟨by kernel_rfl, ?_⟩); exact ⟨(by first | omega | (simp; done) | (simp; omega)), F89⟩⟩
 intro hZ86
 refine ru_state 43 (fun t w_ => ∃ (ags : Option Addr) (cgs : Nat) (logs : Nat) (higs : Nat) (yg5 : Nat), (w.heap.size <= logs) /\ (higs <= w_.heap.size) /\ t 1 = .pointer (some ⟨w.heap.size, 0, none⟩) /\ t 2 = .pointer (some ⟨w.heap.size + 1, 0, none⟩) /\ t 3 = .pointer (some ⟨w.heap.size + 2, 0, none⟩) /\ t 11 = .slice (some ⟨x6, o7, none⟩) 1 c2_ /\ t 12 = .int .i64 1 /\ t 13 = .int .i64 0 /\ t 18 = .slice none 0 0 /\ t 22 = .slice (some ⟨yg5, 0, none⟩) 1 1 /\ w28.heap.size <= w_.heap.size /\ Bun w [rbox yg5 33 #[.slice ags 1 cgs], rsl spEnc 2 logs higs (.slice ags 1 cgs) ([(⟨2, 3⟩ : Sp)]), rbox (w.heap.size + 3) 35 #[.int .i64 0, .int .i64 2, .int .i64 3, .int .i64 0, .int .i64 0, .int .i64 0, .slice none 0 0], rbox (w.heap.size + 2) 95 #[.int .i64 1, .slice a1_ 0 c1_, .slice (some ⟨x6, o7, none⟩) 1 c2_, .slice (some ⟨x9, o10, none⟩) 1 c3_, .slice (some ⟨x12, o13, none⟩) 1 c4_, .slice none 0 0, .slice none 0 0], rbox (w.heap.size + 1) 95 #[.int .i64 0, .slice none 0 0, .slice none 0 0, .slice none 0 0, .slice none 0 0, .slice none 0 0, .slice none 0 0], rbox w.heap.size 42 #[.int .i64 1, .slice a1_ 0 c1_, .slice (some ⟨x6, o7, none⟩) 1 c2_, .slice (some ⟨x9, o10, none⟩) 1 c3_, .slice (some ⟨x12, o13, none⟩) 1 c4_], rown vEncR 33 1 w.heap.size (.slice none 0 0) [], rsl chEnc 3 lo4 hi4 (.slice (some ⟨x12, o13, none⟩) 1 c4_) ([(9 : Int)]), rsl spEnc 2 lo3 hi3 (.slice (some ⟨x9, o10, none⟩) 1 c3_) (ws0 1), rsl poEnc 7 lo2 hi2 (.slice (some ⟨x6, o7, none⟩) 1 c2_) [p7], rsl ptEnc 5 lo1 hi1 (.slice a1_ 0 c1_) ([] : List Lg)] w_) #[true, true, true, true, true, true, false, false, false] 3 ?st90 ?nx90
 case st90 =>
  rintro t w91 ⟨ags, cgs, logs, higs, yg5, hxg_, hyg_, e1, e2, e3, e11, e12, e13, e18, e22, hsz90, F92⟩
  clear F31
  rw [rng_watchOf_c t, e1, e2, e3, e11, e12, e13, e18, e22]
  clear e1 e2 e3 e11 e12 e13 e18 e22
  have hws90 := F92.gb.size
  have yg5l := F92.ltAt 0 rfl yg5 rfl
  have yg5b := yg5l.2 rfl
  refine ru_one 6 rfl (by kernel_rfl) (fun K hK => ?_)
  refine step_app _ okRP rfl _ _ rfl w.heap.size (.slice none 0 0) [] [(.slice ags 1 cgs : Value)] rfl (by exact (F92.at 6 rfl : Own vEncR 33 1 w.heap.size _ (.slice none 0 0) [])) ⟨_, 0, none⟩ 1 1 rfl rfl (by decide) (news_of (F92.at 0 rfl : Bk _ yg5 33 #[.slice ags 1 cgs])) 1 (rfl) (by omega) (by first | omega | (simp; omega)) _ rfl ?_
  intro g93 cap94 w95 hp96
  have hp96s := hp96.gb.size
  (try simp at hp96s)
  have F97 := (F92.front 6 rfl rfl).app hp96 (Nat.le_refl _)
  clear F92
  refine ru_back hK (by exact ⟨F97.q 4 5, F97.q 6 0, F97.q 6 1, F97.q 6 2, F97.q 6 3, F97.q 6 4, F97.q 3 0, F97.q 3 1, F97.q 3 2, F97.q 3 3, F97.q 3 4, F97.q 3 5, F97.q 3 6⟩) (fun _ => ?_)
  clear hK K
  (try simp only [lpX])
  refine ru_p 7 ?_
  (try simp only [lpX])
  exact hZ86.out _ _ _ (by kernel_rfl) (by kernel_rfl) rfl ⟨ags, cgs, logs, higs, yg5, g93, cap94, (by first | omega | (simp; omega)), (by first | omega | (simp; omega)), by (iterate 8 refine ⟨by kernel_rfl, ?_⟩); exact ⟨(by first | omega | (simp; done) | (simp; omega)), F97⟩⟩
 intro hZ90
 refine ru_state 43 (fun t w_ => ∃ (ags : Option Addr) (cgs : Nat) (logs : Nat) (higs : Nat), (w.heap.size <= logs) /\ (higs <= w_.heap.size) /\ t 1 = .pointer (some ⟨w.heap.size, 0, none⟩) /\ t 2 = .pointer (some ⟨w.heap.size + 1, 0, none⟩) /\ t 3 = .pointer (some ⟨w.heap.size + 2, 0, none⟩) /\ t 11 = .slice (some ⟨x6, o7, none⟩) 1 c2_ /\ t 12 = .int .i64 1 /\ t 13 = .int .i64 0 /\ t 18 = .slice none 0 0 /\ t 21 = .slice ags 1 cgs /\ w28.heap.size <= w_.heap.size /\ Bun w [rsl spEnc 2 logs higs (.slice ags 1 cgs) ([(⟨2, 3⟩ : Sp)]), rbox (w.heap.size + 3) 35 #[.int .i64 0, .int .i64 2, .int .i64 3, .int .i64 0, .int .i64 0, .int .i64 0, .slice none 0 0], rbox (w.heap.size + 2) 95 #[.int .i64 1, .slice a1_ 0 c1_, .slice (some ⟨x6, o7, none⟩) 1 c2_, .slice (some ⟨x9, o10, none⟩) 1 c3_, .slice (some ⟨x12, o13, none⟩) 1 c4_, .slice none 0 0, .slice none 0 0], rbox (w.heap.size + 1) 95 #[.int .i64 0, .slice none 0 0, .slice none 0 0, .slice none 0 0, .slice none 0 0, .slice none 0 0, .slice none 0 0], rbox w.heap.size 42 #[.int .i64 1, .slice a1_ 0 c1_, .slice (some ⟨x6, o7, none⟩) 1 c2_, .slice (some ⟨x9, o10, none⟩) 1 c3_, .slice (some ⟨x12, o13, none⟩) 1 c4_], rown vEncR 33 1 w.heap.size (.slice none 0 0) [], rsl chEnc 3 lo4 hi4 (.slice (some ⟨x12, o13, none⟩) 1 c4_) ([(9 : Int)]), rsl spEnc 2 lo3 hi3 (.slice (some ⟨x9, o10, none⟩) 1 c3_) (ws0 1), rsl poEnc 7 lo2 hi2 (.slice (some ⟨x6, o7, none⟩) 1 c2_) [p7], rsl ptEnc 5 lo1 hi1 (.slice a1_ 0 c1_) ([] : List Lg)] w_) #[true, true, true, true, true, false, false, false, false] 4 ?st98 ?nx98
 case st98 =>
  rintro t w99 ⟨ags, cgs, logs, higs, hxg_, hyg_, e1, e2, e3, e11, e12, e13, e18, e21, hsz98, F100⟩
  clear F31
  rw [rng_watchOf_c t, e1, e2, e3, e11, e12, e13, e18, e21]
  clear e1 e2 e3 e11 e12 e13 e18 e21
  have hws98 := F100.gb.size
  refine ru_one 5 rfl (by kernel_rfl) (fun K hK => ?_)
  go_simp
  replace F100 := F100.new 33 #[.slice ags 1 cgs] (n := w99.heap.size) (by simp)
  refine ru_back hK (by exact ⟨F100.q 3 5, F100.q 5 0, F100.q 5 1, F100.q 5 2, F100.q 5 3, F100.q 5 4, F100.q 2 0, F100.q 2 1, F100.q 2 2, F100.q 2 3, F100.q 2 4, F100.q 2 5, F100.q 2 6⟩) (fun _ => ?_)
  exact hZ90.out _ _ _ (by kernel_rfl) (by kernel_rfl) rfl ⟨ags, cgs, logs, higs, w99.heap.size, (by first | omega | (simp; omega)), (by first | omega | (simp; omega)), by (iterate 8 refine ⟨by kernel_rfl, ?_⟩); exact ⟨(by first | omega | (simp; done) | (simp; omega)), F100⟩⟩
 intro hZ98
 refine ru_one 4 rfl (by kernel_rfl) (fun K hK => ?_)
 go_simp
 refine (goes7 _ _ _ _ _ ⟨⟨_, _, (F31.at 8 rfl : Sl ptEnc 5 lo1 hi1 _ (.slice a1_ 0 c1_) ([] : List Lg)), (Nat.le_trans hh1 F31.gb.size)⟩, ⟨_, _, (F31.at 7 rfl : Sl poEnc 7 lo2 hi2 _ (.slice (some ⟨x6, o7, none⟩) 1 c2_) [p7]), (Nat.le_trans hh2 F31.gb.size)⟩, ⟨_, _, (F31.at 6 rfl : Sl spEnc 2 lo3 hi3 _ (.slice (some ⟨x9, o10, none⟩) 1 c3_) (ws0 1)), (Nat.le_trans hh3 F31.gb.size)⟩, ⟨_, _, (F31.at 5 rfl : Sl chEnc 3 lo4 hi4 _ (.slice (some ⟨x12, o13, none⟩) 1 c4_) ([(9 : Int)])), (Nat.le_trans hh4 F31.gb.size)⟩⟩).mono ?_
 rintro e w104 ⟨ags, cgs, logs, higs, rfl, ⟨hxgs, hygs⟩, hzgs, hg102⟩
 have hg102s := hg102.size
 (try simp at hg102s)
 replace F31 := F31.add (rsl spEnc 2 logs higs (.slice ags 1 cgs) ([(⟨2, 3⟩ : Sp)])) hg102 (hzgs) (fun g e => ⟨Nat.le_trans hxgs e.1, Nat.lt_of_lt_of_le e.2 hygs⟩)
 refine ru_back hK (by exact ⟨F31.q 2 5, F31.q 4 0, F31.q 4 1, F31.q 4 2, F31.q 4 3, F31.q 4 4, F31.q 1 0, F31.q 1 1, F31.q 1 2, F31.q 1 3, F31.q 1 4, F31.q 1 5, F31.q 1 6⟩) (fun _ => ?_)
 exact hZ98.out _ _ _ (by kernel_rfl) (by kernel_rfl) rfl ⟨ags, cgs, logs, higs, (by first | omega | (simp; omega)), (by first | omega | (simp; omega)), by (iterate 8 refine ⟨by kernel_rfl, ?_⟩); exact ⟨(by first | omega | (simp; done) | (simp; omega)), F31⟩⟩
end Go.Proofs.Ytlefmbjipdlcfaa
