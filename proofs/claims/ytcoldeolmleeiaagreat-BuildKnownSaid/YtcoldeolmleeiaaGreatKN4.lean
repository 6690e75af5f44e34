/- build and its reference: the leg that leads nearer. -/
import Derived.Test.YtcoldeolmleeiaaGreatKN3
import Derived.Test.YtcoldeolmleeiaaGreatKMixG
import Derived.Test.YtcoldeolmleeiaaGreatKKC
set_option linter.unusedVariables false
set_option linter.unusedSimpArgs false
set_option linter.unnecessarySimpa false
namespace Go.Proofs.YtcoldeolmleeiaaGreat
open Go.RowKit
set_option maxRecDepth 100000
attribute [local go_sem] Oper.semAt_some
def hitF (m : FM) (x p q : Int) (l : Lg) : Bool := match fget m (oth l x) with
 | none => false
 | some y => useS l && (decide (y.1 = p - l.long) && decide (y.2 = q - 1))
theorem hit_no {m : FM} {x p q : Int} {l : Lg} (h : fget m (oth l x) = none) : hitF m x p q l = false := by unfold hitF; rw [h]
theorem hit_yes {m : FM} {x p q a b : Int} {l : Lg} (h : fget m (oth l x) = some (a, b)) : hitF m x p q l = (useS l && (decide (a = p - l.long) && decide (b = q - 1))) := by unfold hitF; rw [h]
def fstL (f : Lg -> Bool) : List Lg -> Int -> Int
 | [], _ => -1
 | l :: ls, k => if f l = true then k else fstL f ls (k + 1)
def rfarR (b k : Nat) (m : FM) : Res := ⟨false, fun x => x = b, fun w => FarMap w b k m, fun _ _ _ hg hr h => FarMap.gb h hg (fun e => hr b e.symm rfl)⟩
theorem Bun.farRead {w0 : World} {L : List Res} {b k : Nat} {m : FM} (h : Bun w0 L w0) (hs : FarMap w0 b k m) (hm : L.all (fun r => !r.mine) = true) : Bun w0 (rfarR b k m :: L) w0 := h.non0 (rfarR b k m) hs (fun g e => by cases e; exact hs.lt) rfl hm
theorem rng_hit_c (t : Nat -> Value) : ((List.range 36).map t).toArray = List.toArray [t 0, t 1, t 2, t 3, t 4, t 5, t 6, t 7, t 8, t 9, t 10, t 11, t 12, t 13, t 14, t 15, t 16, t 17, t 18, t 19, t 20, t 21, t 22, t 23, t 24, t 25, t 26, t 27, t 28, t 29, t 30, t 31, t 32, t 33, t 34, t 35] := rfl
set_option maxHeartbeats 8000000 in
theorem hit_c (b k nn : Nat) (m : FM) (x p q : Int) (l : Lg) (pn pa pu px : Nat) (w : World) (hm : FarMap w b k m) (hfb : farB k nn m) (hk : k <= 1000000) (hlk : LgOk nn l) (hnn : nn <= 40) (hx0 : 0 <= x /\ x <= 1000) (hpq : (0 <= p /\ p <= 1000000000000) /\ 0 <= q /\ q <= 1000000) (hn : Bk w pn 91 #[.map (some b)]) (ha : Bk w pa 3 #[.int .i64 x]) (hu : Bk w pu 95 #[.func (.func 32) #[] #[]]) (hx : Bk w px 89 #[.int .i64 p, .int .i64 q]) :
  Calls Tryz.prog 34 #[.agg #[.int .i64 l.a, .int .i64 l.b, .int .i64 l.long, .int .i64 l.op, .int .i64 l.cost], .pointer (some ⟨pn, 0, none⟩), .pointer (some ⟨pa, 0, none⟩), .pointer (some ⟨pu, 0, none⟩), .pointer (some ⟨px, 0, none⟩)] w (Ret (.bool (hitF m x p q l)) w) := by
 have F1 : Bun w [] w := Bun.nil _
 replace F1 := F1.fix0 hn rfl
 have hnl := hn.lt
 replace F1 := F1.fix0 ha rfl
 have hal := ha.lt
 replace F1 := F1.fix0 hu rfl
 have hul := hu.lt
 replace F1 := F1.fix0 hx rfl
 have hxl := hx.lt
 replace F1 := F1.farRead hm rfl
 have hml := hm.lt
 have HLK := lhd hlk
 have hlk1 := hlk.long
 have hob := oth_bd hlk x
 clear hlk
 have HFB := lhd hfb
 clear hfb
 go_enter Tryz.func34, Tryz.ntmps34
 go_wp2_with fail
 replace F1 := F1.new 94 #[.int .i64 l.a, .int .i64 l.b, .int .i64 l.long, .int .i64 l.op, .int .i64 l.cost] (n := w.heap.size) (by simp)
 rcases hm8 : fget m (oth l x) with _ | ⟨fp9, fq10⟩
 ·
  have HM := lhd hm8
  clear hm8
  go_wp2_with fail
  have Fn_ := F1
  (try dsimp only [lpF, lpG] at Fn_)
  obtain ⟨w11, hx12, F14, hxs13⟩ := Fn_.name
  (try simp at hxs13)
  rw [hx12]
  clear hx12 F1 Fn_
  replace F14 := F14.drew
  refine ru_begin (fun W => W.cell? ⟨pn, 0, none⟩ = some (.map (some b)) /\ C5 W w.heap.size (.int .i64 l.a) (.int .i64 l.b) (.int .i64 l.long) (.int .i64 l.op) (.int .i64 l.cost) /\ W.cell? ⟨pa, 0, none⟩ = some (.int .i64 x)) 9 (by kernel_rfl) ?_ ?_
  · exact ⟨((F14.b 5 rfl)).cell 0, F14.c5 0, ((F14.b 4 rfl)).cell 0⟩
  obtain ⟨wd17, hwd_⟩ : ∃ x : World, w11.drew = x := ⟨_, rfl⟩
  rw [hwd_] at F14 ⊢
  have wd17s : w11.heap.size <= wd17.heap.size := by rw [← hwd_]; exact Nat.le_refl _
  clear hwd_
  have hS16 := (And.intro (((F14.b 5 rfl)).cell 0) (And.intro (F14.c5 0) (((F14.b 4 rfl)).cell 0)))
  refine ru_t 0 [] ?_
  refine ru_t 1 [] ?_
  refine ru_t 2 [] ?_
  (try simp only [lpX])
  clear hS16
  have hSS := ru_hS F14 (S := fun W => W.cell? ⟨pn, 0, none⟩ = some (.map (some b)) /\ C5 W w.heap.size (.int .i64 l.a) (.int .i64 l.b) (.int .i64 l.long) (.int .i64 l.op) (.int .i64 l.cost) /\ W.cell? ⟨pa, 0, none⟩ = some (.int .i64 x)) (fun _ _ F_ => ⟨((F_.b 5 rfl)).cell 0, F_.c5 0, ((F_.b 4 rfl)).cell 0⟩)
  refine ru_mixS 36 [⟨8, 7, 89, fun t => #[.int .i64 0, .int .i64 0], ptrOf, fun t => True⟩] [] [3, 4, 5, 6, 7] 2 F14 (by kernel_rfl) (by kernel_rfl) (fun _ _ _ _ _ h => h) (U0 := (fun t => t 3 = .pointer (some ⟨pu, 0, none⟩) /\ t 4 = .pointer (some ⟨px, 0, none⟩) /\ t 5 = .pointer (some ⟨w.heap.size, 0, none⟩) /\ t 10 = .map (some b) /\ t 11 = .agg #[.int .i64 l.a, .int .i64 l.b, .int .i64 l.long, .int .i64 l.op, .int .i64 l.cost] /\ t 12 = .int .i64 x)) (Um := (fun t => t 3 = .pointer (some ⟨pu, 0, none⟩) /\ t 4 = .pointer (some ⟨px, 0, none⟩) /\ t 5 = .pointer (some ⟨w.heap.size, 0, none⟩) /\ t 15 = .agg #[.int .i64 0, .int .i64 0] /\ t 16 = .bool false)) ?chM18 ?alM18 ?mvM18 (lfm ⟨lfm ⟨fun _ _ => rfl, fun _ h => (by cases h)⟩, fun _ h => (by cases h)⟩) ⟨rfl, rfl, ⟨rfl, rfl, rfl, rfl, rfl, rfl⟩⟩ ?restM18
  case chM18 =>
   refine ChainL.callS 3 (fun t => t 3 = .pointer (some ⟨pu, 0, none⟩) /\ t 4 = .pointer (some ⟨px, 0, none⟩) /\ t 5 = .pointer (some ⟨w.heap.size, 0, none⟩) /\ t 10 = .map (some b) /\ t 13 = .int .i64 (oth l x)) (lfm ⟨fun _ _ u => u, fun _ h => (by cases h)⟩) hSS (lfm ⟨fun _ t ⟨e3, e4, e5, e10, e11, e12⟩ => trivial, fun _ h => (by cases h)⟩) (by kernel_rfl) ?_ ?_
   ·
    rintro t w_ LA ⟨e3, e4, e5, e10, e11, e12⟩ ⟨F_, hwn_⟩
    have hws := F_.gb.size
    rw [rng_hit_c t, e3, e4, e5, e10, e11, e12]
    clear e3 e4 e5 e10 e11 e12
    refine wpOp_stepH rfl (fun K hK => ?_)
    go_simp
    refine (other_c l x _).mono ?_
    rintro e w19 ⟨rfl, hg20⟩
    exact hK.out _ _ ⟨rfl, rfl, ⟨rfl, rfl, rfl, rfl, rfl⟩, lfm ⟨rfl, fun _ h => (by cases h)⟩, lfm ⟨fun _ => rfl, fun _ h => (by cases h)⟩, ⟨F_.gn hg20, Nat.le_trans hwn_ hg20.size⟩, hSS _ _ ⟨F_.gn hg20, Nat.le_trans hwn_ hg20.size⟩⟩
   refine ChainL.callS 4 (fun t => t 3 = .pointer (some ⟨pu, 0, none⟩) /\ t 4 = .pointer (some ⟨px, 0, none⟩) /\ t 5 = .pointer (some ⟨w.heap.size, 0, none⟩) /\ t 14 = .tuple #[.agg #[.int .i64 0, .int .i64 0], .bool false]) (lfm ⟨fun _ _ u => u, fun _ h => (by cases h)⟩) hSS (lfm ⟨fun _ t ⟨e3, e4, e5, e10, e13⟩ => trivial, fun _ h => (by cases h)⟩) (by kernel_rfl) ?_ ?_
   ·
    rintro t w_ LA ⟨e3, e4, e5, e10, e13⟩ ⟨F_, hwn_⟩
    have hws := F_.gb.size
    rw [rng_hit_c t, e3, e4, e5, e10, e13]
    clear e3 e4 e5 e10 e13
    refine wpOp_stepH rfl (fun K hK => ?_)
    have hlk_ := FarMap.lookNo (F_.at 1 rfl : FarMap _ b k m) (by omega) HM.out
    go_simp
    clear hlk_
    exact hK.out _ _ ⟨rfl, rfl, ⟨rfl, rfl, rfl, rfl⟩, lfm ⟨rfl, fun _ h => (by cases h)⟩, lfm ⟨fun _ => rfl, fun _ h => (by cases h)⟩, ⟨F_, hwn_⟩, hSS _ _ ⟨F_, hwn_⟩⟩
   refine ChainL.pureS 5 (fun t => t 3 = .pointer (some ⟨pu, 0, none⟩) /\ t 4 = .pointer (some ⟨px, 0, none⟩) /\ t 5 = .pointer (some ⟨w.heap.size, 0, none⟩) /\ t 9 = .tuple #[.agg #[.int .i64 0, .int .i64 0], .bool false]) rfl (lfm ⟨fun _ _ u => u, fun _ h => (by cases h)⟩) hSS (lfm ⟨fun _ t ⟨e3, e4, e5, e14⟩ => trivial, fun _ h => (by cases h)⟩) (by kernel_rfl) ?_ ?_
   ·
    rintro t ⟨e3, e4, e5, e14⟩
    rw [rng_hit_c t, e3, e4, e5, e14]
    clear e3 e4 e5 e14
    refine ⟨.tuple #[.agg #[.int .i64 0, .int .i64 0], .bool false], .inl ⟨by first | kernel_rfl | rfl, ?_⟩, ⟨rfl, rfl⟩, ⟨rfl, rfl, rfl, rfl⟩, lfm ⟨rfl, fun _ h => (by cases h)⟩, lfm ⟨fun _ => rfl, fun _ h => (by cases h)⟩⟩
    intro wS _
    go_simp
    (try with_reducible rfl)
   refine ChainL.pureS 6 (fun t => t 3 = .pointer (some ⟨pu, 0, none⟩) /\ t 4 = .pointer (some ⟨px, 0, none⟩) /\ t 5 = .pointer (some ⟨w.heap.size, 0, none⟩) /\ t 9 = .tuple #[.agg #[.int .i64 0, .int .i64 0], .bool false] /\ t 15 = .agg #[.int .i64 0, .int .i64 0]) rfl (lfm ⟨fun _ _ u => u, fun _ h => (by cases h)⟩) hSS (lfm ⟨fun _ t ⟨e3, e4, e5, e9⟩ => trivial, fun _ h => (by cases h)⟩) (by kernel_rfl) ?_ ?_
   ·
    rintro t ⟨e3, e4, e5, e9⟩
    rw [rng_hit_c t, e3, e4, e5, e9]
    clear e3 e4 e5 e9
    refine ⟨.agg #[.int .i64 0, .int .i64 0], .inl ⟨by first | kernel_rfl | rfl, ?_⟩, ⟨rfl, rfl⟩, ⟨rfl, rfl, rfl, rfl, rfl⟩, lfm ⟨rfl, fun _ h => (by cases h)⟩, lfm ⟨fun _ => rfl, fun _ h => (by cases h)⟩⟩
    intro wS _
    go_simp
    (try with_reducible rfl)
   refine ChainL.pureS 7 (fun t => t 3 = .pointer (some ⟨pu, 0, none⟩) /\ t 4 = .pointer (some ⟨px, 0, none⟩) /\ t 5 = .pointer (some ⟨w.heap.size, 0, none⟩) /\ t 15 = .agg #[.int .i64 0, .int .i64 0] /\ t 16 = .bool false) rfl (lfm ⟨fun _ _ u => u, fun _ h => (by cases h)⟩) hSS (lfm ⟨fun _ t ⟨e3, e4, e5, e9, e15⟩ => trivial, fun _ h => (by cases h)⟩) (by kernel_rfl) ?_ ?_
   ·
    rintro t ⟨e3, e4, e5, e9, e15⟩
    rw [rng_hit_c t, e3, e4, e5, e9, e15]
    clear e3 e4 e5 e9 e15
    refine ⟨.bool false, .inl ⟨by first | kernel_rfl | rfl, ?_⟩, ⟨rfl, rfl⟩, ⟨rfl, rfl, rfl, rfl, rfl⟩, lfm ⟨rfl, fun _ h => (by cases h)⟩, lfm ⟨fun _ => rfl, fun _ h => (by cases h)⟩⟩
    intro wS _
    go_simp
    (try with_reducible rfl)
   exact ChainL.nil _ _ _ (lfm ⟨fun _ _ u => u, fun _ h => (by cases h)⟩) hSS (lfm ⟨fun _ t ⟨e3, e4, e5, e15, e16⟩ => trivial, fun _ h => (by cases h)⟩)
  case alM18 =>
   refine lfm ⟨fun t w K hv h => ?_, ?_⟩
   · exact wpOp_step rfl (fun K hK => by go_simp; exact hK _ _ h)
   exact fun _ h => (by cases h)
  case mvM18 => exact fun _ h => (by cases h)
  case restM18 =>
   rintro t w24 g ⟨e3, e4, e5, e15, e16⟩ hA hB ⟨F_, hwnM18⟩
   clear hSS
   clear F14
   have hA0_0 : t 7 = .pointer (some ⟨g 8, 0, none⟩) := hA _ (.head _)
   (try simp only [List.map_cons, List.map_nil, List.cons_append, List.nil_append] at F_)
   have F25 := F_
   clear hA hB F_
   obtain ⟨g23, hgx_⟩ : ∃ x_, g 8 = x_ := ⟨_, rfl⟩
   rw [hgx_] at hA0_0 F25; clear hgx_
   have hws := F25.gb.size
   have g23l := (F25.b 0 rfl).lt
   rw [rng_hit_c t, e3, e4, e5, e15, e16, hA0_0]
   clear e3 e4 e5 e15 e16 hA0_0
   have hS_ : (fun W : World => W.cell? ⟨pn, 0, none⟩ = some (.map (some b)) /\ W.cell? ⟨w.heap.size, 0, none⟩ = some (.int .i64 l.a) /\ W.cell? ⟨w.heap.size, 1, none⟩ = some (.int .i64 l.b) /\ W.cell? ⟨w.heap.size, 2, none⟩ = some (.int .i64 l.long) /\ W.cell? ⟨w.heap.size, 3, none⟩ = some (.int .i64 l.op) /\ W.cell? ⟨w.heap.size, 4, none⟩ = some (.int .i64 l.cost) /\ W.cell? ⟨pa, 0, none⟩ = some (.int .i64 x)) _ := ⟨((F25.b 6 rfl)).cell 0, F25.q 1 0, F25.q 1 1, F25.q 1 2, F25.q 1 3, F25.q 1 4, ((F25.b 5 rfl)).cell 0⟩
   refine ru_o 9 fun K hK => ?_
   have kb_ := F25.bx2 0 rfl
   go_simp
   clear kb_
   replace F25 := F25.pt2 (.int .i64 0) (.int .i64 0)
   refine ru_back_late hK (by kernel_rfl) ?_
   clear hK K
   (try simp only [lpX])
   refine ru_o 10 fun K hK => ?_
   go_simp
   refine ru_back_late hK (by kernel_rfl) ?_
   clear hK K
   (try simp only [lpX])
   refine ru_done (by kernel_rfl) ?_
   have Fn_ := F25
   (try dsimp only [lpF, lpG] at Fn_)
   obtain ⟨w27, hx28, F30, hxs29⟩ := Fn_.name
   (try simp at hxs29)
   rw [hx28]
   clear hx28 F25 Fn_
   have Hx31 := lhd (show ((hitF m x p q l : Bool)) = false by exact hit_no HM.out)
   go_wp2_with fail
   go_ret
   exact ⟨by rw [Hx31.out] <;> rfl, F30.gb⟩
 have HM := lhd hm8
 clear hm8
 have hmb := HFB.out.2 _ _ _ HM.out
 go_wp2_with fail
 have Fn_ := F1
 (try dsimp only [lpF, lpG] at Fn_)
 obtain ⟨w32, hx33, F35, hxs34⟩ := Fn_.name
 (try simp at hxs34)
 rw [hx33]
 clear hx33 F1 Fn_
 replace F35 := F35.drew
 refine ru_begin (fun W => W.cell? ⟨pn, 0, none⟩ = some (.map (some b)) /\ C5 W w.heap.size (.int .i64 l.a) (.int .i64 l.b) (.int .i64 l.long) (.int .i64 l.op) (.int .i64 l.cost) /\ W.cell? ⟨pa, 0, none⟩ = some (.int .i64 x)) 9 (by kernel_rfl) ?_ ?_
 · exact ⟨((F35.b 5 rfl)).cell 0, F35.c5 0, ((F35.b 4 rfl)).cell 0⟩
 obtain ⟨wd38, hwd_⟩ : ∃ x : World, w32.drew = x := ⟨_, rfl⟩
 rw [hwd_] at F35 ⊢
 have wd38s : w32.heap.size <= wd38.heap.size := by rw [← hwd_]; exact Nat.le_refl _
 clear hwd_
 have hS37 := (And.intro (((F35.b 5 rfl)).cell 0) (And.intro (F35.c5 0) (((F35.b 4 rfl)).cell 0)))
 refine ru_t 0 [] ?_
 refine ru_t 1 [] ?_
 refine ru_t 2 [] ?_
 (try simp only [lpX])
 clear hS37
 have hSS := ru_hS F35 (S := fun W => W.cell? ⟨pn, 0, none⟩ = some (.map (some b)) /\ C5 W w.heap.size (.int .i64 l.a) (.int .i64 l.b) (.int .i64 l.long) (.int .i64 l.op) (.int .i64 l.cost) /\ W.cell? ⟨pa, 0, none⟩ = some (.int .i64 x)) (fun _ _ F_ => ⟨((F_.b 5 rfl)).cell 0, F_.c5 0, ((F_.b 4 rfl)).cell 0⟩)
 refine ru_mixS 36 [⟨8, 7, 89, fun t => #[.int .i64 0, .int .i64 0], ptrOf, fun t => True⟩] [] [3, 4, 5, 6, 7] 2 F35 (by kernel_rfl) (by kernel_rfl) (fun _ _ _ _ _ h => h) (U0 := (fun t => t 3 = .pointer (some ⟨pu, 0, none⟩) /\ t 4 = .pointer (some ⟨px, 0, none⟩) /\ t 5 = .pointer (some ⟨w.heap.size, 0, none⟩) /\ t 10 = .map (some b) /\ t 11 = .agg #[.int .i64 l.a, .int .i64 l.b, .int .i64 l.long, .int .i64 l.op, .int .i64 l.cost] /\ t 12 = .int .i64 x)) (Um := (fun t => t 3 = .pointer (some ⟨pu, 0, none⟩) /\ t 4 = .pointer (some ⟨px, 0, none⟩) /\ t 5 = .pointer (some ⟨w.heap.size, 0, none⟩) /\ t 15 = .agg #[.int .i64 fp9, .int .i64 fq10] /\ t 16 = .bool true)) ?chM39 ?alM39 ?mvM39 (lfm ⟨lfm ⟨fun _ _ => rfl, fun _ h => (by cases h)⟩, fun _ h => (by cases h)⟩) ⟨rfl, rfl, ⟨rfl, rfl, rfl, rfl, rfl, rfl⟩⟩ ?restM39
 case chM39 =>
  refine ChainL.callS 3 (fun t => t 3 = .pointer (some ⟨pu, 0, none⟩) /\ t 4 = .pointer (some ⟨px, 0, none⟩) /\ t 5 = .pointer (some ⟨w.heap.size, 0, none⟩) /\ t 10 = .map (some b) /\ t 13 = .int .i64 (oth l x)) (lfm ⟨fun _ _ u => u, fun _ h => (by cases h)⟩) hSS (lfm ⟨fun _ t ⟨e3, e4, e5, e10, e11, e12⟩ => trivial, fun _ h => (by cases h)⟩) (by kernel_rfl) ?_ ?_
  ·
   rintro t w_ LA ⟨e3, e4, e5, e10, e11, e12⟩ ⟨F_, hwn_⟩
   have hws := F_.gb.size
   rw [rng_hit_c t, e3, e4, e5, e10, e11, e12]
   clear e3 e4 e5 e10 e11 e12
   refine wpOp_stepH rfl (fun K hK => ?_)
   go_simp
   refine (other_c l x _).mono ?_
   rintro e w40 ⟨rfl, hg41⟩
   exact hK.out _ _ ⟨rfl, rfl, ⟨rfl, rfl, rfl, rfl, rfl⟩, lfm ⟨rfl, fun _ h => (by cases h)⟩, lfm ⟨fun _ => rfl, fun _ h => (by cases h)⟩, ⟨F_.gn hg41, Nat.le_trans hwn_ hg41.size⟩, hSS _ _ ⟨F_.gn hg41, Nat.le_trans hwn_ hg41.size⟩⟩
  refine ChainL.callS 4 (fun t => t 3 = .pointer (some ⟨pu, 0, none⟩) /\ t 4 = .pointer (some ⟨px, 0, none⟩) /\ t 5 = .pointer (some ⟨w.heap.size, 0, none⟩) /\ t 14 = .tuple #[.agg #[.int .i64 fp9, .int .i64 fq10], .bool true]) (lfm ⟨fun _ _ u => u, fun _ h => (by cases h)⟩) hSS (lfm ⟨fun _ t ⟨e3, e4, e5, e10, e13⟩ => trivial, fun _ h => (by cases h)⟩) (by kernel_rfl) ?_ ?_
  ·
   rintro t w_ LA ⟨e3, e4, e5, e10, e13⟩ ⟨F_, hwn_⟩
   have hws := F_.gb.size
   rw [rng_hit_c t, e3, e4, e5, e10, e13]
   clear e3 e4 e5 e10 e13
   refine wpOp_stepH rfl (fun K hK => ?_)
   have hlk_ := FarMap.look (F_.at 1 rfl : FarMap _ b k m) (by omega) HM.out
   go_simp
   clear hlk_
   exact hK.out _ _ ⟨rfl, rfl, ⟨rfl, rfl, rfl, rfl⟩, lfm ⟨rfl, fun _ h => (by cases h)⟩, lfm ⟨fun _ => rfl, fun _ h => (by cases h)⟩, ⟨F_, hwn_⟩, hSS _ _ ⟨F_, hwn_⟩⟩
  refine ChainL.pureS 5 (fun t => t 3 = .pointer (some ⟨pu, 0, none⟩) /\ t 4 = .pointer (some ⟨px, 0, none⟩) /\ t 5 = .pointer (some ⟨w.heap.size, 0, none⟩) /\ t 9 = .tuple #[.agg #[.int .i64 fp9, .int .i64 fq10], .bool true]) rfl (lfm ⟨fun _ _ u => u, fun _ h => (by cases h)⟩) hSS (lfm ⟨fun _ t ⟨e3, e4, e5, e14⟩ => trivial, fun _ h => (by cases h)⟩) (by kernel_rfl) ?_ ?_
  ·
   rintro t ⟨e3, e4, e5, e14⟩
   rw [rng_hit_c t, e3, e4, e5, e14]
   clear e3 e4 e5 e14
   refine ⟨.tuple #[.agg #[.int .i64 fp9, .int .i64 fq10], .bool true], .inl ⟨by first | kernel_rfl | rfl, ?_⟩, ⟨rfl, rfl⟩, ⟨rfl, rfl, rfl, rfl⟩, lfm ⟨rfl, fun _ h => (by cases h)⟩, lfm ⟨fun _ => rfl, fun _ h => (by cases h)⟩⟩
   intro wS _
   go_simp
   (try with_reducible rfl)
  refine ChainL.pureS 6 (fun t => t 3 = .pointer (some ⟨pu, 0, none⟩) /\ t 4 = .pointer (some ⟨px, 0, none⟩) /\ t 5 = .pointer (some ⟨w.heap.size, 0, none⟩) /\ t 9 = .tuple #[.agg #[.int .i64 fp9, .int .i64 fq10], .bool true] /\ t 15 = .agg #[.int .i64 fp9, .int .i64 fq10]) rfl (lfm ⟨fun _ _ u => u, fun _ h => (by cases h)⟩) hSS (lfm ⟨fun _ t ⟨e3, e4, e5, e9⟩ => trivial, fun _ h => (by cases h)⟩) (by kernel_rfl) ?_ ?_
  ·
   rintro t ⟨e3, e4, e5, e9⟩
   rw [rng_hit_c t, e3, e4, e5, e9]
   clear e3 e4 e5 e9
   refine ⟨.agg #[.int .i64 fp9, .int .i64 fq10], .inl ⟨by first | kernel_rfl | rfl, ?_⟩, ⟨rfl, rfl⟩, ⟨rfl, rfl, rfl, rfl, rfl⟩, lfm ⟨rfl, fun _ h => (by cases h)⟩, lfm ⟨fun _ => rfl, fun _ h => (by cases h)⟩⟩
   intro wS _
   go_simp
   (try with_reducible rfl)
  refine ChainL.pureS 7 (fun t => t 3 = .pointer (some ⟨pu, 0, none⟩) /\ t 4 = .pointer (some ⟨px, 0, none⟩) /\ t 5 = .pointer (some ⟨w.heap.size, 0, none⟩) /\ t 15 = .agg #[.int .i64 fp9, .int .i64 fq10] /\ t 16 = .bool true) rfl (lfm ⟨fun _ _ u => u, fun _ h => (by cases h)⟩) hSS (lfm ⟨fun _ t ⟨e3, e4, e5, e9, e15⟩ => trivial, fun _ h => (by cases h)⟩) (by kernel_rfl) ?_ ?_
  ·
   rintro t ⟨e3, e4, e5, e9, e15⟩
   rw [rng_hit_c t, e3, e4, e5, e9, e15]
   clear e3 e4 e5 e9 e15
   refine ⟨.bool true, .inl ⟨by first | kernel_rfl | rfl, ?_⟩, ⟨rfl, rfl⟩, ⟨rfl, rfl, rfl, rfl, rfl⟩, lfm ⟨rfl, fun _ h => (by cases h)⟩, lfm ⟨fun _ => rfl, fun _ h => (by cases h)⟩⟩
   intro wS _
   go_simp
   (try with_reducible rfl)
  exact ChainL.nil _ _ _ (lfm ⟨fun _ _ u => u, fun _ h => (by cases h)⟩) hSS (lfm ⟨fun _ t ⟨e3, e4, e5, e15, e16⟩ => trivial, fun _ h => (by cases h)⟩)
 case alM39 =>
  refine lfm ⟨fun t w K hv h => ?_, ?_⟩
  · exact wpOp_step rfl (fun K hK => by go_simp; exact hK _ _ h)
  exact fun _ h => (by cases h)
 case mvM39 => exact fun _ h => (by cases h)
 case restM39 =>
  rintro t w45 g ⟨e3, e4, e5, e15, e16⟩ hA hB ⟨F_, hwnM39⟩
  clear hSS
  clear F35
  have hA0_0 : t 7 = .pointer (some ⟨g 8, 0, none⟩) := hA _ (.head _)
  (try simp only [List.map_cons, List.map_nil, List.cons_append, List.nil_append] at F_)
  have F46 := F_
  clear hA hB F_
  obtain ⟨g44, hgx_⟩ : ∃ x_, g 8 = x_ := ⟨_, rfl⟩
  rw [hgx_] at hA0_0 F46; clear hgx_
  have hws := F46.gb.size
  have g44l := (F46.b 0 rfl).lt
  rw [rng_hit_c t, e3, e4, e5, e15, e16, hA0_0]
  clear e3 e4 e5 e15 e16 hA0_0
  have hS_ : (fun W : World => W.cell? ⟨pn, 0, none⟩ = some (.map (some b)) /\ W.cell? ⟨w.heap.size, 0, none⟩ = some (.int .i64 l.a) /\ W.cell? ⟨w.heap.size, 1, none⟩ = some (.int .i64 l.b) /\ W.cell? ⟨w.heap.size, 2, none⟩ = some (.int .i64 l.long) /\ W.cell? ⟨w.heap.size, 3, none⟩ = some (.int .i64 l.op) /\ W.cell? ⟨w.heap.size, 4, none⟩ = some (.int .i64 l.cost) /\ W.cell? ⟨pa, 0, none⟩ = some (.int .i64 x)) _ := ⟨((F46.b 6 rfl)).cell 0, F46.q 1 0, F46.q 1 1, F46.q 1 2, F46.q 1 3, F46.q 1 4, ((F46.b 5 rfl)).cell 0⟩
  refine ru_o 9 fun K hK => ?_
  have kb_ := F46.bx2 0 rfl
  go_simp
  clear kb_
  replace F46 := F46.pt2 (.int .i64 fp9) (.int .i64 fq10)
  refine ru_back_late hK (by kernel_rfl) ?_
  clear hK K
  (try simp only [lpX])
  refine ru_o 10 fun K hK => ?_
  go_simp
  refine ru_back_late hK (by kernel_rfl) ?_
  clear hK K
  (try simp only [lpX])
  refine ru_done (by kernel_rfl) ?_
  have Fn_ := F46
  (try dsimp only [lpF, lpG] at Fn_)
  obtain ⟨w48, hx49, F51, hxs50⟩ := Fn_.name
  (try simp at hxs50)
  rw [hx49]
  clear hx49 F46 Fn_
  by_cases hq1 : fp9 = p - l.long
  ·
   subst hq1
   by_cases hq2 : fq10 = q - 1
   ·
    subst hq2
    have b52 := F51.bx5 1 rfl
    have b53 := Bk.bx1 (F51.b 4 rfl)
    go_wp2_with fail
    clear b52 b53
    refine (useS_c l _).mono ?_
    rintro e w56 ⟨rfl, hg54⟩
    have hg54s := hg54.size
    (try simp at hg54s)
    replace F51 := F51.gn hg54
    clear hg54
    cases c58 : useS l
    ·
     have c58H := lhd c58
     have Hx59 := lhd (show ((hitF m x p q l : Bool)) = false by rw [hit_yes HM.out]; simp [c58H.out])
     go_wp2_with fail
     go_ret
     exact ⟨by rw [Hx59.out] <;> rfl, F51.gb⟩
    have c58H := lhd c58
    have Hx60 := lhd (show ((hitF m x p q l : Bool)) = true by rw [hit_yes HM.out]; simp [c58H.out])
    have b61 := F51.bx2 0 rfl
    have b62 := F51.bx5 1 rfl
    have b63 := Bk.bx2 (F51.b 3 rfl)
    go_wp2_with fail
    clear b61 b62 b63
    go_ret
    exact ⟨by rw [Hx60.out] <;> rfl, F51.gb⟩
   have b64 := F51.bx5 1 rfl
   have b65 := Bk.bx1 (F51.b 4 rfl)
   go_wp2_with fail
   clear b64 b65
   refine (useS_c l _).mono ?_
   rintro e w68 ⟨rfl, hg66⟩
   have hg66s := hg66.size
   (try simp at hg66s)
   replace F51 := F51.gn hg66
   clear hg66
   cases c70 : useS l
   ·
    have c70H := lhd c70
    have Hx71 := lhd (show ((hitF m x p q l : Bool)) = false by rw [hit_yes HM.out]; simp [c70H.out, hq2])
    go_wp2_with fail
    go_ret
    exact ⟨by rw [Hx71.out] <;> rfl, F51.gb⟩
   have c70H := lhd c70
   have Hx72 := lhd (show ((hitF m x p q l : Bool)) = false by rw [hit_yes HM.out]; simp [c70H.out, hq2])
   have b73 := F51.bx2 0 rfl
   have b74 := F51.bx5 1 rfl
   have b75 := Bk.bx2 (F51.b 3 rfl)
   go_wp2_with fail
   clear b73 b74 b75
   go_ret
   exact ⟨by rw [Hx72.out] <;> rfl, F51.gb⟩
  by_cases hq2 : fq10 = q - 1
  ·
   subst hq2
   have b76 := F51.bx5 1 rfl
   have b77 := Bk.bx1 (F51.b 4 rfl)
   go_wp2_with fail
   clear b76 b77
   refine (useS_c l _).mono ?_
   rintro e w80 ⟨rfl, hg78⟩
   have hg78s := hg78.size
   (try simp at hg78s)
   replace F51 := F51.gn hg78
   clear hg78
   cases c82 : useS l
   ·
    have c82H := lhd c82
    have Hx83 := lhd (show ((hitF m x p q l : Bool)) = false by rw [hit_yes HM.out]; simp [c82H.out, hq1])
    go_wp2_with fail
    go_ret
    exact ⟨by rw [Hx83.out] <;> rfl, F51.gb⟩
   have c82H := lhd c82
   have Hx84 := lhd (show ((hitF m x p q l : Bool)) = false by rw [hit_yes HM.out]; simp [c82H.out, hq1])
   have b85 := F51.bx2 0 rfl
   have b86 := F51.bx5 1 rfl
   have b87 := Bk.bx2 (F51.b 3 rfl)
   go_wp2_with fail
   clear b85 b86 b87
   go_ret
   exact ⟨by rw [Hx84.out] <;> rfl, F51.gb⟩
  have b88 := F51.bx5 1 rfl
  have b89 := Bk.bx1 (F51.b 4 rfl)
  go_wp2_with fail
  clear b88 b89
  refine (useS_c l _).mono ?_
  rintro e w92 ⟨rfl, hg90⟩
  have hg90s := hg90.size
  (try simp at hg90s)
  replace F51 := F51.gn hg90
  clear hg90
  cases c94 : useS l
  ·
   have c94H := lhd c94
   have Hx95 := lhd (show ((hitF m x p q l : Bool)) = false by rw [hit_yes HM.out]; simp [c94H.out, hq1, hq2])
   go_wp2_with fail
   go_ret
   exact ⟨by rw [Hx95.out] <;> rfl, F51.gb⟩
  have c94H := lhd c94
  have Hx96 := lhd (show ((hitF m x p q l : Bool)) = false by rw [hit_yes HM.out]; simp [c94H.out, hq1, hq2])
  have b97 := F51.bx2 0 rfl
  have b98 := F51.bx5 1 rfl
  have b99 := Bk.bx2 (F51.b 3 rfl)
  go_wp2_with fail
  clear b97 b98 b99
  go_ret
  exact ⟨by rw [Hx96.out] <;> rfl, F51.gb⟩
end Go.Proofs.YtcoldeolmleeiaaGreat
