/- bear: a table that holds. -/
import Derived.Test.YtdgplekokdeafaaQB2
import Derived.Test.YtdgplekokdeafaaQKC
import Derived.Test.YtdgplekokdeafaaQMixG
set_option linter.unusedVariables false
set_option linter.unusedSimpArgs false
set_option linter.unnecessarySimpa false
namespace Go.Proofs.Ytdgplekokdeafaa
open Go.RowKit
set_option maxRecDepth 100000
attribute [local go_sem] Oper.semAt_some
def Rds (P : Program) (c : Code) (Q : Exit -> Act -> World -> Prop) (a : Act) (w : World) : Prop := ∃ n, Code.rounds P c Q n a w
theorem rds_arr {P : Program} {Q : Exit -> Act -> World -> Prop} {c : Code} : ∀ (n : Nat) (a : Act) (w : World) (b : Frame) (k : List Item) (cs : List Frame), Code.rounds P c Q (n + 1) a w -> ∃ e a' w', Q e a' w' /\ Arrives P (lone (b.at a (.code c :: .inLoop c :: k)) cs w) b k cs e a' w'
 | n, a, w, b, k, cs, h => by
  obtain ⟨e, a1, w1, hq, harr⟩ := h b (.inLoop c :: k) cs
  cases e with
  | normal =>
   cases n with
   | zero => exact hq.elim
   | succ n =>
    obtain ⟨e2, a2, w2, hq2, harr2⟩ := rds_arr n a1 w1 b k cs hq
    exact ⟨e2, a2, w2, hq2, .of_steps (Steps.trans harr (.one step_inLoop)) harr2⟩
  | exit id => exact ⟨_, a1, w1, hq, .pass (x := .inLoop c) rfl (fun _ _ => .inl (by simp)) harr⟩
  | goto l => exact ⟨_, a1, w1, hq, .pass (x := .inLoop c) rfl (fun _ _ => .inl (by simp)) harr⟩
  | ret => exact ⟨_, a1, w1, hq, .pass (x := .inLoop c) rfl (fun _ _ => .inl (by simp)) harr⟩
  | panic ch => exact ⟨_, a1, w1, hq, .pass (x := .inLoop c) rfl (fun _ _ => .inl (by simp)) harr⟩
  | outgrown => exact ⟨_, a1, w1, hq, .pass (x := .inLoop c) rfl (fun _ _ => .inl (by simp)) harr⟩
theorem loop_first {P : Program} {Q : Exit -> Act -> World -> Prop} {a : Act} {w : World} {c : Code} (h : c.wp P (Exit.then (Rds P c Q) Q) a w) : (Code.loop c).wp P Q a w := fun b k cs => by
 obtain ⟨e, a1, w1, hq, harr⟩ := h b (.inLoop c :: k) cs
 cases e with
 | normal =>
  obtain ⟨n, hn⟩ := hq
  cases n with
  | zero => exact hn.elim
  | succ n =>
   obtain ⟨e2, a2, w2, hq2, harr2⟩ := rds_arr n a1 w1 b k cs hn
   exact ⟨e2, a2, w2, hq2, .of_steps (.one step_loop) (.of_steps (Steps.trans harr (.one step_inLoop)) harr2)⟩
 | exit id => exact ⟨_, a1, w1, hq, .of_steps (.one step_loop) (.pass (x := .inLoop c) rfl (fun _ _ => .inl (by simp)) harr)⟩
 | goto l => exact ⟨_, a1, w1, hq, .of_steps (.one step_loop) (.pass (x := .inLoop c) rfl (fun _ _ => .inl (by simp)) harr)⟩
 | ret => exact ⟨_, a1, w1, hq, .of_steps (.one step_loop) (.pass (x := .inLoop c) rfl (fun _ _ => .inl (by simp)) harr)⟩
 | panic ch => exact ⟨_, a1, w1, hq, .of_steps (.one step_loop) (.pass (x := .inLoop c) rfl (fun _ _ => .inl (by simp)) harr)⟩
 | outgrown => exact ⟨_, a1, w1, hq, .of_steps (.one step_loop) (.pass (x := .inLoop c) rfl (fun _ _ => .inl (by simp)) harr)⟩
namespace First
theorem rounds_of {P : Program} {c : Code} {Q : Exit -> Act -> World -> Prop} (n : Nat) (I : (Nat -> Value) -> List Deferred -> World -> Prop) (μ : (Nat -> Value) -> World -> Nat)
  (round : ∀ t ds wr, I t ds wr -> c.wp P (Exit.then (fun a' w' => a'.tmps.size = n /\ I (slot a'.tmps) a'.defers w' /\ μ (slot a'.tmps) w' < μ t wr) Q) { tmps := ((List.range n).map t).toArray, defers := ds } wr) :
  ∀ (m : Nat) (a : Act) (w : World), a.tmps.size = n -> I (slot a.tmps) a.defers w -> μ (slot a.tmps) w < m -> Code.rounds P c Q m a w
 | 0, _, _, _, _, h => absurd h (Nat.not_lt_zero _)
 | m + 1, ⟨T, ds⟩, w, hT, hI, hm => by
  simp only at hT
  have e : T = ((List.range n).map (slot T)).toArray := by
   refine Array.ext (by simp [hT]) fun i h1 h2 => ?_
   simp [slot, h1]
  have hr := round (slot T) ds w hI
  rw [← e] at hr
  refine wp_mono hr fun e a' w' h => ?_
  cases e <;> first | exact rounds_of n I μ round m a' w' h.1 h.2.1 (Nat.lt_of_lt_of_le h.2.2 (Nat.lt_succ_iff.1 hm)) | exact h
theorem wp_loopS {P : Program} {c : Code} {Q : Exit -> Act -> World -> Prop} {a : Act} {w : World} (n : Nat) (hn : a.tmps.size = n) (I : (Nat -> Value) -> List Deferred -> World -> Prop) (μ : (Nat -> Value) -> World -> Nat)
  (h0 : I (slot a.tmps) a.defers w)
  (round : ∀ t ds wr, I t ds wr -> c.wp P (Exit.then (fun a' w' => a'.tmps.size = n /\ I (slot a'.tmps) a'.defers w' /\ μ (slot a'.tmps) w' < μ t wr) Q) { tmps := ((List.range n).map t).toArray, defers := ds } wr) :
  Rds P c Q a w := ⟨_, rounds_of n I μ round _ a w hn h0 (Nat.lt_succ_self _)⟩
set_option maxHeartbeats 16000000 in
theorem table_c (lo hi : Nat) (v : Value) (l : List Sha) (w : World) (hT : TabOk l) (hl : Sl shaEnc 2 lo hi w v l) (h2 : hi <= w.heap.size) :
  Calls Try.prog 46 #[v] w (Ret (.int .i64 0) w) := by
 have F1 : Bun w [] w := Bun.nil _
 have h0 := hT.n.1
 have hn20 := hT.n.2
 have HTB := lhd hT
 clear hT
 have hm_ls := hl.len
 unfold maxLen at hm_ls
 obtain ⟨a, c, rfl⟩ := hl.any
 replace F1 := F1.sl0 hl h2 rfl
 clear hl
 have kn3 : ¬ ((l.length : Int) = 0) := (by omega)
 have kn3H := lhd kn3
 obtain ⟨kn3a, kn3b⟩ := bqf kn3
 clear kn3
 have kn4 : ¬ (20 < (l.length : Int)) := (by omega)
 have kn4H := lhd kn4
 have kn4a : decide (20 < (l.length : Int)) = false := dec_f kn4
 obtain ⟨x5, o6, e_⟩ := Sl.addr (F1.s 0 rfl) h0
 subst e_
 have hz7 : Hid (l[0]? = some (⟨0, 1000000⟩ : Sha)) := lhd (by obtain ⟨q, hq⟩ : ∃ q, l[0]? = some q := ⟨_, List.getElem?_eq_getElem h0⟩; have h3 := HTB.out.z q hq; cases q; simp only at h3; rw [hq, h3.1, h3.2])
 have kn8 : 0 < (l.length : Int) := (by omega)
 have kn8H := lhd kn8
 have kn8a : decide (0 < (l.length : Int)) = true := decide_eq_true kn8
 go_enter Try.func46, Try.ntmps46
 go_wp2_with fail
 refine loop_first ?_
 have ge9 : World.cell? _ ⟨x5, o6, none⟩ = some (.int .i64 0) := (by have h_ := Sl.cells (F1.at 0 rfl) hz7.out 0 _ rfl; simpa [Nat.add_assoc] using h_)
 have gl10 := cell_lt ge9
 have ge11 : World.cell? _ ⟨x5, o6 + 1, none⟩ = some (.int .i64 1000000) := (by have h_ := Sl.cells (F1.at 0 rfl) hz7.out 1 _ rfl; simpa [Nat.add_assoc] using h_)
 go_wp2_with fail
 clear ge9 gl10 ge11
 replace F1 := F1.new 106 #[.int .i64 0, .int .i64 1000000] (n := w.heap.size) (by simp)
 have b13 := F1.bx2 0 rfl
 go_quiet (fail)
 clear b13
 replace F1 := F1.drewN nq
 have Fn_ := F1
 (try dsimp only [lpF, lpG] at Fn_)
 obtain ⟨w15, hx16, F18, hxs17⟩ := Fn_.name
 (try simp at hxs17)
 rw [hx16]
 clear hx16 F1 Fn_
 have b19 := F18.bx2 0 rfl
 go_wp2_with fail
 clear b19
 go_quiet (fail)
 replace F18 := F18.drewN nq
 have Fn_ := (F18.drop 0 rfl)
 (try dsimp only [lpF, lpG] at Fn_)
 obtain ⟨w21, hx22, F24, hxs23⟩ := Fn_.name
 (try simp at hxs23)
 rw [hx22]
 clear hx22 F18 Fn_
 go_wp2_with fail
 obtain ⟨HI25_, HI250⟩ : ∃ I : RelT, I = (fun t ds wr => ∃ (k : Nat), t 0 = .slice (some ⟨x5, o6, none⟩) l.length c /\ t 13 = .slice (some ⟨x5, o6, none⟩) l.length c /\ t 14 = .int .i64 (l.length : Int) /\ t 15 = .int .i64 (k : Int) /\ k <= l.length /\ 1 <= k /\ ds = [] /\ w21.heap.size <= wr.heap.size /\ Bun w [rsl shaEnc 2 lo hi (.slice (some ⟨x5, o6, none⟩) l.length c) l] wr) := ⟨_, rfl⟩
 have HI25 := lhd HI250
 clear HI250
 refine wp_loopS 84 rfl HI25_ (fun t wr => l.length - (intOf (t 15)).toNat) ?atStart1 ?round1
 case round1 =>
  intro t ds wr hHid
  rw [HI25.out] at hHid
  obtain ⟨k, e0, e13, e14, e15, hrel⟩ := hHid
  have e : ((List.range 84).map t).toArray = #[t 0, t 1, t 2, t 3, t 4, t 5, t 6, t 7, t 8, t 9, t 10, t 11, t 12, t 13, t 14, t 15, t 16, t 17, t 18, t 19, t 20, t 21, t 22, t 23, t 24, t 25, t 26, t 27, t 28, t 29, t 30, t 31, t 32, t 33, t 34, t 35, t 36, t 37, t 38, t 39, t 40, t 41, t 42, t 43, t 44, t 45, t 46, t 47, t 48, t 49, t 50, t 51, t 52, t 53, t 54, t 55, t 56, t 57, t 58, t 59, t 60, t 61, t 62, t 63, t 64, t 65, t 66, t 67, t 68, t 69, t 70, t 71, t 72, t 73, t 74, t 75, t 76, t 77, t 78, t 79, t 80, t 81, t 82, t 83] := rfl
  (try dsimp only at e)
  rw [e0, e13, e14, e15] at e
  rw [e]
  simp only [e15]
  clear e e0 e13 e14 e15
  obtain ⟨hk, hk1_, rfl, hs27, hF26⟩ := hrel
  clear F24
  obtain ⟨w28, rfl⟩ : ∃ x_ : World, x_ = wr := ⟨_, rfl⟩
  by_cases c29 : (k : Int) < (l.length : Int)
  ·
   have c29H := lhd c29
   obtain ⟨z, hz30_⟩ : ∃ z_, l[k]? = some z_ := ⟨_, List.getElem?_eq_getElem (by omega)⟩
   have hz30 := lhd hz30_
   clear hz30_
   have hk2_ : 1 <= (k : Int) := by omega
   have hk3_ : (k : Int) - 1 < (l.length : Int) := by omega
   have hk4_ : ((k : Int) - 1).toNat = k - 1 := by omega
   have hzm_ := List.mem_of_getElem? hz30.out
   have hpt_ := HTB.out.pt z hzm_
   have hfr_ := HTB.out.far z hzm_
   have kn31 : ¬ (z.fr < 0) := (by omega)
   have kn31H := lhd kn31
   have kn31a : decide (z.fr < 0) = false := dec_f kn31
   have kn32 : ¬ (10000 < z.fr) := (by omega)
   have kn32H := lhd kn32
   have kn32a : decide (10000 < z.fr) = false := dec_f kn32
   have kn33 : ¬ (z.pt < 0) := (by omega)
   have kn33H := lhd kn33
   have kn33a : decide (z.pt < 0) = false := dec_f kn33
   have kn34 : ¬ (1000000 < z.pt) := (by omega)
   have kn34H := lhd kn34
   have kn34a : decide (1000000 < z.pt) = false := dec_f kn34
   obtain ⟨y, hz35_⟩ : ∃ z_, l[(k - 1)]? = some z_ := ⟨_, List.getElem?_eq_getElem (by omega)⟩
   have hz35 := lhd hz35_
   clear hz35_
   have hup_ := HTB.out.up (k - 1) y z hz35.out (by rw [show k - 1 + 1 = k by omega]; exact hz30.out)
   have hdw_ := HTB.out.dw (k - 1) y z hz35.out (by rw [show k - 1 + 1 = k by omega]; exact hz30.out)
   have kn36 : ¬ ((k : Int) = 0) := (by omega)
   have kn36H := lhd kn36
   obtain ⟨kn36a, kn36b⟩ := bqf kn36
   clear kn36
   have kn37 : 0 < (k : Int) := (by omega)
   have kn37H := lhd kn37
   have kn37a : decide (0 < (k : Int)) = true := decide_eq_true kn37
   have hz1_ : ∀ (h : Decidable (k = 0)), @decide (k = 0) h = false := fun _ => decide_eq_false (by omega)
   have hz2_ : (k = 0) = False := eq_false (by omega)
   have hp1_ : ∀ (h : Decidable (0 < k)), @decide (0 < k) h = true := fun _ => decide_eq_true (by omega)
   have hp2_ : (0 < k) = True := eq_true (by omega)
   have kn38 : ¬ (z.fr <= y.fr) := (by omega)
   have kn38H := lhd kn38
   have kn38a : decide (z.fr <= y.fr) = false := dec_f kn38
   have kn39 : ¬ (y.pt < z.pt) := (by omega)
   have kn39H := lhd kn39
   have kn39a : decide (y.pt < z.pt) = false := dec_f kn39
   have ge41 : World.cell? _ ⟨x5, o6 + k * 2, none⟩ = some (.int .i64 z.fr) := (Sl.cells (hF26.at 0 rfl) hz30.out 0 _ rfl)
   have gl42 := cell_lt ge41
   have ge43 : World.cell? _ ⟨x5, o6 + k * 2 + 1, none⟩ = some (.int .i64 z.pt) := (Sl.cells (hF26.at 0 rfl) hz30.out 1 _ rfl)
   go_wp2_with fail
   clear ge41 gl42 ge43
   have F44 := hF26.new 106 #[.int .i64 z.fr, .int .i64 z.pt] (n := w28.heap.size) (by simp)
   clear hF26
   have b46 := F44.bx2 0 rfl
   have ge47 : World.cell? _ ⟨x5, o6 + ((k - 1)) * 2, none⟩ = some (.int .i64 y.fr) := (Sl.cells (F44.at 1 rfl) hz35.out 0 _ rfl)
   have hw45 : IntKind.i64.wrap ((k : Int) - 1) = (k : Int) - 1 := IntWalk.i64_in _ (by omega)
   go_quiet (fail)
   clear b46 ge47 hw45
   replace F44 := F44.drewN nq
   have Fn_ := F44
   (try dsimp only [lpF, lpG] at Fn_)
   obtain ⟨w49, hx50, F52, hxs51⟩ := Fn_.name
   (try simp at hxs51)
   rw [hx50]
   clear hx50 F44 Fn_
   have b54 := F52.bx2 0 rfl
   go_wp2_with fail
   clear b54
   have b56 := F52.bx2 0 rfl
   have ge57 : World.cell? _ ⟨x5, o6 + ((k - 1)) * 2 + 1, none⟩ = some (.int .i64 y.pt) := (Sl.cells (F52.at 1 rfl) hz35.out 1 _ rfl)
   have hw55 : IntKind.i64.wrap ((k : Int) - 1) = (k : Int) - 1 := IntWalk.i64_in _ (by omega)
   go_quiet (fail)
   clear b56 ge57 hw55
   replace F52 := F52.drewN nq
   have Fn_ := (F52.drop 0 rfl)
   (try dsimp only [lpF, lpG] at Fn_)
   obtain ⟨w59, hx60, F62, hxs61⟩ := Fn_.name
   (try simp at hxs61)
   rw [hx60]
   clear hx60 F52 Fn_
   go_wp2_with fail
   (first | refine ⟨by kernel_rfl, ?_, ?_⟩ | refine ⟨rfl, ?_, ?_⟩ | refine ⟨?_, ?_⟩)
   · rw [HI25.out]; exact ⟨k + 1, (by kernel_rfl), (by kernel_rfl), (by kernel_rfl), (by show Value.int .i64 ((k : Int) + 1) = _; simp), (by omega), (by omega), (by first | rfl | simp), (by first | omega | (simp; done) | (simp; omega)), F62⟩
   · simp [slot, intOf]; omega
  have c29H := lhd c29
  have c29a := dec_f c29
  go_wp2_with fail
  go_ret
  exact ⟨rfl, hF26.gb⟩
 case atStart1 =>
  rw [HI25.out]
  exact ⟨1, (by kernel_rfl), (by kernel_rfl), (by kernel_rfl), rfl, (by omega), Nat.le_refl _, rfl, (by first | exact Nat.le_refl _ | omega | (simp; done) | (simp; omega)), F24⟩
end First
open First in
theorem tabC {l : List Sha} (h : TabOk l) : TabC l := fun lo hi v w h1 h2 => table_c lo hi v l w h h1 h2
end Go.Proofs.Ytdgplekokdeafaa
