/- build and its reference: hours by the reference. -/
import Derived.Test.YtokelpmngahnoaaUJ10
import Derived.Test.YtokelpmngahnoaaUW0
import Derived.Test.YtokelpmngahnoaaUK1
import Derived.OwnWalk
import Derived.Test.YtokelpmngahnoaaUJK
set_option linter.unusedVariables false
set_option linter.unusedSimpArgs false
set_option linter.unnecessarySimpa false
namespace Go.Proofs.Ytokelpmngahnoaa
open Go.RowKit
set_option maxRecDepth 100000
def boEnc (b : Bool) : List Value := [.bool b]
def rwh (rl : List Bool) (sh : Int) (h : Nat) : Bool := rl.getD (h / 24) false && decide (((h % 24 : Nat) : Int) < sh)
def rdn (rl : List Bool) (sh : Int) (b n : Nat) : Int := if n = 0 then (b : Int) else doneN (rwh rl sh) (24 * (rl.length : Int) + 1) (24 * rl.length - b) b n
theorem rdn_step {rl : List Bool} {sh : Int} {h n : Nat} {z : Bool} (hh : h < 24 * rl.length) (hz : rl[h / 24]? = some z) : doneN (rwh rl sh) (24 * (rl.length : Int) + 1) (24 * rl.length - h) h n =
  if (z && decide (((h % 24 : Nat) : Int) < sh)) = true then (if n = 1 then (h : Int) + 1 else doneN (rwh rl sh) (24 * (rl.length : Int) + 1) (24 * rl.length - (h + 1)) (h + 1) (n - 1)) else doneN (rwh rl sh) (24 * (rl.length : Int) + 1) (24 * rl.length - (h + 1)) (h + 1) n := by
 rw [show 24 * rl.length - h = (24 * rl.length - (h + 1)) + 1 by omega, doneN]
 have e : rwh rl sh h = (z && decide (((h % 24 : Nat) : Int) < sh)) := by unfold rwh; rw [List.getD_eq_getElem?_getD, hz]; rfl
 rw [e]
theorem rdn_end {rl : List Bool} {sh : Int} {h n : Nat} (hh : 24 * rl.length <= h) : doneN (rwh rl sh) (24 * (rl.length : Int) + 1) (24 * rl.length - h) h n = 24 * (rl.length : Int) + 1 := by
 rw [show 24 * rl.length - h = 0 by omega, doneN]
theorem doneN_congr {f g : Nat -> Bool} {past : Int} : ∀ (k h n : Nat), (∀ x, h <= x -> x < h + k -> f x = g x) -> doneN f past k h n = doneN g past k h n
 | 0, _, _, _ => rfl
 | k + 1, h, n, hf => by
  rw [doneN, doneN, hf h (Nat.le_refl _) (by omega), doneN_congr k (h + 1) (n - 1) (fun x h1 h2 => hf x (by omega) (by omega)), doneN_congr k (h + 1) n (fun x h1 h2 => hf x (by omega) (by omega))]
theorem rdn_fin {c : Cs} {m : Int} {rl : List Bool} {b n : Nat} (hl : rl.length = c.nd) (hr : ∀ d, d < c.nd -> rl.getD d false = c.wk m d) (hb : (b : Int) < c.past) : rdn rl (c.sh m) b n = c.fin m (b : Int) (n : Int) := by
 unfold rdn Cs.fin
 rw [if_neg (show ¬ c.past <= (b : Int) by omega)]
 by_cases hn : n = 0
 · rw [if_pos hn, if_pos (by omega)]
 rw [if_neg hn, if_neg (by omega), hl, Int.toNat_natCast, Int.toNat_natCast]
 exact doneN_congr _ _ _ (fun x h1 h2 => by unfold rwh Cs.wh; rw [hr (x / 24) (by omega)])
set_option maxHeartbeats 2000000 in
theorem rpast_c (n : Int) (w : World) (h1 : 0 <= n) (h2 : n <= 1000) :
  Calls Try.prog 98 #[.int .i64 n] w (Ret (.int .i64 (24 * n + 1)) w) := by
 have F1 : Bun w [] w := Bun.nil _
 go_enter Try.func98, Try.ntmps98
 go_wp2_with fail
 go_ret
 exact ⟨rfl, F1.gb⟩
set_option maxHeartbeats 8000000 in
theorem rdone_c (lo hi : Nat) (v : Value) (rl : List Bool) (b n : Nat) (sh : Int) (w : World) (hl : Sl boEnc 1 lo hi w v rl) (h2 : hi <= w.heap.size) (hb : b <= 10000) (hn : n <= 10000) (hrl : rl.length <= 400) :
  Calls Try.prog 107 #[.int .i64 (b : Int), .int .i64 (n : Int), .int .i64 sh, v] w (Ret (.int .i64 (rdn rl sh b n)) w) := by
 have F1 : Bun w [] w := Bun.nil _
 have hm_rl := hl.len
 unfold maxLen at hm_rl
 obtain ⟨a, c, rfl⟩ := hl.any
 replace F1 := F1.sl0 hl h2 rfl
 clear hl
 go_enter Try.func107, Try.ntmps107
 by_cases c3 : (n : Int) = 0
 ·
  have c3a : ((n : Int) == 0) = true := beq_t c3
  have c3b : ((n : Int) != 0) = false := bne_f c3
  have c3H := lhd c3
  clear c3
  have Hx4 := lhd (show ((rdn rl sh b n : Int)) = (b : Int) by rw [rdn, if_pos (by have h_ := c3H.out; omega)])
  go_wp2_with fail
  go_ret
  exact ⟨by rw [Hx4.out] <;> rfl, F1.gb⟩
 have c3a : ((n : Int) == 0) = false := beq_f c3
 have c3b : ((n : Int) != 0) = true := bne_t c3
 have c3H := lhd c3
 clear c3
 go_wp2_with fail
 obtain ⟨HI5_, HI50⟩ : ∃ I : RelT, I = (fun t ds wr => ∃ (h q : Nat), t 1 = .int .i64 (q : Int) /\ t 2 = .int .i64 sh /\ t 3 = .slice a rl.length c /\ t 9 = .int .i64 (h : Int) /\ h <= 10000 /\ 1 <= q /\ q <= 10000 /\ rdn rl sh b n = doneN (rwh rl sh) (24 * (rl.length : Int) + 1) (24 * rl.length - h) h q /\ ds = [] /\ w.heap.size <= wr.heap.size /\ Bun w [rsl boEnc 1 lo hi (.slice a rl.length c) rl] wr) := ⟨_, rfl⟩
 have HI5 := lhd HI50
 clear HI50
 refine wp_loopS 41 rfl HI5_ (fun t wr => 24 * rl.length - (intOf (t 9)).toNat) ?atStart1 ?round1
 case round1 =>
  intro t ds wr hHid
  rw [HI5.out] at hHid
  obtain ⟨h, q, e1, e2, e3, e9, hrel⟩ := hHid
  have e : ((List.range 41).map t).toArray = #[t 0, t 1, t 2, t 3, t 4, t 5, t 6, t 7, t 8, t 9, t 10, t 11, t 12, t 13, t 14, t 15, t 16, t 17, t 18, t 19, t 20, t 21, t 22, t 23, t 24, t 25, t 26, t 27, t 28, t 29, t 30, t 31, t 32, t 33, t 34, t 35, t 36, t 37, t 38, t 39, t 40] := rfl
  (try dsimp only at e)
  rw [e1, e2, e3, e9] at e
  rw [e]
  simp only [e9]
  clear e e1 e2 e3 e9
  obtain ⟨hh, hc1, hc2, hR, rfl, hs7, hF6⟩ := hrel
  clear F1
  obtain ⟨w8, rfl⟩ : ∃ x_ : World, x_ = wr := ⟨_, rfl⟩
  have HR := lhd hR
  clear hR
  by_cases c9 : (h : Int) < 24 * (rl.length : Int)
  ·
   have c9H := lhd c9
   obtain ⟨x10, o11, e_⟩ := Sl.addr (hF6.at 0 rfl : Sl boEnc 1 lo hi _ (.slice a rl.length c) rl) (by omega)
   subst e_
   have hq2_ : h / 24 < rl.length := by omega
   have hdv_ : Int.tdiv (h : Int) 24 = ((h / 24 : Nat) : Int) := by rw [Int.tdiv_eq_ediv_of_nonneg (by omega)]; rfl
   have hdw_ : IntKind.i64.wrap ((h / 24 : Nat) : Int) = ((h / 24 : Nat) : Int) := IntWalk.i64_in _ (by omega)
   have hdm_ : Int.tmod (h : Int) 24 = ((h % 24 : Nat) : Int) := by rw [Int.tmod_eq_emod_of_nonneg (by omega)]; rfl
   have hdx_ : IntKind.i64.wrap ((h % 24 : Nat) : Int) = ((h % 24 : Nat) : Int) := IntWalk.i64_in _ (by omega)
   have hdy_ : ((h / 24 : Nat) : Int) < (rl.length : Int) := by omega
   obtain ⟨z, hz12_⟩ : ∃ z_, rl[h / 24]? = some z_ := ⟨_, List.getElem?_eq_getElem (by omega)⟩
   have hz12 := lhd hz12_
   clear hz12_
   have HD := lhd (rdn_step (sh := sh) (n := q) (show h < 24 * rl.length by omega) hz12.out)
   cases c13 : z
   ·
    have c13H := lhd c13
    have ge14 : World.cell? _ ⟨x10, o11 + (h / 24), none⟩ = some (.bool z) := (by have h_ := Sl.cells (hF6.at 0 rfl) hz12.out 0 _ rfl; simpa using h_)
    have gl15 := cell_lt ge14
    go_wp2_with fail
    clear ge14 gl15
    (first | refine ⟨by kernel_rfl, ?_, ?_⟩ | refine ⟨rfl, ?_, ?_⟩ | refine ⟨?_, ?_⟩)
    · rw [HI5.out]; exact ⟨h + 1, q, rfl, (by kernel_rfl), (by kernel_rfl), (by show Value.int .i64 ((h : Int) + 1) = _; simp), (by omega), (by have h_ := HD; omega), (by omega), (by rw [HR.out, HD.out]; rw [if_neg (by simp [c13H.out])]), (by first | rfl | simp), (by first | omega | (simp; done) | (simp; omega)), hF6⟩
    · simp [slot, intOf]; omega
   have c13H := lhd c13
   by_cases c16 : (h : Int) % 24 < sh
   ·
    have c16H := lhd c16
    by_cases c17 : (q : Int) - 1 = 0
    ·
     have c17a : (((q : Int) - 1) == 0) = true := beq_t c17
     have c17b : (((q : Int) - 1) != 0) = false := bne_f c17
     have c17H := lhd c17
     clear c17
     have Hx18 := lhd (show ((rdn rl sh b n : Int)) = (h : Int) + 1 by rw [HR.out, HD.out]; rw [if_pos (by have h_ := c16H.out; simp [c13H.out]; omega), if_pos (by have h_ := c17H.out; omega)])
     have ge19 : World.cell? _ ⟨x10, o11 + (h / 24), none⟩ = some (.bool z) := (by have h_ := Sl.cells (hF6.at 0 rfl) hz12.out 0 _ rfl; simpa using h_)
     have gl20 := cell_lt ge19
     go_wp2_with fail
     clear ge19 gl20
     go_ret
     exact ⟨by rw [Hx18.out] <;> rfl, hF6.gb⟩
    have c17a : (((q : Int) - 1) == 0) = false := beq_f c17
    have c17b : (((q : Int) - 1) != 0) = true := bne_t c17
    have c17H := lhd c17
    clear c17
    have ge21 : World.cell? _ ⟨x10, o11 + (h / 24), none⟩ = some (.bool z) := (by have h_ := Sl.cells (hF6.at 0 rfl) hz12.out 0 _ rfl; simpa using h_)
    have gl22 := cell_lt ge21
    go_wp2_with fail
    clear ge21 gl22
    (first | refine ⟨by kernel_rfl, ?_, ?_⟩ | refine ⟨rfl, ?_, ?_⟩ | refine ⟨?_, ?_⟩)
    · rw [HI5.out]; exact ⟨h + 1, (q - 1), (by show Value.int .i64 ((q : Int) - 1) = _; rw [show ((q : Int) - 1) = ((q - 1 : Nat) : Int) by omega]), (by kernel_rfl), (by kernel_rfl), (by show Value.int .i64 ((h : Int) + 1) = _; simp), (by omega), (by have h_ := HD; have h2_ := c17H.out; omega), (by omega), (by rw [HR.out, HD.out]; rw [if_pos (by have h_ := c16H.out; simp [c13H.out]; omega), if_neg (by have h_ := c17H.out; omega)]), (by first | rfl | simp), (by first | omega | (simp; done) | (simp; omega)), hF6⟩
    · simp [slot, intOf]; omega
   have c16H := lhd c16
   have c16a : decide ((h : Int) % 24 < sh) = false := dec_f c16
   have ge23 : World.cell? _ ⟨x10, o11 + (h / 24), none⟩ = some (.bool z) := (by have h_ := Sl.cells (hF6.at 0 rfl) hz12.out 0 _ rfl; simpa using h_)
   have gl24 := cell_lt ge23
   go_wp2_with fail
   clear ge23 gl24
   (first | refine ⟨by kernel_rfl, ?_, ?_⟩ | refine ⟨rfl, ?_, ?_⟩ | refine ⟨?_, ?_⟩)
   · rw [HI5.out]; exact ⟨h + 1, q, rfl, (by kernel_rfl), (by kernel_rfl), (by show Value.int .i64 ((h : Int) + 1) = _; simp), (by omega), (by have h_ := HD; omega), (by omega), (by rw [HR.out, HD.out]; rw [if_neg (by have h_ := c16H.out; simp; intro _; omega)]), (by first | rfl | simp), (by first | omega | (simp; done) | (simp; omega)), hF6⟩
   · simp [slot, intOf]; omega
  have c9H := lhd c9
  have c9a : decide ((h : Int) < 24 * (rl.length : Int)) = false := dec_f c9
  go_wp2_with fail
  refine (rpast_c (rl.length : Int) _ (by omega) (by omega)).mono ?_
  rintro e w27 ⟨rfl, hg25⟩
  have hg25s := hg25.size
  (try simp at hg25s)
  have F28 := hF6.gn hg25
  clear hF6
  clear hg25
  have Hx29 := lhd (show ((rdn rl sh b n : Int)) = 24 * (rl.length : Int) + 1 by rw [HR.out, rdn_end (by omega)])
  go_wp2_with fail
  go_ret
  exact ⟨by rw [Hx29.out] <;> rfl, F28.gb⟩
 case atStart1 =>
  rw [HI5.out]
  exact ⟨b, n, rfl, (by kernel_rfl), (by kernel_rfl), rfl, hb, (by have h_ := c3H.out; omega), hn, (by rw [rdn, if_neg (by have h_ := c3H.out; omega)]), rfl, (by first | exact Nat.le_refl _ | omega | (simp; done) | (simp; omega)), F1⟩
end Go.Proofs.Ytokelpmngahnoaa
/- make of a row of truth values. -/
namespace Go.Proofs.Ytokelpmngahnoaa
open Go.RowKit
set_option maxRecDepth 100000
theorem infoBo : (Try.prog.info? 4).map (fun i => (i.zero, i.size, i.bytes)) = some (some (.bool false), 1, 1) := by kernel_rfl
theorem okBo : ElemOk Try.prog 56 4 1 1 boEnc where
 under := Try.underlying56
 info := info5 infoBo rfl
 pos := by omega
 small := by omega
 len := fun _ => rfl
 one := fun x u hu => by
  simp [boEnc] at hu
  subst hu
  rfl
theorem flat_bools (l : List Bool) : l.flatMap boEnc = l.map (fun z => Value.bool z) := by
 induction l with
 | nil => rfl
 | cons z l ih => rw [List.flatMap_cons, ih]; rfl
theorem wpList_mkBool {ops : Array Oper} {rest : List Oper} {o : Oper} {a : Act} {Q : Exit -> Act -> World -> Prop} {w0 w : World} {L : List Res} (hgd : o.guard = none) (l c : Operand) (ho : o.op = .makeSlice 56 l c)
  (n : Nat) (hl : a.eval l = .int .i64 (n : Int)) (hc : a.eval c = .int .i64 (n : Int)) (hB : Bun w0 L w) (hn : n <= 100000) (g : Nat) (hg : w.heap.size = g)
  (h : ∀ w', Bun w0 (rown boEnc 4 1 w0.heap.size (.slice (some ⟨g, 0, none⟩) n n) (List.replicate n false) :: L) w' -> w.heap.size <= w'.heap.size -> wpList Try.prog ops Q rest (a.put o.dst (.slice (some ⟨g, 0, none⟩) n n)) w') : wpList Try.prog ops Q (o :: rest) a w := by
 obtain ⟨i, z, h2, h3, h4, h5, h6⟩ := okBo.info
 subst hg
 have ez : z = .bool false := by
  have h7 : (Try.prog.info? 4).map (fun i => i.zero) = some (some (.bool false)) := by kernel_rfl
  rw [h2] at h7
  simp only [Option.map_some, Option.some.injEq] at h7
  rw [h3] at h7
  exact Option.some.inj h7
 subst ez
 refine wpList_make_full w hgd l c 56 ho w0.heap.size 4 i (.bool false) 1 Try.underlying56 h2 h3 h4 .i64 .i64 n n n hl hc rfl rfl (by rw [h5]; omega) (by unfold maxLen; omega) hB.gb.size fun w' hw hgb => ?_
 have e : (madeCells (Value.cells (.bool false)) (n * 1)).toList = (List.replicate n false).flatMap boEnc := by
  rw [flat_bools]
  refine List.ext_getElem (by simp [madeCells]) fun j h1 h2 => ?_
  simp [madeCells, Value.cells, Nat.mod_one]
 rw [e] at hw
 have ho' : Own boEnc 4 1 w0.heap.size w' (.slice (some ⟨w.heap.size, 0, none⟩) n n) (List.replicate n false) := by
  unfold Own
  rw [List.length_replicate]
  exact hw
 refine h w' (hB.add _ hgb ho' fun g hx => ?_) hgb.size
 have hx' : some w.heap.size = some g := hx
 injection hx' with hx'
 subst hx'
 exact ⟨Nat.le_refl _, (ho'.lt _ hx).2⟩
end Go.Proofs.Ytokelpmngahnoaa
/- Rows of truth values that lie behind a row of slices. -/
namespace Go.Proofs.Ytokelpmngahnoaa
open Go.RowKit
set_option maxRecDepth 100000
def rrws (base : Nat) (l : List (Value × List Bool)) : Res :=
 ⟨true, fun x => ∃ t ∈ l, t.1.ownBlock = some x, fun w => ∀ t ∈ l, Own boEnc 4 1 base w t.1 t.2, fun _ _ _ hg hr h t ht => Own.gb (h t ht) hg (fun k e e' => hr k e ⟨t, ht, e'⟩)⟩
def vEncS (v : Value) : List Value := [if sliceB v = true then v else .slice none 0 0]
theorem infoRB : (Try.prog.info? 56).map (fun i => (i.zero, i.size, i.bytes)) = some (some (.slice none 0 0), 1, 24) := by kernel_rfl
theorem okRB : ElemOk Try.prog 49 56 1 24 vEncS where
 under := Try.underlying49
 info := info5 infoRB rfl
 pos := by omega
 small := by omega
 len := fun _ => rfl
 one := fun x u hu => by
  simp [vEncS] at hu
  subst hu
  split
  ·
   rename_i h
   cases x <;> first | rfl | cases h
  · rfl
section
variable {w0 A B : World} {L : List Res} {base : Nat}
theorem Bun.rws0 (h : Bun w0 L A) (base : Nat) : Bun w0 (rrws base [] :: L) A :=
 h.add (rrws base []) (gb_refl _ _) (fun t ht => by cases ht) (fun g ⟨t, ht, _⟩ => by cases ht)
theorem Bun.rws {l : List (Value × List Bool)} {v : Value} {a : List Bool} (h : Bun w0 (rown boEnc 4 1 base v a :: rrws base l :: L) A) : Bun w0 (rrws base (l ++ [(v, a)]) :: L) A := by
 have hd := h.dis
 rw [List.pairwise_cons, List.pairwise_cons] at hd
 have h1 : Own boEnc 4 1 base A v a := h.all _ (.head _)
 have h2 : ∀ t ∈ l, Own boEnc 4 1 base A t.1 t.2 := h.all _ (.tail _ (.head _))
 refine ⟨fun r hr => ?_, fun r hr g hx => ?_, ?_, h.gb⟩
 ·
  rcases List.mem_cons.1 hr with rfl | hr
  ·
   intro t' ht'
   rcases List.mem_append.1 ht' with h3 | h3
   · exact h2 t' h3
   obtain rfl := List.mem_singleton.1 h3
   exact h1
  · exact h.all r (.tail _ (.tail _ hr))
 ·
  rcases List.mem_cons.1 hr with rfl | hr
  ·
   obtain ⟨t', ht', e⟩ := hx
   rcases List.mem_append.1 ht' with h3 | h3
   · exact h.bd _ (.tail _ (.head _)) g ⟨t', h3, e⟩
   obtain rfl := List.mem_singleton.1 h3
   exact h.bd _ (.head _) g e
  · exact h.bd r (.tail _ (.tail _ hr)) g hx
 rw [List.pairwise_cons]
 refine ⟨fun x hx hm g ⟨t', ht', e⟩ hg => ?_, hd.2.2⟩
 rcases List.mem_append.1 ht' with h3 | h3
 · exact hd.2.1 x hx (.inl rfl) g ⟨t', h3, e⟩ hg
 obtain rfl := List.mem_singleton.1 h3
 exact hd.1 x (.tail _ hx) (.inl rfl) g e hg
end
end Go.Proofs.Ytokelpmngahnoaa
/- make of a row of numbers. -/
namespace Go.Proofs.Ytokelpmngahnoaa
open Go.RowKit
theorem flat_ints (l : List Int) : l.flatMap intEnc = l.map (fun z => Value.int .i64 z) := by
 induction l with
 | nil => rfl
 | cons z l ih => rw [List.flatMap_cons, ih]; rfl
theorem wpList_mkInt {ops : Array Oper} {rest : List Oper} {o : Oper} {a : Act} {Q : Exit -> Act -> World -> Prop} {w0 w : World} {L : List Res} (hgd : o.guard = none) (l c : Operand) (ho : o.op = .makeSlice 27 l c)
  (n : Nat) (hl : a.eval l = .int .i64 (n : Int)) (hc : a.eval c = .int .i64 (n : Int)) (hB : Bun w0 L w) (hn : n <= 100000) (g : Nat) (hg : w.heap.size = g)
  (h : ∀ w', Bun w0 (rown intEnc 3 1 w0.heap.size (.slice (some ⟨g, 0, none⟩) n n) (List.replicate n 0) :: L) w' -> w.heap.size <= w'.heap.size -> wpList Try.prog ops Q rest (a.put o.dst (.slice (some ⟨g, 0, none⟩) n n)) w') : wpList Try.prog ops Q (o :: rest) a w := by
 obtain ⟨i, z, h2, h3, h4, h5, h6⟩ := okInt.info
 subst hg
 have ez : z = .int .i64 0 := by
  have h7 : (Try.prog.info? 3).map (fun i => i.zero) = some (some (.int .i64 0)) := by kernel_rfl
  rw [h2] at h7
  simp only [Option.map_some, Option.some.injEq] at h7
  rw [h3] at h7
  exact Option.some.inj h7
 subst ez
 refine wpList_make_full w hgd l c 27 ho w0.heap.size 3 i (.int .i64 0) 1 Try.underlying27 h2 h3 h4 .i64 .i64 n n n hl hc rfl rfl (by rw [h5]; omega) (by unfold maxLen; omega) hB.gb.size fun w' hw hgb => ?_
 have e : (madeCells (Value.cells (.int .i64 0)) (n * 1)).toList = (List.replicate n (0 : Int)).flatMap intEnc := by
  rw [flat_ints]
  refine List.ext_getElem (by simp [madeCells]) fun j h1 h2 => ?_
  simp [madeCells, Value.cells, Nat.mod_one]
 rw [e] at hw
 have ho' : Own intEnc 3 1 w0.heap.size w' (.slice (some ⟨w.heap.size, 0, none⟩) n n) (List.replicate n 0) := by
  unfold Own
  rw [List.length_replicate]
  exact hw
 refine h w' (hB.add _ hgb ho' fun g hx => ?_) hgb.size
 have hx' : some w.heap.size = some g := hx
 injection hx' with hx'
 subst hx'
 exact ⟨Nat.le_refl _, (ho'.lt _ hx).2⟩
end Go.Proofs.Ytokelpmngahnoaa
/- make of a row, in a region that draws. -/
namespace Go.Proofs.Ytokelpmngahnoaa
open Go.RowKit
set_option maxRecDepth 100000
end Go.Proofs.Ytokelpmngahnoaa
