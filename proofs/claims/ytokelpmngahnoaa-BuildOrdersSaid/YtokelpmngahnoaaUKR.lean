/- the reference: has, all. -/
import Derived.Test.YtokelpmngahnoaaUKO
import Derived.Test.YtokelpmngahnoaaUG5
import Derived.Test.YtokelpmngahnoaaUKB
import Derived.Test.YtokelpmngahnoaaUKP
import Derived.Test.YtokelpmngahnoaaUT3
set_option linter.unusedVariables false
set_option linter.unusedSimpArgs false
set_option linter.unnecessarySimpa false
namespace Go.Proofs.Ytokelpmngahnoaa
open Go.RowKit
set_option maxRecDepth 100000
attribute [local go_sem] Oper.semAt_some
set_option maxHeartbeats 4000000 in
theorem rhas_c (lo hi : Nat) (v : Value) (l : List Int) (x : Int) (w : World) (hl : Sl intEnc 1 lo hi w v l) (h2 : hi <= w.heap.size) :
  Calls Try.prog 116 #[v, .int .i64 x] w (Ret (.bool (hasI l x)) w) := by
 have F1 : Bun w [] w := Bun.nil _
 have hm_l := hl.len
 unfold maxLen at hm_l
 obtain ⟨a, c, rfl⟩ := hl.any
 replace F1 := F1.sl0 hl h2 rfl
 clear hl
 go_enter Try.func116, Try.ntmps116
 go_wp2_with fail
 obtain ⟨HI3_, HI30⟩ : ∃ I : RelT, I = (fun t ds wr => ∃ (k : Nat), t 0 = .slice a l.length c /\ t 1 = .int .i64 x /\ t 5 = .int .i64 (k : Int) /\ k <= l.length /\ Hid (∀ i, i < k -> ¬ l[i]? = some x) /\ ds = [] /\ w.heap.size <= wr.heap.size /\ Bun w [rsl intEnc 1 lo hi (.slice a l.length c) l] wr) := ⟨_, rfl⟩
 have HI3 := lhd HI30
 clear HI30
 refine wp_loopS 18 rfl HI3_ (fun t wr => l.length - (intOf (t 5)).toNat) ?atStart1 ?round1
 case round1 =>
  intro t ds wr hHid
  rw [HI3.out] at hHid
  obtain ⟨k, e0, e1, e5, hrel⟩ := hHid
  have e : ((List.range 18).map t).toArray = #[t 0, t 1, t 2, t 3, t 4, t 5, t 6, t 7, t 8, t 9, t 10, t 11, t 12, t 13, t 14, t 15, t 16, t 17] := rfl
  (try dsimp only at e)
  rw [e0, e1, e5] at e
  rw [e]
  simp only [e5]
  clear e e0 e1 e5
  obtain ⟨hk, HN, rfl, hs5, hF4⟩ := hrel
  clear F1
  obtain ⟨w6, rfl⟩ : ∃ x_ : World, x_ = wr := ⟨_, rfl⟩
  by_cases c7 : (k : Int) < (l.length : Int)
  ·
   have c7H := lhd c7
   obtain ⟨x8, o9, e_⟩ := Sl.addr (hF4.at 0 rfl : Sl intEnc 1 lo hi _ (.slice a l.length c) l) (by omega)
   subst e_
   obtain ⟨z, hz10_⟩ : ∃ z_, l[k]? = some z_ := ⟨_, List.getElem?_eq_getElem (by omega)⟩
   have hz10 := lhd hz10_
   clear hz10_
   by_cases c11 : z = x
   ·
    have c11a : (z == x) = true := beq_t c11
    have c11b : (z != x) = false := bne_f c11
    have c11H := lhd c11
    clear c11
    have Hx12 := lhd (show (((hasI l x) : Bool)) = true by exact hasI_iff.2 (by rw [← c11H.out]; exact List.mem_of_getElem? hz10.out))
    have ge13 : World.cell? _ ⟨x8, o9 + k, none⟩ = some (.int .i64 z) := (by have h_ := Sl.cells (hF4.at 0 rfl) hz10.out 0 _ rfl; simpa using h_)
    have gl14 := cell_lt ge13
    go_wp2_with fail
    clear ge13 gl14
    go_ret
    exact ⟨by rw [Hx12.out] <;> rfl, hF4.gb⟩
   have c11a : (z == x) = false := beq_f c11
   have c11b : (z != x) = true := bne_t c11
   have c11H := lhd c11
   clear c11
   have ge15 : World.cell? _ ⟨x8, o9 + k, none⟩ = some (.int .i64 z) := (by have h_ := Sl.cells (hF4.at 0 rfl) hz10.out 0 _ rfl; simpa using h_)
   have gl16 := cell_lt ge15
   go_wp2_with fail
   clear ge15 gl16
   (first | refine ⟨rfl, ?_, ?_⟩ | refine ⟨?_, ?_⟩)
   · rw [HI3.out]; exact ⟨k + 1, rfl, rfl, (by show Value.int .i64 ((k : Int) + 1) = _; simp), (by omega), (lhd (fun i_ hi_ e_ => by rcases Nat.lt_succ_iff_lt_or_eq.1 hi_ with h_ | h_; exact HN.out i_ h_ e_; rw [h_, hz10.out] at e_; exact c11H.out (Option.some.inj e_))), (by first | rfl | simp), (by first | omega | (simp; done) | (simp; omega)), hF4⟩
   · simp [slot, intOf]; omega
  have c7H := lhd c7
  have c7a : decide ((k : Int) < (l.length : Int)) = false := dec_f c7
  have Hx17 := lhd (show (((hasI l x) : Bool)) = false by rw [Bool.eq_false_iff]; exact fun h_ => by obtain ⟨i_, hi_, e_⟩ := List.getElem_of_mem (hasI_iff.1 h_); exact HN.out i_ (by omega) (by rw [List.getElem?_eq_getElem hi_, e_]))
  go_wp2_with fail
  go_ret
  exact ⟨by rw [Hx17.out] <;> rfl, hF4.gb⟩
 case atStart1 =>
  rw [HI3.out]
  exact ⟨0, rfl, rfl, rfl, Nat.zero_le _, lhd (fun i h => absurd h (Nat.not_lt_zero _)), rfl, (by first | exact Nat.le_refl _ | omega | (simp; done) | (simp; omega)), F1⟩
set_option maxHeartbeats 4000000 in
theorem rall_c (lo hi : Nat) (v : Value) (l : List Int) (lo2 hi2 : Nat) (q : Value) (ws : List Int) (w : World) (hl : Sl intEnc 1 lo hi w v l) (h2 : hi <= w.heap.size) (hq : Sl intEnc 1 lo2 hi2 w q ws) (h3 : hi2 <= w.heap.size) :
  Calls Try.prog 117 #[v, q] w (Ret (.bool (ws.all fun a => hasI l a)) w) := by
 have F1 : Bun w [] w := Bun.nil _
 have hm_l := hl.len
 unfold maxLen at hm_l
 obtain ⟨a, c, rfl⟩ := hl.any
 replace F1 := F1.sl0 hl h2 rfl
 clear hl
 have hm_q := hq.len
 unfold maxLen at hm_q
 obtain ⟨aq, cq, rfl⟩ := hq.any
 replace F1 := F1.sl0 hq h3 rfl
 clear hq
 go_enter Try.func117, Try.ntmps117
 go_wp2_with fail
 obtain ⟨HI4_, HI40⟩ : ∃ I : RelT, I = (fun t ds wr => ∃ (k : Nat), t 0 = .slice a l.length c /\ t 1 = .slice aq ws.length cq /\ t 5 = .int .i64 (k : Int) /\ k <= ws.length /\ Hid ((ws.all fun a => hasI l a) = ((ws.drop k).all fun a => hasI l a)) /\ ds = [] /\ w.heap.size <= wr.heap.size /\ Bun w [rsl intEnc 1 lo2 hi2 (.slice aq ws.length cq) ws, rsl intEnc 1 lo hi (.slice a l.length c) l] wr) := ⟨_, rfl⟩
 have HI4 := lhd HI40
 clear HI40
 refine wp_loopS 19 rfl HI4_ (fun t wr => ws.length - (intOf (t 5)).toNat) ?atStart2 ?round2
 case round2 =>
  intro t ds wr hHid
  rw [HI4.out] at hHid
  obtain ⟨k, e0, e1, e5, hrel⟩ := hHid
  have e : ((List.range 19).map t).toArray = #[t 0, t 1, t 2, t 3, t 4, t 5, t 6, t 7, t 8, t 9, t 10, t 11, t 12, t 13, t 14, t 15, t 16, t 17, t 18] := rfl
  (try dsimp only at e)
  rw [e0, e1, e5] at e
  rw [e]
  simp only [e5]
  clear e e0 e1 e5
  obtain ⟨hk, HA, rfl, hs6, hF5⟩ := hrel
  clear F1
  obtain ⟨w7, rfl⟩ : ∃ x_ : World, x_ = wr := ⟨_, rfl⟩
  by_cases c8 : (k : Int) < (ws.length : Int)
  ·
   have c8H := lhd c8
   obtain ⟨x9, o10, e_⟩ := Sl.addr (hF5.at 0 rfl : Sl intEnc 1 lo2 hi2 _ (.slice aq ws.length cq) ws) (by omega)
   subst e_
   obtain ⟨y, hz11_⟩ : ∃ z_, ws[k]? = some z_ := ⟨_, List.getElem?_eq_getElem (by omega)⟩
   have hz11 := lhd hz11_
   clear hz11_
   have ge12 : World.cell? _ ⟨x9, o10 + k, none⟩ = some (.int .i64 y) := (by have h_ := Sl.cells (hF5.at 0 rfl) hz11.out 0 _ rfl; simpa using h_)
   have gl13 := cell_lt ge12
   go_wp2_with fail
   clear ge12 gl13
   refine (rhas_c lo hi _ l y _ (hF5.at 1 rfl : Sl intEnc 1 lo hi _ (.slice a l.length c) l) (Nat.le_trans h2 hF5.gb.size)).mono ?_
   rintro e w16 ⟨rfl, hg14⟩
   have hg14s := hg14.size
   (try simp at hg14s)
   have F17 := hF5.gn hg14
   clear hF5
   clear hg14
   cases c18 : hasI l y
   ·
    have c18H := lhd c18
    have Hx19 := lhd (show (((ws.all fun a => hasI l a) : Bool)) = false by rw [HA.out, drop_cons hz11.out, List.all_cons, c18H.out]; rfl)
    go_wp2_with fail
    go_ret
    exact ⟨by rw [Hx19.out] <;> rfl, F17.gb⟩
   have c18H := lhd c18
   go_wp2_with fail
   (first | refine ⟨rfl, ?_, ?_⟩ | refine ⟨?_, ?_⟩)
   · rw [HI4.out]; exact ⟨k + 1, rfl, rfl, (by show Value.int .i64 ((k : Int) + 1) = _; simp), (by omega), (lhd (by rw [HA.out, drop_cons hz11.out, List.all_cons, c18H.out, Bool.true_and])), (by first | rfl | simp), (by first | omega | (simp; done) | (simp; omega)), F17⟩
   · simp [slot, intOf]; omega
  have c8H := lhd c8
  have c8a : decide ((k : Int) < (ws.length : Int)) = false := dec_f c8
  have Hx20 := lhd (show (((ws.all fun a => hasI l a) : Bool)) = true by rw [HA.out, List.drop_eq_nil_of_le (by omega)]; rfl)
  go_wp2_with fail
  go_ret
  exact ⟨by rw [Hx20.out] <;> rfl, hF5.gb⟩
 case atStart2 =>
  rw [HI4.out]
  exact ⟨0, rfl, rfl, rfl, Nat.zero_le _, lhd rfl, rfl, (by first | exact Nat.le_refl _ | omega | (simp; done) | (simp; omega)), F1⟩
end Go.Proofs.Ytokelpmngahnoaa
/- Rows of numbers of one's own, each with its slice; what orders does with so many tasks left. -/
namespace Go.Proofs.Ytokelpmngahnoaa
open Go.RowKit
set_option maxRecDepth 100000
def rrwi (base : Nat) (l : List (Value × List Nat)) : Res :=
 ⟨true, fun x => ∃ t ∈ l, t.1.ownBlock = some x, fun w => ∀ t ∈ l, Own intEnc 3 1 base w t.1 (ints t.2), fun _ _ _ hg hr h t ht => Own.gb (h t ht) hg (fun k e e' => hr k e ⟨t, ht, e'⟩)⟩
theorem infoRO : (Try.prog.info? 27).map (fun i => (i.zero, i.size, i.bytes)) = some (some (.slice none 0 0), 1, 24) := by kernel_rfl
theorem okRO : ElemOk Try.prog 72 27 1 24 vEncS where
 under := Try.underlying72
 info := info5 infoRO rfl
 pos := by omega
 small := by omega
 len := fun _ => rfl
 one := fun x u hu => by
  simp [vEncS] at hu
  subst hu
  split
  ·
   rename_i h
   cases x <;> first | rfl | cases h
  · rfl
theorem own_sliceB {α : Type} {enc : α -> List Value} {e : TypeId} {sz base : Nat} {w : World} {v : Value} {l : List α} (h : Own enc e sz base w v l) (hsz : ∀ x, (enc x).length = sz) : sliceB v = true := by
 obtain ⟨a, c, rfl⟩ := (Own.sl h hsz).any
 rfl
theorem own_litV {base g : Nat} {v : Value} {w : World} (h : Bk w g 27 #[v]) (hb : base <= g) (hv : sliceB v = true) : Own vEncS 27 1 base w (.slice (some ⟨g, 0, none⟩) 1 1) [v] :=
 ⟨rfl, .inr ⟨g, 1, #[v], rfl, hb, h, Nat.le_refl _, by simp [maxLen], rfl, by simp [vEncS, hv]⟩⟩
section
variable {w0 A B : World} {L : List Res} {base : Nat}
theorem Bun.rwi0 (h : Bun w0 L A) (base : Nat) : Bun w0 (rrwi base [] :: L) A :=
 h.add (rrwi base []) (gb_refl _ _) (fun t ht => by cases ht) (fun g ⟨t, ht, _⟩ => by cases ht)
theorem Bun.rwiApp {l l' : List (Value × List Nat)} (h : Bun w0 (rrwi base l' :: rrwi base l :: L) A) : Bun w0 (rrwi base (l ++ l') :: L) A := by
 have hd := h.dis
 rw [List.pairwise_cons, List.pairwise_cons] at hd
 have h1 : ∀ t ∈ l', Own intEnc 3 1 base A t.1 (ints t.2) := h.all _ (.head _)
 have h2 : ∀ t ∈ l, Own intEnc 3 1 base A t.1 (ints t.2) := h.all _ (.tail _ (.head _))
 refine ⟨fun r hr => ?_, fun r hr g hx => ?_, ?_, h.gb⟩
 ·
  rcases List.mem_cons.1 hr with rfl | hr
  ·
   intro t' ht'
   rcases List.mem_append.1 ht' with h3 | h3
   · exact h2 t' h3
   · exact h1 t' h3
  · exact h.all r (.tail _ (.tail _ hr))
 ·
  rcases List.mem_cons.1 hr with rfl | hr
  ·
   obtain ⟨t', ht', e⟩ := hx
   rcases List.mem_append.1 ht' with h3 | h3
   · exact h.bd _ (.tail _ (.head _)) g ⟨t', h3, e⟩
   · exact h.bd _ (.head _) g ⟨t', h3, e⟩
  · exact h.bd r (.tail _ (.tail _ hr)) g hx
 rw [List.pairwise_cons]
 refine ⟨fun x hx hm g ⟨t', ht', e⟩ hg => ?_, hd.2.2⟩
 rcases List.mem_append.1 ht' with h3 | h3
 · exact hd.2.1 x hx (.inl rfl) g ⟨t', h3, e⟩ hg
 · exact hd.1 x (.tail _ hx) (.inl rfl) g ⟨t', h3, e⟩ hg
theorem Bun.rwi1 {v : Value} {o : List Nat} (h : Bun w0 (rown intEnc 3 1 base v (ints o) :: L) A) : Bun w0 (rrwi base [(v, o)] :: L) A := by
 have hd := h.dis
 rw [List.pairwise_cons] at hd
 refine ⟨fun r hr => ?_, fun r hr g hx => ?_, ?_, h.gb⟩
 ·
  rcases List.mem_cons.1 hr with rfl | hr
  ·
   intro t ht
   obtain rfl := List.mem_singleton.1 ht
   exact h.all _ (.head _)
  · exact h.all r (.tail _ hr)
 ·
  rcases List.mem_cons.1 hr with rfl | hr
  ·
   obtain ⟨t, ht, e⟩ := hx
   obtain rfl := List.mem_singleton.1 ht
   exact h.bd _ (.head _) g e
  · exact h.bd r (.tail _ hr) g hx
 rw [List.pairwise_cons]
 refine ⟨fun x hx hm g ⟨t, ht, e⟩ hg => ?_, hd.2⟩
 obtain rfl := List.mem_singleton.1 ht
 exact hd.1 x hx (.inl rfl) g e hg
theorem Bun.lit1 {g : Nat} {v : Value} {o : List Nat} (h : Bun w0 (rbox g 27 #[v] :: rown intEnc 3 1 base v (ints o) :: L) A) (hb : base <= g) : Bun w0 (rown vEncS 27 1 base (.slice (some ⟨g, 0, none⟩) 1 1) [v] :: rrwi base [(v, o)] :: L) A := by
 have hv : sliceB v = true := own_sliceB (h.at 1 rfl : Own intEnc 3 1 base A v (ints o)) (fun _ => rfl)
 have hB : Bk A g 27 #[v] := h.at 0 rfl
 have h2 : Bun w0 (rown vEncS 27 1 base (.slice (some ⟨g, 0, none⟩) 1 1) [v] :: rown intEnc 3 1 base v (ints o) :: L) A := by
  refine h.wr (r' := rown vEncS 27 1 base (.slice (some ⟨g, 0, none⟩) 1 1) [v]) rfl (gb_refl _ none) (fun _ e => by cases e) (own_litV hB hb hv) fun k hk => ?_
  have hk' : some g = some k := hk
  injection hk' with hk'
  subst hk'
  exact ⟨.inl rfl, hB.lt⟩
 have h3 : Bun w0 (rown intEnc 3 1 base v (ints o) :: rown vEncS 27 1 base (.slice (some ⟨g, 0, none⟩) 1 1) [v] :: L) A := h2.front 1 rfl rfl
 have h4 := Bun.rwi1 h3
 exact h4.front 1 rfl rfl
end
end Go.Proofs.Ytokelpmngahnoaa
/- the reference: all orders by the reference. -/
namespace Go.Proofs.Ytokelpmngahnoaa
open Go.RowKit
set_option maxRecDepth 100000
attribute [local go_sem] Oper.semAt_some
section
variable {α : Type} {P : Program} {t e : TypeId} {sz bytes : Nat} {enc : α -> List Value}
theorem wp_appS (ok : ElemOk P t e sz bytes enc) {o : Oper} {a : Act} {K : Act -> World -> Prop} {Q : Exit -> Act -> World -> Prop} {w0 w : World} {L : List Res} (s x : Operand)
  (ho : o.op = .call { callee := .builtin .append, args := #[s, x], argTypes := #[t, t] }) (base : Nat) (v : Value) (l : List α) (hs : a.eval s = v) (hB : Bun w0 (rown enc e sz base v l :: L) w)
  (lo hi : Nat) (vy : Value) (ys : List α) (hx : a.eval x = vy) (hy : Sl enc sz lo hi w vy ys) (hbig : l.length + ys.length <= 100000000000) (hbase : base <= w.heap.size)
  (h : ∀ v' w', Bun w0 (rown enc e sz base v' (l ++ ys) :: L) w' -> w.heap.size <= w'.heap.size -> K (a.put o.dst v') w') : o.wp P a w K Q := by
 have hown : Own enc e sz base w v l := hB.at 0 rfl
 by_cases h0 : ys.length = 0
 ·
  obtain ⟨ad, c, rfl, rfl⟩ := hy.nil_ h0
  have hr : (Builtin.append_ #[t, t] o.type #[v, .slice ad 0 c]).run P w = .ok v w := by
   obtain ⟨i, z, h1, h2, h3', h4, h5⟩ := ok.info
   rcases hown.2 with ⟨rfl, _⟩ | ⟨g, cap, cur, rfl, _, _, hnc, _⟩
   · cases ad <;> simp [Builtin.append_, run_underlying ok.under, sizeOf, typeInfo, h1, Builtin.lenOf, Builtin.firstCells, storeCells, loadCells, loadCellsFrom]
   · cases ad <;> simp [Builtin.append_, run_underlying ok.under, sizeOf, typeInfo, h1, Builtin.lenOf, Builtin.firstCells, hnc, storeCells, loadCells, loadCellsFrom]
  unfold Oper.wp execOp
  simp only [ho, resolve, invoke, builtin, Sem.run_bind, Sem.run_pure, Result.andThen_ok, List.map_toArray, List.map_cons, List.map_nil, hs, hx, hr]
  exact h v w (by rw [List.append_nil]; exact hB) (Nat.le_refl _)
 obtain ⟨b, off, c, rfl, h1, h2, h3⟩ := hy.form (by omega)
 have hfl : ∀ (l : List α) (j : Nat) (u : Value), (l.flatMap enc)[j]? = some u -> ∃ i k x, l[i]? = some x /\ (enc x)[k]? = some u /\ j = i * sz + k := by
  intro l
  induction l with
  | nil => intro j u h; simp at h
  | cons x l ih =>
   intro j u h
   rw [List.flatMap_cons] at h
   by_cases hj : j < sz
   ·
    rw [List.getElem?_append_left (by rw [ok.len]; exact hj)] at h
    exact ⟨0, j, x, rfl, h, by omega⟩
   rw [List.getElem?_append_right (by rw [ok.len]; omega), ok.len] at h
   obtain ⟨i, k, y, h1, h2, h3⟩ := ih _ _ h
   exact ⟨i + 1, k, y, h1, h2, by rw [Nat.add_mul]; omega⟩
 refine wp_app w ok s x ho base v l ys hs hown ⟨b, off, none⟩ ys.length c hx rfl (by omega) (fun j u hj => ?_) _ rfl hbig hbase _ rfl fun g cap w' hp => h _ _ (hB.app hp (Nat.le_refl _)) hp.gb.size
 obtain ⟨i, k, x, e1, e2, rfl⟩ := hfl ys j u hj
 obtain ⟨hi, rfl⟩ := List.getElem?_eq_some_iff.1 e1
 have := h3 i hi k u e2
 have hadd : (⟨b, off, none⟩ : Addr).add (i * sz + k) = ⟨b, off + i * sz + k, none⟩ := by
  unfold Addr.add
  split <;> simp_all <;> omega
 rw [hadd]
 exact this
theorem step_appS (ok : ElemOk P t e sz bytes enc) {ops : Array Oper} {o : Oper} {a : Act} {K : Act -> World -> Prop} {Q : Exit -> Act -> World -> Prop} {E : Prop} {w0 w : World} {L : List Res} (hgd : o.guard = none) (s x : Operand)
  (ho : o.op = .call { callee := .builtin .append, args := #[s, x], argTypes := #[t, t] }) (base : Nat) (v : Value) (l : List α) (hs : a.eval s = v) (hB : Bun w0 (rown enc e sz base v l :: L) w)
  (lo hi : Nat) (vy : Value) (ys : List α) (hx : a.eval x = vy) (hy : Sl enc sz lo hi w vy ys) (hbig : l.length + ys.length <= 100000000000) (hbase : base <= w.heap.size)
  (h : ∀ v' w', Bun w0 (rown enc e sz base v' (l ++ ys) :: L) w' -> w.heap.size <= w'.heap.size -> K (a.put o.dst v') w') : if Region.wanted o (yielded ops a.tmps) = true then Oper.wp P o a w K Q else E := by
 have hw : Region.wanted o (yielded ops a.tmps) = true := by simp [Region.wanted, hgd]
 rw [if_pos hw]
 exact wp_appS ok s x ho base v l hs hB lo hi vy ys hx hy hbig hbase h
end
def fstV (l : List (Value × List Nat)) : List Value := l.map (·.1)
theorem fstV_len (l : List (Value × List Nat)) : (fstV l).length = l.length := List.length_map _
theorem fstV_app (l l' : List (Value × List Nat)) : fstV (l ++ l') = fstV l ++ fstV l' := List.map_append
def OrdsR (b0 lo hi : Nat) (aM aT : Option Addr) (cM cT : Nat) (ms : List Mch) (ts : List Tsk) (w0 w : World) (LR : List Res) (L : List (List Nat)) : Ending -> World -> Prop := fun e w' => ∃ (a : Option Addr) (c : Nat) (l : List (Value × List Nat)), (e = .returned (.slice a l.length c) /\ l.map (·.2) = L) /\ Bun w0 [rown vEncS 27 1 b0 (.slice a l.length c) (fstV l), rrwi b0 l, rafs lo hi ts, rsl tskEnc 8 lo hi (.slice aT ts.length cT) ts, rsl mchEnc 3 lo hi (.slice aM ms.length cM) ms, rall LR] w' /\ w.heap.size <= w'.heap.size
def OrdsP (b0 lo hi : Nat) (aM aT : Option Addr) (cM cT : Nat) (ms : List Mch) (ts : List Tsk) (f : Nat) : Prop := ∀ (w0 w : World) (LR : List Res) (now : List Nat) (vn : Value), Bun w0 [rown intEnc 3 1 b0 vn (ints now), rafs lo hi ts, rsl tskEnc 8 lo hi (.slice aT ts.length cT) ts, rsl mchEnc 3 lo hi (.slice aM ms.length cM) ms, rall LR] w -> b0 <= w0.heap.size -> OrdP ts now -> now.length + f = ts.length →
 Calls Try.prog 97 #[.agg #[.slice aM ms.length cM, .slice aT ts.length cT], vn] w (OrdsR b0 lo hi aM aT cM cT ms ts w0 w LR (ords ts f now))
theorem Bun.nilrowB {α : Type} (enc : α -> List Value) (e : TypeId) (sz b : Nat) {w0 A : World} {L : List Res} (h : Bun w0 L A) : Bun w0 (rown enc e sz b (.slice none 0 0) [] :: L) A :=
 h.add (rown enc e sz b (.slice none 0 0) []) (gb_refl _ _) (Own.nil _ _ _ _ _) fun g e => by cases e
theorem Bun.castL {α : Type} {enc : α -> List Value} {e : TypeId} {sz b : Nat} {v : Value} {l l' : List α} {w0 A : World} {L : List Res} (h : l = l') (hB : Bun w0 (rown enc e sz b v l :: L) A) : Bun w0 (rown enc e sz b v l' :: L) A := by
 subst h
 exact hB
theorem ordK_bd {ts : List Tsk} {f B : Nat} (h : ∀ now, (ords ts f now).length <= B) (now : List Nat) : ∀ k, (ordK ts f now k).length <= k * B
 | 0 => by simp [ordK]
 | k + 1 => by
  have h1 := ordK_bd h now k
  rw [Nat.succ_mul]
  by_cases he : extB ts now k = true
  ·
   rw [ordK_yes he, List.length_append]
   have := h (now ++ [k])
   omega
  rw [ordK_no (Bool.eq_false_iff.2 he)]
  omega
theorem ords_bd {ts : List Tsk} (h6 : ts.length <= 6) : ∀ (f : Nat) (now : List Nat), (ords ts f now).length <= 6 ^ f
 | 0, now => by simp [ords]
 | f + 1, now => by
  rw [← ordK_all]
  refine Nat.le_trans (ordK_bd (ords_bd h6 f) now ts.length) ?_
  rw [Nat.pow_succ, Nat.mul_comm]
  exact Nat.mul_le_mul_left _ h6
theorem ords_few {ts : List Tsk} (h6 : ts.length <= 6) {f : Nat} (hf : f <= 6) (now : List Nat) : (ords ts f now).length <= 46656 :=
 Nat.le_trans (ords_bd h6 f now) (Nat.le_trans (Nat.pow_le_pow_right (by decide) hf) (by decide))
theorem ordK_few {ts : List Tsk} (h6 : ts.length <= 6) {f k : Nat} (hf : f <= 6) (hk : k <= 6) (now : List Nat) : (ordK ts f now k).length <= 300000 := by
 have h1 := ordK_bd (fun now => ords_few h6 hf now) now k
 have h2 : k * 46656 <= 6 * 46656 := Nat.mul_le_mul_right _ hk
 omega
theorem ords_post {b0 lo hi : Nat} {aM aT : Option Addr} {cM cT : Nat} {ms : List Mch} {ts : List Tsk} {w0 w w' : World} {LR : List Res} {v : Value} {l : List (Value × List Nat)} {L : List (List Nat)} (hl : l.map (·.2) = L) (h : Bun w0 [rown vEncS 27 1 b0 v (fstV l), rrwi b0 l, rafs lo hi ts, rsl tskEnc 8 lo hi (.slice aT ts.length cT) ts, rsl mchEnc 3 lo hi (.slice aM ms.length cM) ms, rall LR] w') (hs : w.heap.size <= w'.heap.size) : OrdsR b0 lo hi aM aT cM cT ms ts w0 w LR L (.returned v) w' := by
 obtain ⟨a, c, rfl, _⟩ := Own.slN (h.at 0 rfl : Own vEncS 27 1 b0 w' v (fstV l)) (fun _ => rfl) (fstV_len _)
 exact ⟨a, c, l, ⟨rfl, hl⟩, h, hs⟩
theorem ext_of {ts : List Tsk} {now : List Nat} {k : Nat} {z : Tsk} (hz : tk ts k = z) (h0 : ∀ a ∈ z.af, 0 <= a) : extB ts now k = (!(hasI (ints now) (k : Int)) && z.af.all fun a => hasI (ints now) a) := (dB_ext hz h0).symm
set_option maxHeartbeats 8000000 in
theorem ords_leaf (w0 : World) (b0 lo hi : Nat) (aM aT : Option Addr) (cM cT : Nat) (ms : List Mch) (ts : List Tsk) (LR : List Res) (now : List Nat) (vn : Value) (w : World) (hB : Bun w0 [rown intEnc 3 1 b0 vn (ints now), rafs lo hi ts, rsl tskEnc 8 lo hi (.slice aT ts.length cT) ts, rsl mchEnc 3 lo hi (.slice aM ms.length cM) ms, rall LR] w) (hb0 : b0 <= w0.heap.size) (hop : OrdP ts now) (hok : JobOk ms ts) (h6 : ts.length <= 6) (hln : now.length = ts.length) :
  Calls Try.prog 97 #[.agg #[.slice aM ms.length cM, .slice aT ts.length cT], vn] w (OrdsR b0 lo hi aM aT cM cT ms ts w0 w LR (ords ts 0 now)) := by
 obtain ⟨aN, cN, e_⟩ := (Own.sl (hB.at 0 rfl : Own intEnc 3 1 b0 _ vn (ints now)) (fun _ => rfl)).any
 rw [ints_len] at e_
 subst e_
 have hm_ts := (hB.at 2 rfl : Sl tskEnc 8 lo hi _ (.slice aT ts.length cT) ts).len
 unfold maxLen at hm_ts
 have hb1_ : b0 <= w.heap.size := Nat.le_trans hb0 hB.gb.size
 have HOK := lhd hok
 have HOP := lhd hop
 have hnl : now.length <= ts.length := by omega
 have hln2 : now.length + 0 <= ts.length /\ ts.length <= now.length + 0 := by omega
 have HLN := lhd hln
 have hnt := hok.nt
 clear hok hop hln
 have kn1 : (now.length : Int) = (ts.length : Int) := (by omega)
 have kn1H := lhd kn1
 have kn1a : ((now.length : Int) == (ts.length : Int)) = true := beq_t kn1
 have kn1b : ((now.length : Int) != (ts.length : Int)) = false := bne_f kn1
 clear kn1
 have hqD_ : ∀ (h : Decidable (now.length = ts.length)), @decide (now.length = ts.length) h = true := fun _ => decide_eq_true HLN.out
 have hqT_ : (now.length = ts.length) = True := eq_true HLN.out
 have hqB_ : (now.length == ts.length) = true := by rw [beq_iff_eq]; exact HLN.out
 go_enter Try.func97, Try.ntmps97
 go_wp2_with fail
 have F2 := hB.new 25 #[.slice aM ms.length cM, .slice aT ts.length cT] (n := w.heap.size) (by simp)
 clear hB
 replace F2 := F2.new 27 #[.slice aN now.length cN] (n := (w.heap.size + 1)) (by simp)
 have F4 : Bun w0 [rbox (w.heap.size + 1) 27 #[.slice aN now.length cN], rown intEnc 3 1 b0 (.slice aN now.length cN) (ints now), rafs lo hi ts, rsl tskEnc 8 lo hi (.slice aT ts.length cT) ts, rsl mchEnc 3 lo hi (.slice aM ms.length cM) ms, rall LR] _ := F2.pick [0, 2, 3, 4, 5, 6] (by decide) rfl
 clear F2
 exact bodyPost_ret (v := .slice (some ⟨w.heap.size + 1, 0, none⟩) 1 1) (by simp [results, Try.results97, go_sem]) rfl (⟨some ⟨(w.heap.size + 1), 0, none⟩, 1, [(.slice aN now.length cN, now)], ⟨rfl, rfl⟩, F4.lit1 (by first | omega | (simp; omega)), by first | omega | (simp; omega)⟩)
set_option maxHeartbeats 32000000 in
theorem ords_in (w0 : World) (b0 lo hi : Nat) (aM aT : Option Addr) (cM cT : Nat) (ms : List Mch) (ts : List Tsk) (LR : List Res) (now : List Nat) (vn : Value) (f : Nat) (w : World) (hB : Bun w0 [rown intEnc 3 1 b0 vn (ints now), rafs lo hi ts, rsl tskEnc 8 lo hi (.slice aT ts.length cT) ts, rsl mchEnc 3 lo hi (.slice aM ms.length cM) ms, rall LR] w) (hb0 : b0 <= w0.heap.size) (hop : OrdP ts now) (hok : JobOk ms ts) (h6 : ts.length <= 6) (ih : OrdsP b0 lo hi aM aT cM cT ms ts f) (hln : now.length + (f + 1) = ts.length) :
  Calls Try.prog 97 #[.agg #[.slice aM ms.length cM, .slice aT ts.length cT], vn] w (OrdsR b0 lo hi aM aT cM cT ms ts w0 w LR (ords ts (f + 1) now)) := by
 obtain ⟨aN, cN, e_⟩ := (Own.sl (hB.at 0 rfl : Own intEnc 3 1 b0 _ vn (ints now)) (fun _ => rfl)).any
 rw [ints_len] at e_
 subst e_
 have hm_ts := (hB.at 2 rfl : Sl tskEnc 8 lo hi _ (.slice aT ts.length cT) ts).len
 unfold maxLen at hm_ts
 have hb1_ : b0 <= w.heap.size := Nat.le_trans hb0 hB.gb.size
 have HOK := lhd hok
 have HOP := lhd hop
 have hnl : now.length <= ts.length := by omega
 have hln2 : now.length + (f + 1) <= ts.length /\ ts.length <= now.length + (f + 1) := by omega
 have HLN := lhd hln
 have hnt := hok.nt
 clear hok hop hln
 have IH := lhd ih
 clear ih
 have kn1 : ¬ ((now.length : Int) = (ts.length : Int)) := (by omega)
 have kn1H := lhd kn1
 have kn1a : ((now.length : Int) == (ts.length : Int)) = false := beq_f kn1
 have kn1b : ((now.length : Int) != (ts.length : Int)) = true := bne_t kn1
 clear kn1
 have hqD_ : ∀ (h : Decidable (now.length = ts.length)), @decide (now.length = ts.length) h = false := fun _ => decide_eq_false (by omega)
 have hqT_ : ¬ now.length = ts.length := by omega
 have hqB_ : (now.length == ts.length) = false := by rw [beq_eq_false_iff_ne]; omega
 go_enter Try.func97, Try.ntmps97
 go_wp2_with fail
 have F2 := hB.new 25 #[.slice aM ms.length cM, .slice aT ts.length cT] (n := w.heap.size) (by simp)
 clear hB
 have F3 := (F2.nilrowB vEncS 27 1 b0)
 clear F2
 have F4 := (F3.rwi0 b0)
 clear F3
 (skip)
 obtain ⟨HI5_, HI50⟩ : ∃ I : RelT, I = (fun t ds wr => ∃ (k : Nat) (ov1 : Value) (lA : List (Value × List Nat)), t 1 = .slice aN now.length cN /\ t 2 = .pointer (some ⟨w.heap.size, 0, none⟩) /\ t 5 = ov1 /\ t 6 = .int .i64 (k : Int) /\ k <= ts.length /\ Hid (lA.map (·.2) = ordK ts f now k) /\ ds = [] /\ w.heap.size <= wr.heap.size /\ Bun w0 [rrwi b0 lA, rown vEncS 27 1 b0 ov1 (fstV lA), rbox w.heap.size 25 #[.slice aM ms.length cM, .slice aT ts.length cT], rown intEnc 3 1 b0 (.slice aN now.length cN) (ints now), rafs lo hi ts, rsl tskEnc 8 lo hi (.slice aT ts.length cT) ts, rsl mchEnc 3 lo hi (.slice aM ms.length cM) ms, rall LR] wr) := ⟨_, rfl⟩
 have HI5 := lhd HI50
 clear HI50
 refine wp_loopS 47 rfl HI5_ (fun t wr => ts.length - (intOf (t 6)).toNat) ?atStart3 ?round3
 case round3 =>
  intro t ds wr hHid
  rw [HI5.out] at hHid
  obtain ⟨k, ov1, lA, e1, e2, e5, e6, hrel⟩ := hHid
  have e : ((List.range 47).map t).toArray = #[t 0, t 1, t 2, t 3, t 4, t 5, t 6, t 7, t 8, t 9, t 10, t 11, t 12, t 13, t 14, t 15, t 16, t 17, t 18, t 19, t 20, t 21, t 22, t 23, t 24, t 25, t 26, t 27, t 28, t 29, t 30, t 31, t 32, t 33, t 34, t 35, t 36, t 37, t 38, t 39, t 40, t 41, t 42, t 43, t 44, t 45, t 46] := rfl
  (try dsimp only at e)
  rw [e1, e2, e5, e6] at e
  rw [e]
  simp only [e6]
  clear e e1 e2 e5 e6
  obtain ⟨hk_, HLA, rfl, hs7, hF6⟩ := hrel
  clear F4
  obtain ⟨w8, rfl⟩ : ∃ x_ : World, x_ = wr := ⟨_, rfl⟩
  by_cases c9 : (k : Int) < (ts.length : Int)
  ·
   have c9H := lhd c9
   obtain ⟨x10, o11, e_⟩ := Sl.addr (hF6.at 5 rfl : Sl tskEnc 8 lo hi _ (.slice aT ts.length cT) ts) (by omega)
   subst e_
   obtain ⟨z, hz12_⟩ : ∃ z_, ts[k]? = some z_ := ⟨_, List.getElem?_eq_getElem (by omega)⟩
   have hz12 := lhd hz12_
   clear hz12_
   obtain ⟨a_z, c_z, hav_z, hcap_z, hsl_z⟩ := Afs.open (hF6.at 4 rfl : Afs lo hi _ ts) hz12.out
   have HAV_z := lhd hav_z
   clear hav_z
   have F13 := hF6.more 4 (rsl intEnc 1 lo hi (.slice a_z z.af.length c_z) z.af) rfl rfl rfl (fun _ h_ => h_) hsl_z
   clear hF6
   have hm_z := (F13.at 0 rfl : Sl intEnc 1 lo hi _ (.slice a_z z.af.length c_z) z.af).len
   unfold maxLen at hm_z
   have HZA : Hid (∀ a ∈ z.af, 0 <= a) := lhd (fun a h_ => ((HOK.out.to_ k z hz12.out).af a h_).1)
   have HEX : Hid (extB ts now k = (!(hasI (ints now) (k : Int)) && z.af.all fun a => hasI (ints now) a)) := lhd (ext_of (tk_get hz12.out) HZA.out)
   have hki : (k : Int) < (ts.length : Int) := by omega
   have b14 := F13.bx2 3 rfl
   go_wp2_with fail
   clear b14
   refine (rhas_c b0 _ _ (ints now) (k : Int) _ (Own.sl (F13.at 4 rfl : Own intEnc 3 1 b0 _ (.slice aN now.length cN) (ints now)) (fun _ => rfl)) (Nat.le_refl _)).mono ?_
   rintro e w17 ⟨rfl, hg15⟩
   have hg15s := hg15.size
   (try simp at hg15s)
   replace F13 := F13.gn hg15
   clear hg15
   cases c19 : hasI (ints now) (k : Int)
   ·
    have c19H := lhd c19
    have b20 := F13.bx2 3 rfl
    have ge21 : World.cell? _ ⟨x10, o11 + k * 8 + 7, none⟩ = some (.slice a_z z.af.length c_z) := (HAV_z.out ▸ (Sl.cells (F13.at 6 rfl) hz12.out 7 _ rfl))
    have gl22 := cell_lt ge21
    go_wp2_with fail
    clear b20 ge21 gl22
    refine (rall_c b0 _ _ (ints now) 0 _ _ z.af _ (Own.sl (F13.at 4 rfl : Own intEnc 3 1 b0 _ (.slice aN now.length cN) (ints now)) (fun _ => rfl)) (Nat.le_refl _) (F13.slY 0 rfl) (Nat.le_refl _)).mono ?_
    rintro e w25 ⟨rfl, hg23⟩
    have hg23s := hg23.size
    (try simp at hg23s)
    replace F13 := F13.gn hg23
    clear hg23
    cases c27 : (z.af.all fun a => hasI (ints now) a)
    ·
     have c27H := lhd c27
     go_wp2_with fail
     have F28 : Bun w0 [rrwi b0 lA, rown vEncS 27 1 b0 ov1 (fstV lA), rbox w.heap.size 25 #[.slice aM ms.length cM, .slice (some ⟨x10, o11, none⟩) ts.length cT], rown intEnc 3 1 b0 (.slice aN now.length cN) (ints now), rafs lo hi ts, rsl tskEnc 8 lo hi (.slice (some ⟨x10, o11, none⟩) ts.length cT) ts, rsl mchEnc 3 lo hi (.slice aM ms.length cM) ms, rall LR] _ := F13.pick [1, 2, 3, 4, 5, 6, 7, 8] (by decide) rfl
     clear F13
     (first | refine ⟨by kernel_rfl, ?_, ?_⟩ | refine ⟨rfl, ?_, ?_⟩ | refine ⟨?_, ?_⟩)
     · rw [HI5.out]; exact ⟨k + 1, _, lA, (by kernel_rfl), (by kernel_rfl), rfl, (by show Value.int .i64 ((k : Int) + 1) = _; simp), (by omega), (lhd (by rw [ordK_no (by rw [HEX.out, c19H.out, c27H.out]; simp)]; exact HLA.out)), (by first | rfl | simp), (by first | omega | (simp; done) | (simp; omega)), F28⟩
     · simp [slot, intOf]; omega
    have c27H := lhd c27
    obtain ⟨aO29, cO30, e_, _⟩ := Own.slN (F13.at 2 rfl : Own vEncS 27 1 b0 _ ov1 (fstV lA)) (fun _ => rfl) (fstV_len _)
    subst e_
    have HYE : Hid (extB ts now k = true) := lhd (by rw [HEX.out, c19H.out, c27H.out]; rfl)
    have hma_ : (fstV lA).length <= 300000 := by have h_ := congrArg List.length HLA.out; have h2_ := ordK_few h6 (f := f) (k := k) (by omega) (by omega) now; rw [List.length_map] at h_; rw [fstV_len]; omega
    have hil_ : (ints now).length <= 30 := by rw [ints_len]; omega
    have hnow1 : now.length + 1 <= ts.length := by omega
    go_wp2_with fail
    replace F13 := F13.drew
    refine ru_begin (fun W => W.cell? ⟨w.heap.size, 0, none⟩ = some (.slice aM ms.length cM) /\ W.cell? ⟨w.heap.size, 1, none⟩ = some (.slice (some ⟨x10, o11, none⟩) ts.length cT)) 10 (by kernel_rfl) ?_ ?_
    · exact ⟨F13.q 3 0, F13.q 3 1⟩
    obtain ⟨wd33, hwd_⟩ : ∃ x : World, w25.drew = x := ⟨_, rfl⟩
    rw [hwd_] at F13 ⊢
    have wd33s : w25.heap.size <= wd33.heap.size := by rw [← hwd_]; exact Nat.le_refl _
    clear hwd_
    have hS32 := (And.intro (F13.q 3 0) (F13.q 3 1))
    refine ru_t 0 [] ?_
    refine ru_t 1 [] ?_
    refine ru_t 3 [] ?_
    refine ru_t 5 [] ?_
    (try simp only [lpX])
    clear hS32
    refine ru_two 2 6 rfl rfl (by kernel_rfl) ?_ ?_
    ·
     intro K hK
     go_simp
     replace F13 := F13.new 3 #[] (n := wd33.heap.size) (by simp)
     refine ru_back hK (by exact ⟨F13.q 4 0, F13.q 4 1⟩) (fun _ => ?_)
     clear hK K
     (try simp only [lpX])
     refine ru_two 4 6 rfl rfl (by kernel_rfl) ?_ ?_
     ·
      intro K hK
      refine step_copyB okInt rfl _ _ rfl b0 wd33.heap.size rfl (F13) (by first | omega | (simp; omega)) b0 _ (.slice aN now.length cN) (ints now) rfl ((Own.sl (F13.at 5 rfl : Own intEnc 3 1 b0 _ (.slice aN now.length cN) (ints now)) (fun _ => rfl))) (by omega) ?_
      intro vc35 w36 hB37 hs38
      (try simp at hs38)
      have F39 := hB37
      clear F13
      obtain ⟨ca40, cap41, e_⟩ := (Own.sl (F39.at 0 rfl : Own intEnc 3 1 b0 _ vc35 (ints now)) (fun _ => rfl)).any
      subst e_
      refine ru_back hK (by exact ⟨F39.q 4 0, F39.q 4 1⟩) (fun _ => ?_)
      clear hK K
      (try simp only [lpX])
      refine ru_one 6 rfl (by kernel_rfl) (fun K hK => ?_)
      go_simp
      replace F39 := F39.new 3 #[.int .i64 (k : Int)] (n := w36.heap.size) (by simp)
      refine ru_back hK (by exact ⟨F39.q 5 0, F39.q 5 1⟩) (fun _ => ?_)
      clear hK K
      (try simp only [lpX])
      refine ru_one 7 rfl (by kernel_rfl) (fun K hK => ?_)
      refine step_app _ okInt rfl _ _ rfl b0 (.slice ca40 ((ints now).length) cap41) (ints now) [(k : Int)] rfl (by exact (F39.at 1 rfl : Own intEnc 3 1 b0 _ (.slice ca40 ((ints now).length) cap41) (ints now))) ⟨_, 0, none⟩ 1 1 rfl rfl (by decide) (news_of (F39.at 0 rfl : Bk _ w36.heap.size 3 #[.int .i64 (k : Int)])) (now.length + 1) (by rw [ints_len]) (by omega) (by first | omega | (simp; omega)) _ rfl ?_
      intro g43 cap44 w45 hp46
      have hp46s := hp46.gb.size
      (try simp at hp46s)
      have F47 := (F39.front 1 rfl rfl).app hp46 (Nat.le_refl _)
      clear F39
      refine ru_back hK (by exact ⟨F47.q 5 0, F47.q 5 1⟩) (fun _ => ?_)
      clear hK K
      (try simp only [lpX])
      refine ru_one 8 rfl (by kernel_rfl) (fun K hK => ?_)
      go_simp
      have F48 := F47
      rw [show ints now ++ [(k : Int)] = ints (now ++ [k]) by simp [ints]] at F48
      clear F47
      have F49 : Bun w0 [rown intEnc 3 1 b0 (.slice (some ⟨g43, 0, none⟩) (now.length + 1) cap44) (ints (now ++ [k])), rafs lo hi ts, rsl tskEnc 8 lo hi (.slice (some ⟨x10, o11, none⟩) ts.length cT) ts, rsl mchEnc 3 lo hi (.slice aM ms.length cM) ms, rbox w36.heap.size 3 #[.int .i64 (k : Int)], rsl intEnc 1 lo hi (.slice a_z z.af.length c_z) z.af, rrwi b0 lA, rown vEncS 27 1 b0 (.slice aO29 lA.length cO30) (fstV lA), rbox w.heap.size 25 #[.slice aM ms.length cM, .slice (some ⟨x10, o11, none⟩) ts.length cT], rown intEnc 3 1 b0 (.slice aN now.length cN) (ints now), rall LR] _ := F48.pick [0, 7, 8, 9, 1, 2, 3, 4, 5, 6, 10] (by decide) rfl
      clear F48
      have Fh_ := Bun.hide (K := [rown intEnc 3 1 b0 (.slice (some ⟨g43, 0, none⟩) (now.length + 1) cap44) (ints (now ++ [k])), rafs lo hi ts, rsl tskEnc 8 lo hi (.slice (some ⟨x10, o11, none⟩) ts.length cT) ts, rsl mchEnc 3 lo hi (.slice aM ms.length cM) ms]) (l := [rbox w36.heap.size 3 #[.int .i64 (k : Int)], rsl intEnc 1 lo hi (.slice a_z z.af.length c_z) z.af, rrwi b0 lA, rown vEncS 27 1 b0 (.slice aO29 lA.length cO30) (fstV lA), rbox w.heap.size 25 #[.slice aM ms.length cM, .slice (some ⟨x10, o11, none⟩) ts.length cT], rown intEnc 3 1 b0 (.slice aN now.length cN) (ints now), rall LR]) F49
      have hl0_ : Bun w0 [rafs lo hi ts, rsl tskEnc 8 lo hi (.slice (some ⟨x10, o11, none⟩) ts.length cT) ts, rsl mchEnc 3 lo hi (.slice aM ms.length cM) ms, rbox w36.heap.size 3 #[.int .i64 (k : Int)], rsl intEnc 1 lo hi (.slice a_z z.af.length c_z) z.af, rrwi b0 lA, rown vEncS 27 1 b0 (.slice aO29 lA.length cO30) (fstV lA), rbox w.heap.size 25 #[.slice aM ms.length cM, .slice (some ⟨x10, o11, none⟩) ts.length cT], rown intEnc 3 1 b0 (.slice aN now.length cN) (ints now), rall LR] _ := F49.pick [1, 2, 3, 4, 5, 6, 7, 8, 9, 10] (by decide) rfl
      refine (IH.out _ _ [rbox w36.heap.size 3 #[.int .i64 (k : Int)], rsl intEnc 1 lo hi (.slice a_z z.af.length c_z) z.af, rrwi b0 lA, rown vEncS 27 1 b0 (.slice aO29 lA.length cO30) (fstV lA), rbox w.heap.size 25 #[.slice aM ms.length cM, .slice (some ⟨x10, o11, none⟩) ts.length cT], rown intEnc 3 1 b0 (.slice aN now.length cN) (ints now), rall LR] (now ++ [k]) _ Fh_ hb0 (HOP.out.snoc (by omega) HYE.out) (by have h_ := HLN.out; simp; omega)).mono ?_
      rintro e w50 ⟨a2, c2, l2, ⟨rfl, hl2_⟩, Fr_, hsz_⟩
      have HL2 := lhd hl2_
      have hmb_ : (fstV l2).length <= 46656 := by have h_ := congrArg List.length hl2_; have h2_ := ords_few h6 (f := f) (by omega) (now ++ [k]); rw [List.length_map] at h_; rw [fstV_len]; omega
      clear hl2_
      have F51 : Bun w0 [rown vEncS 27 1 b0 (.slice a2 l2.length c2) (fstV l2), rrwi b0 l2, rafs lo hi ts, rsl tskEnc 8 lo hi (.slice (some ⟨x10, o11, none⟩) ts.length cT) ts, rsl mchEnc 3 lo hi (.slice aM ms.length cM) ms, rbox w36.heap.size 3 #[.int .i64 (k : Int)], rsl intEnc 1 lo hi (.slice a_z z.af.length c_z) z.af, rrwi b0 lA, rown vEncS 27 1 b0 (.slice aO29 lA.length cO30) (fstV lA), rbox w.heap.size 25 #[.slice aM ms.length cM, .slice (some ⟨x10, o11, none⟩) ts.length cT], rown intEnc 3 1 b0 (.slice aN now.length cN) (ints now), rall LR] w50 := Bun.show (K := [rafs lo hi ts, rsl tskEnc 8 lo hi (.slice (some ⟨x10, o11, none⟩) ts.length cT) ts, rsl mchEnc 3 lo hi (.slice aM ms.length cM) ms]) (l := [rbox w36.heap.size 3 #[.int .i64 (k : Int)], rsl intEnc 1 lo hi (.slice a_z z.af.length c_z) z.af, rrwi b0 lA, rown vEncS 27 1 b0 (.slice aO29 lA.length cO30) (fstV lA), rbox w.heap.size 25 #[.slice aM ms.length cM, .slice (some ⟨x10, o11, none⟩) ts.length cT], rown intEnc 3 1 b0 (.slice aN now.length cN) (ints now), rall LR]) (N := [rown vEncS 27 1 b0 (.slice a2 l2.length c2) (fstV l2), rrwi b0 l2]) hl0_ Fr_ rfl
      have hwsF51 := hsz_
      clear Fr_ hsz_ Fh_ hl0_ F49
      refine ru_back hK (by exact ⟨F51.q 9 0, F51.q 9 1⟩) (fun _ => ?_)
      clear hK K
      (try simp only [lpX])
      refine ru_one 9 rfl (by kernel_rfl) (fun K hK => ?_)
      refine step_appS okRO rfl _ _ rfl b0 (.slice aO29 lA.length cO30) (fstV lA) rfl ((F51.front 8 rfl rfl)) b0 _ (.slice a2 l2.length c2) (fstV l2) rfl ((Own.sl ((F51.front 8 rfl rfl).at 1 rfl : Own vEncS 27 1 b0 _ (.slice a2 l2.length c2) (fstV l2)) (fun _ => rfl))) (by first | omega | (simp; omega)) (by first | omega | (simp; omega)) ?_
      intro vc52 w53 hB54 hs55
      (try simp at hs55)
      have F56 := hB54
      clear F51
      obtain ⟨NL57, hNL57_⟩ : ∃ z_, (fstV lA) ++ (fstV l2) = z_ := ⟨_, rfl⟩
      rw [hNL57_] at F56
      have hNL571 := congrArg List.length hNL57_
      rw [List.length_append] at hNL571
      have hNL572 : NL57.length <= (fstV lA).length + (fstV l2).length /\ (fstV lA).length + (fstV l2).length <= NL57.length := by omega
      have HNL57 := lhd hNL57_
      clear hNL57_ hNL571
      obtain ⟨ca58, cap59, e_⟩ := (Own.sl (F56.at 0 rfl : Own vEncS 27 1 b0 _ vc52 NL57) (fun _ => rfl)).any
      subst e_
      refine ru_back hK (by exact ⟨F56.q 9 0, F56.q 9 1⟩) (fun _ => ?_)
      clear hK K
      (try simp only [lpX])
      refine ru_one 10 rfl (by kernel_rfl) (fun K hK => ?_)
      go_simp
      refine ru_back_late hK (by kernel_rfl) ?_
      clear hK K
      (try simp only [lpX])
      refine ru_done (by kernel_rfl) ?_
      have Fn_ := (F56.drop 6 rfl)
      (try dsimp only [List.eraseIdx_cons_succ, List.eraseIdx_cons_zero] at Fn_)
      obtain ⟨w60, hx61, F63, hxs62⟩ := Fn_.name
      (try simp at hxs62)
      rw [hx61]
      clear hx61 F56 Fn_
      go_wp2_with fail
      have F64 := Bun.castL (HNL57.out.symm.trans (fstV_app _ _).symm) F63
      clear F63
      have F65 : Bun w0 [rrwi b0 l2, rrwi b0 lA, rown vEncS 27 1 b0 (.slice ca58 NL57.length cap59) (fstV (lA ++ l2)), rown vEncS 27 1 b0 (.slice a2 l2.length c2) (fstV l2), rafs lo hi ts, rsl tskEnc 8 lo hi (.slice (some ⟨x10, o11, none⟩) ts.length cT) ts, rsl mchEnc 3 lo hi (.slice aM ms.length cM) ms, rsl intEnc 1 lo hi (.slice a_z z.af.length c_z) z.af, rbox w.heap.size 25 #[.slice aM ms.length cM, .slice (some ⟨x10, o11, none⟩) ts.length cT], rown intEnc 3 1 b0 (.slice aN now.length cN) (ints now), rall LR] _ := F64.pick [2, 7, 0, 1, 3, 4, 5, 6, 8, 9, 10] (by decide) rfl
      clear F64
      replace F65 := F65.rwiApp
      go_wp2_with fail
      have F67 : Bun w0 [rrwi b0 (lA ++ l2), rown vEncS 27 1 b0 (.slice ca58 NL57.length cap59) (fstV (lA ++ l2)), rbox w.heap.size 25 #[.slice aM ms.length cM, .slice (some ⟨x10, o11, none⟩) ts.length cT], rown intEnc 3 1 b0 (.slice aN now.length cN) (ints now), rafs lo hi ts, rsl tskEnc 8 lo hi (.slice (some ⟨x10, o11, none⟩) ts.length cT) ts, rsl mchEnc 3 lo hi (.slice aM ms.length cM) ms, rall LR] _ := F65.pick [0, 1, 7, 8, 3, 4, 5, 9] (by decide) rfl
      clear F65
      (first | refine ⟨by kernel_rfl, ?_, ?_⟩ | refine ⟨rfl, ?_, ?_⟩ | refine ⟨?_, ?_⟩)
      · rw [HI5.out]; exact ⟨k + 1, _, lA ++ l2, (by kernel_rfl), (by kernel_rfl), rfl, (by show Value.int .i64 ((k : Int) + 1) = _; simp), (by omega), (lhd (by rw [ordK_yes (by rw [HEX.out, c19H.out, c27H.out]; rfl), List.map_append, HLA.out, HL2.out])), (by first | rfl | simp), (by first | omega | (simp; done) | (simp; omega)), F67⟩
      · simp [slot, intOf]; omega
     intro K hK
     go_simp
     replace F13 := F13.new 3 #[.int .i64 (k : Int)] (n := (wd33.heap.size + 1)) (by simp)
     refine ru_back hK (by exact ⟨F13.q 5 0, F13.q 5 1⟩) (fun _ => ?_)
     clear hK K
     (try simp only [lpX])
     refine ru_one 4 rfl (by kernel_rfl) (fun K hK => ?_)
     refine step_copyB okInt rfl _ _ rfl b0 wd33.heap.size rfl ((F13.front 1 rfl rfl)) (by first | omega | (simp; omega)) b0 _ (.slice aN now.length cN) (ints now) rfl ((Own.sl ((F13.front 1 rfl rfl).at 6 rfl : Own intEnc 3 1 b0 _ (.slice aN now.length cN) (ints now)) (fun _ => rfl))) (by omega) ?_
     intro vc69 w70 hB71 hs72
     (try simp at hs72)
     have F73 := hB71
     clear F13
     obtain ⟨ca74, cap75, e_⟩ := (Own.sl (F73.at 0 rfl : Own intEnc 3 1 b0 _ vc69 (ints now)) (fun _ => rfl)).any
     subst e_
     refine ru_back hK (by exact ⟨F73.q 5 0, F73.q 5 1⟩) (fun _ => ?_)
     clear hK K
     (try simp only [lpX])
     refine ru_one 7 rfl (by kernel_rfl) (fun K hK => ?_)
     refine step_app _ okInt rfl _ _ rfl b0 (.slice ca74 ((ints now).length) cap75) (ints now) [(k : Int)] rfl (by exact (F73.at 0 rfl : Own intEnc 3 1 b0 _ (.slice ca74 ((ints now).length) cap75) (ints now))) ⟨_, 0, none⟩ 1 1 rfl rfl (by decide) (news_of (F73.at 1 rfl : Bk _ (wd33.heap.size + 1) 3 #[.int .i64 (k : Int)])) (now.length + 1) (by rw [ints_len]) (by omega) (by first | omega | (simp; omega)) _ rfl ?_
     intro g76 cap77 w78 hp79
     have hp79s := hp79.gb.size
     (try simp at hp79s)
     have F80 := (F73.front 0 rfl rfl).app hp79 (Nat.le_refl _)
     clear F73
     refine ru_back hK (by exact ⟨F80.q 5 0, F80.q 5 1⟩) (fun _ => ?_)
     clear hK K
     (try simp only [lpX])
     refine ru_one 8 rfl (by kernel_rfl) (fun K hK => ?_)
     go_simp
     have F81 := F80
     rw [show ints now ++ [(k : Int)] = ints (now ++ [k]) by simp [ints]] at F81
     clear F80
     have F82 : Bun w0 [rown intEnc 3 1 b0 (.slice (some ⟨g76, 0, none⟩) (now.length + 1) cap77) (ints (now ++ [k])), rafs lo hi ts, rsl tskEnc 8 lo hi (.slice (some ⟨x10, o11, none⟩) ts.length cT) ts, rsl mchEnc 3 lo hi (.slice aM ms.length cM) ms, rbox (wd33.heap.size + 1) 3 #[.int .i64 (k : Int)], rsl intEnc 1 lo hi (.slice a_z z.af.length c_z) z.af, rrwi b0 lA, rown vEncS 27 1 b0 (.slice aO29 lA.length cO30) (fstV lA), rbox w.heap.size 25 #[.slice aM ms.length cM, .slice (some ⟨x10, o11, none⟩) ts.length cT], rown intEnc 3 1 b0 (.slice aN now.length cN) (ints now), rall LR] _ := F81.pick [0, 7, 8, 9, 1, 2, 3, 4, 5, 6, 10] (by decide) rfl
     clear F81
     have Fh_ := Bun.hide (K := [rown intEnc 3 1 b0 (.slice (some ⟨g76, 0, none⟩) (now.length + 1) cap77) (ints (now ++ [k])), rafs lo hi ts, rsl tskEnc 8 lo hi (.slice (some ⟨x10, o11, none⟩) ts.length cT) ts, rsl mchEnc 3 lo hi (.slice aM ms.length cM) ms]) (l := [rbox (wd33.heap.size + 1) 3 #[.int .i64 (k : Int)], rsl intEnc 1 lo hi (.slice a_z z.af.length c_z) z.af, rrwi b0 lA, rown vEncS 27 1 b0 (.slice aO29 lA.length cO30) (fstV lA), rbox w.heap.size 25 #[.slice aM ms.length cM, .slice (some ⟨x10, o11, none⟩) ts.length cT], rown intEnc 3 1 b0 (.slice aN now.length cN) (ints now), rall LR]) F82
     have hl0_ : Bun w0 [rafs lo hi ts, rsl tskEnc 8 lo hi (.slice (some ⟨x10, o11, none⟩) ts.length cT) ts, rsl mchEnc 3 lo hi (.slice aM ms.length cM) ms, rbox (wd33.heap.size + 1) 3 #[.int .i64 (k : Int)], rsl intEnc 1 lo hi (.slice a_z z.af.length c_z) z.af, rrwi b0 lA, rown vEncS 27 1 b0 (.slice aO29 lA.length cO30) (fstV lA), rbox w.heap.size 25 #[.slice aM ms.length cM, .slice (some ⟨x10, o11, none⟩) ts.length cT], rown intEnc 3 1 b0 (.slice aN now.length cN) (ints now), rall LR] _ := F82.pick [1, 2, 3, 4, 5, 6, 7, 8, 9, 10] (by decide) rfl
     refine (IH.out _ _ [rbox (wd33.heap.size + 1) 3 #[.int .i64 (k : Int)], rsl intEnc 1 lo hi (.slice a_z z.af.length c_z) z.af, rrwi b0 lA, rown vEncS 27 1 b0 (.slice aO29 lA.length cO30) (fstV lA), rbox w.heap.size 25 #[.slice aM ms.length cM, .slice (some ⟨x10, o11, none⟩) ts.length cT], rown intEnc 3 1 b0 (.slice aN now.length cN) (ints now), rall LR] (now ++ [k]) _ Fh_ hb0 (HOP.out.snoc (by omega) HYE.out) (by have h_ := HLN.out; simp; omega)).mono ?_
     rintro e w83 ⟨a2, c2, l2, ⟨rfl, hl2_⟩, Fr_, hsz_⟩
     have HL2 := lhd hl2_
     have hmb_ : (fstV l2).length <= 46656 := by have h_ := congrArg List.length hl2_; have h2_ := ords_few h6 (f := f) (by omega) (now ++ [k]); rw [List.length_map] at h_; rw [fstV_len]; omega
     clear hl2_
     have F84 : Bun w0 [rown vEncS 27 1 b0 (.slice a2 l2.length c2) (fstV l2), rrwi b0 l2, rafs lo hi ts, rsl tskEnc 8 lo hi (.slice (some ⟨x10, o11, none⟩) ts.length cT) ts, rsl mchEnc 3 lo hi (.slice aM ms.length cM) ms, rbox (wd33.heap.size + 1) 3 #[.int .i64 (k : Int)], rsl intEnc 1 lo hi (.slice a_z z.af.length c_z) z.af, rrwi b0 lA, rown vEncS 27 1 b0 (.slice aO29 lA.length cO30) (fstV lA), rbox w.heap.size 25 #[.slice aM ms.length cM, .slice (some ⟨x10, o11, none⟩) ts.length cT], rown intEnc 3 1 b0 (.slice aN now.length cN) (ints now), rall LR] w83 := Bun.show (K := [rafs lo hi ts, rsl tskEnc 8 lo hi (.slice (some ⟨x10, o11, none⟩) ts.length cT) ts, rsl mchEnc 3 lo hi (.slice aM ms.length cM) ms]) (l := [rbox (wd33.heap.size + 1) 3 #[.int .i64 (k : Int)], rsl intEnc 1 lo hi (.slice a_z z.af.length c_z) z.af, rrwi b0 lA, rown vEncS 27 1 b0 (.slice aO29 lA.length cO30) (fstV lA), rbox w.heap.size 25 #[.slice aM ms.length cM, .slice (some ⟨x10, o11, none⟩) ts.length cT], rown intEnc 3 1 b0 (.slice aN now.length cN) (ints now), rall LR]) (N := [rown vEncS 27 1 b0 (.slice a2 l2.length c2) (fstV l2), rrwi b0 l2]) hl0_ Fr_ rfl
     have hwsF84 := hsz_
     clear Fr_ hsz_ Fh_ hl0_ F82
     refine ru_back hK (by exact ⟨F84.q 9 0, F84.q 9 1⟩) (fun _ => ?_)
     clear hK K
     (try simp only [lpX])
     refine ru_one 9 rfl (by kernel_rfl) (fun K hK => ?_)
     refine step_appS okRO rfl _ _ rfl b0 (.slice aO29 lA.length cO30) (fstV lA) rfl ((F84.front 8 rfl rfl)) b0 _ (.slice a2 l2.length c2) (fstV l2) rfl ((Own.sl ((F84.front 8 rfl rfl).at 1 rfl : Own vEncS 27 1 b0 _ (.slice a2 l2.length c2) (fstV l2)) (fun _ => rfl))) (by first | omega | (simp; omega)) (by first | omega | (simp; omega)) ?_
     intro vc85 w86 hB87 hs88
     (try simp at hs88)
     have F89 := hB87
     clear F84
     obtain ⟨NL90, hNL90_⟩ : ∃ z_, (fstV lA) ++ (fstV l2) = z_ := ⟨_, rfl⟩
     rw [hNL90_] at F89
     have hNL901 := congrArg List.length hNL90_
     rw [List.length_append] at hNL901
     have hNL902 : NL90.length <= (fstV lA).length + (fstV l2).length /\ (fstV lA).length + (fstV l2).length <= NL90.length := by omega
     have HNL90 := lhd hNL90_
     clear hNL90_ hNL901
     obtain ⟨ca91, cap92, e_⟩ := (Own.sl (F89.at 0 rfl : Own vEncS 27 1 b0 _ vc85 NL90) (fun _ => rfl)).any
     subst e_
     refine ru_back hK (by exact ⟨F89.q 9 0, F89.q 9 1⟩) (fun _ => ?_)
     clear hK K
     (try simp only [lpX])
     refine ru_one 10 rfl (by kernel_rfl) (fun K hK => ?_)
     go_simp
     refine ru_back_late hK (by kernel_rfl) ?_
     clear hK K
     (try simp only [lpX])
     refine ru_done (by kernel_rfl) ?_
     have Fn_ := (F89.drop 6 rfl)
     (try dsimp only [List.eraseIdx_cons_succ, List.eraseIdx_cons_zero] at Fn_)
     obtain ⟨w93, hx94, F96, hxs95⟩ := Fn_.name
     (try simp at hxs95)
     rw [hx94]
     clear hx94 F89 Fn_
     go_wp2_with fail
     have F97 := Bun.castL (HNL90.out.symm.trans (fstV_app _ _).symm) F96
     clear F96
     have F98 : Bun w0 [rrwi b0 l2, rrwi b0 lA, rown vEncS 27 1 b0 (.slice ca91 NL90.length cap92) (fstV (lA ++ l2)), rown vEncS 27 1 b0 (.slice a2 l2.length c2) (fstV l2), rafs lo hi ts, rsl tskEnc 8 lo hi (.slice (some ⟨x10, o11, none⟩) ts.length cT) ts, rsl mchEnc 3 lo hi (.slice aM ms.length cM) ms, rsl intEnc 1 lo hi (.slice a_z z.af.length c_z) z.af, rbox w.heap.size 25 #[.slice aM ms.length cM, .slice (some ⟨x10, o11, none⟩) ts.length cT], rown intEnc 3 1 b0 (.slice aN now.length cN) (ints now), rall LR] _ := F97.pick [2, 7, 0, 1, 3, 4, 5, 6, 8, 9, 10] (by decide) rfl
     clear F97
     replace F98 := F98.rwiApp
     go_wp2_with fail
     have F100 : Bun w0 [rrwi b0 (lA ++ l2), rown vEncS 27 1 b0 (.slice ca91 NL90.length cap92) (fstV (lA ++ l2)), rbox w.heap.size 25 #[.slice aM ms.length cM, .slice (some ⟨x10, o11, none⟩) ts.length cT], rown intEnc 3 1 b0 (.slice aN now.length cN) (ints now), rafs lo hi ts, rsl tskEnc 8 lo hi (.slice (some ⟨x10, o11, none⟩) ts.length cT) ts, rsl mchEnc 3 lo hi (.slice aM ms.length cM) ms, rall LR] _ := F98.pick [0, 1, 7, 8, 3, 4, 5, 9] (by decide) rfl
     clear F98
     (first | refine ⟨by kernel_rfl, ?_, ?_⟩ | refine ⟨rfl, ?_, ?_⟩ | refine ⟨?_, ?_⟩)
     · rw [HI5.out]; exact ⟨k + 1, _, lA ++ l2, (by kernel_rfl), (by kernel_rfl), rfl, (by show Value.int .i64 ((k : Int) + 1) = _; simp), (by omega), (lhd (by rw [ordK_yes (by rw [HEX.out, c19H.out, c27H.out]; rfl), List.map_append, HLA.out, HL2.out])), (by first | rfl | simp), (by first | omega | (simp; done) | (simp; omega)), F100⟩
     · simp [slot, intOf]; omega
    intro K hK
    go_simp
    replace F13 := F13.new 3 #[.int .i64 (k : Int)] (n := wd33.heap.size) (by simp)
    refine ru_back hK (by exact ⟨F13.q 4 0, F13.q 4 1⟩) (fun _ => ?_)
    clear hK K
    (try simp only [lpX])
    refine ru_one 2 rfl (by kernel_rfl) (fun K hK => ?_)
    go_simp
    replace F13 := F13.new 3 #[] (n := (wd33.heap.size + 1)) (by simp)
    refine ru_back hK (by exact ⟨F13.q 5 0, F13.q 5 1⟩) (fun _ => ?_)
    clear hK K
    (try simp only [lpX])
    refine ru_one 4 rfl (by kernel_rfl) (fun K hK => ?_)
    refine step_copyB okInt rfl _ _ rfl b0 (wd33.heap.size + 1) rfl (F13) (by first | omega | (simp; omega)) b0 _ (.slice aN now.length cN) (ints now) rfl ((Own.sl (F13.at 6 rfl : Own intEnc 3 1 b0 _ (.slice aN now.length cN) (ints now)) (fun _ => rfl))) (by omega) ?_
    intro vc103 w104 hB105 hs106
    (try simp at hs106)
    have F107 := hB105
    clear F13
    obtain ⟨ca108, cap109, e_⟩ := (Own.sl (F107.at 0 rfl : Own intEnc 3 1 b0 _ vc103 (ints now)) (fun _ => rfl)).any
    subst e_
    refine ru_back hK (by exact ⟨F107.q 5 0, F107.q 5 1⟩) (fun _ => ?_)
    clear hK K
    (try simp only [lpX])
    refine ru_one 7 rfl (by kernel_rfl) (fun K hK => ?_)
    refine step_app _ okInt rfl _ _ rfl b0 (.slice ca108 ((ints now).length) cap109) (ints now) [(k : Int)] rfl (by exact (F107.at 0 rfl : Own intEnc 3 1 b0 _ (.slice ca108 ((ints now).length) cap109) (ints now))) ⟨_, 0, none⟩ 1 1 rfl rfl (by decide) (news_of (F107.at 1 rfl : Bk _ wd33.heap.size 3 #[.int .i64 (k : Int)])) (now.length + 1) (by rw [ints_len]) (by omega) (by first | omega | (simp; omega)) _ rfl ?_
    intro g110 cap111 w112 hp113
    have hp113s := hp113.gb.size
    (try simp at hp113s)
    have F114 := (F107.front 0 rfl rfl).app hp113 (Nat.le_refl _)
    clear F107
    refine ru_back hK (by exact ⟨F114.q 5 0, F114.q 5 1⟩) (fun _ => ?_)
    clear hK K
    (try simp only [lpX])
    refine ru_one 8 rfl (by kernel_rfl) (fun K hK => ?_)
    go_simp
    have F115 := F114
    rw [show ints now ++ [(k : Int)] = ints (now ++ [k]) by simp [ints]] at F115
    clear F114
    have F116 : Bun w0 [rown intEnc 3 1 b0 (.slice (some ⟨g110, 0, none⟩) (now.length + 1) cap111) (ints (now ++ [k])), rafs lo hi ts, rsl tskEnc 8 lo hi (.slice (some ⟨x10, o11, none⟩) ts.length cT) ts, rsl mchEnc 3 lo hi (.slice aM ms.length cM) ms, rbox wd33.heap.size 3 #[.int .i64 (k : Int)], rsl intEnc 1 lo hi (.slice a_z z.af.length c_z) z.af, rrwi b0 lA, rown vEncS 27 1 b0 (.slice aO29 lA.length cO30) (fstV lA), rbox w.heap.size 25 #[.slice aM ms.length cM, .slice (some ⟨x10, o11, none⟩) ts.length cT], rown intEnc 3 1 b0 (.slice aN now.length cN) (ints now), rall LR] _ := F115.pick [0, 7, 8, 9, 1, 2, 3, 4, 5, 6, 10] (by decide) rfl
    clear F115
    have Fh_ := Bun.hide (K := [rown intEnc 3 1 b0 (.slice (some ⟨g110, 0, none⟩) (now.length + 1) cap111) (ints (now ++ [k])), rafs lo hi ts, rsl tskEnc 8 lo hi (.slice (some ⟨x10, o11, none⟩) ts.length cT) ts, rsl mchEnc 3 lo hi (.slice aM ms.length cM) ms]) (l := [rbox wd33.heap.size 3 #[.int .i64 (k : Int)], rsl intEnc 1 lo hi (.slice a_z z.af.length c_z) z.af, rrwi b0 lA, rown vEncS 27 1 b0 (.slice aO29 lA.length cO30) (fstV lA), rbox w.heap.size 25 #[.slice aM ms.length cM, .slice (some ⟨x10, o11, none⟩) ts.length cT], rown intEnc 3 1 b0 (.slice aN now.length cN) (ints now), rall LR]) F116
    have hl0_ : Bun w0 [rafs lo hi ts, rsl tskEnc 8 lo hi (.slice (some ⟨x10, o11, none⟩) ts.length cT) ts, rsl mchEnc 3 lo hi (.slice aM ms.length cM) ms, rbox wd33.heap.size 3 #[.int .i64 (k : Int)], rsl intEnc 1 lo hi (.slice a_z z.af.length c_z) z.af, rrwi b0 lA, rown vEncS 27 1 b0 (.slice aO29 lA.length cO30) (fstV lA), rbox w.heap.size 25 #[.slice aM ms.length cM, .slice (some ⟨x10, o11, none⟩) ts.length cT], rown intEnc 3 1 b0 (.slice aN now.length cN) (ints now), rall LR] _ := F116.pick [1, 2, 3, 4, 5, 6, 7, 8, 9, 10] (by decide) rfl
    refine (IH.out _ _ [rbox wd33.heap.size 3 #[.int .i64 (k : Int)], rsl intEnc 1 lo hi (.slice a_z z.af.length c_z) z.af, rrwi b0 lA, rown vEncS 27 1 b0 (.slice aO29 lA.length cO30) (fstV lA), rbox w.heap.size 25 #[.slice aM ms.length cM, .slice (some ⟨x10, o11, none⟩) ts.length cT], rown intEnc 3 1 b0 (.slice aN now.length cN) (ints now), rall LR] (now ++ [k]) _ Fh_ hb0 (HOP.out.snoc (by omega) HYE.out) (by have h_ := HLN.out; simp; omega)).mono ?_
    rintro e w117 ⟨a2, c2, l2, ⟨rfl, hl2_⟩, Fr_, hsz_⟩
    have HL2 := lhd hl2_
    have hmb_ : (fstV l2).length <= 46656 := by have h_ := congrArg List.length hl2_; have h2_ := ords_few h6 (f := f) (by omega) (now ++ [k]); rw [List.length_map] at h_; rw [fstV_len]; omega
    clear hl2_
    have F118 : Bun w0 [rown vEncS 27 1 b0 (.slice a2 l2.length c2) (fstV l2), rrwi b0 l2, rafs lo hi ts, rsl tskEnc 8 lo hi (.slice (some ⟨x10, o11, none⟩) ts.length cT) ts, rsl mchEnc 3 lo hi (.slice aM ms.length cM) ms, rbox wd33.heap.size 3 #[.int .i64 (k : Int)], rsl intEnc 1 lo hi (.slice a_z z.af.length c_z) z.af, rrwi b0 lA, rown vEncS 27 1 b0 (.slice aO29 lA.length cO30) (fstV lA), rbox w.heap.size 25 #[.slice aM ms.length cM, .slice (some ⟨x10, o11, none⟩) ts.length cT], rown intEnc 3 1 b0 (.slice aN now.length cN) (ints now), rall LR] w117 := Bun.show (K := [rafs lo hi ts, rsl tskEnc 8 lo hi (.slice (some ⟨x10, o11, none⟩) ts.length cT) ts, rsl mchEnc 3 lo hi (.slice aM ms.length cM) ms]) (l := [rbox wd33.heap.size 3 #[.int .i64 (k : Int)], rsl intEnc 1 lo hi (.slice a_z z.af.length c_z) z.af, rrwi b0 lA, rown vEncS 27 1 b0 (.slice aO29 lA.length cO30) (fstV lA), rbox w.heap.size 25 #[.slice aM ms.length cM, .slice (some ⟨x10, o11, none⟩) ts.length cT], rown intEnc 3 1 b0 (.slice aN now.length cN) (ints now), rall LR]) (N := [rown vEncS 27 1 b0 (.slice a2 l2.length c2) (fstV l2), rrwi b0 l2]) hl0_ Fr_ rfl
    have hwsF118 := hsz_
    clear Fr_ hsz_ Fh_ hl0_ F116
    refine ru_back hK (by exact ⟨F118.q 9 0, F118.q 9 1⟩) (fun _ => ?_)
    clear hK K
    (try simp only [lpX])
    refine ru_one 9 rfl (by kernel_rfl) (fun K hK => ?_)
    refine step_appS okRO rfl _ _ rfl b0 (.slice aO29 lA.length cO30) (fstV lA) rfl ((F118.front 8 rfl rfl)) b0 _ (.slice a2 l2.length c2) (fstV l2) rfl ((Own.sl ((F118.front 8 rfl rfl).at 1 rfl : Own vEncS 27 1 b0 _ (.slice a2 l2.length c2) (fstV l2)) (fun _ => rfl))) (by first | omega | (simp; omega)) (by first | omega | (simp; omega)) ?_
    intro vc119 w120 hB121 hs122
    (try simp at hs122)
    have F123 := hB121
    clear F118
    obtain ⟨NL124, hNL124_⟩ : ∃ z_, (fstV lA) ++ (fstV l2) = z_ := ⟨_, rfl⟩
    rw [hNL124_] at F123
    have hNL1241 := congrArg List.length hNL124_
    rw [List.length_append] at hNL1241
    have hNL1242 : NL124.length <= (fstV lA).length + (fstV l2).length /\ (fstV lA).length + (fstV l2).length <= NL124.length := by omega
    have HNL124 := lhd hNL124_
    clear hNL124_ hNL1241
    obtain ⟨ca125, cap126, e_⟩ := (Own.sl (F123.at 0 rfl : Own vEncS 27 1 b0 _ vc119 NL124) (fun _ => rfl)).any
    subst e_
    refine ru_back hK (by exact ⟨F123.q 9 0, F123.q 9 1⟩) (fun _ => ?_)
    clear hK K
    (try simp only [lpX])
    refine ru_one 10 rfl (by kernel_rfl) (fun K hK => ?_)
    go_simp
    refine ru_back_late hK (by kernel_rfl) ?_
    clear hK K
    (try simp only [lpX])
    refine ru_done (by kernel_rfl) ?_
    have Fn_ := (F123.drop 6 rfl)
    (try dsimp only [List.eraseIdx_cons_succ, List.eraseIdx_cons_zero] at Fn_)
    obtain ⟨w127, hx128, F130, hxs129⟩ := Fn_.name
    (try simp at hxs129)
    rw [hx128]
    clear hx128 F123 Fn_
    go_wp2_with fail
    have F131 := Bun.castL (HNL124.out.symm.trans (fstV_app _ _).symm) F130
    clear F130
    have F132 : Bun w0 [rrwi b0 l2, rrwi b0 lA, rown vEncS 27 1 b0 (.slice ca125 NL124.length cap126) (fstV (lA ++ l2)), rown vEncS 27 1 b0 (.slice a2 l2.length c2) (fstV l2), rafs lo hi ts, rsl tskEnc 8 lo hi (.slice (some ⟨x10, o11, none⟩) ts.length cT) ts, rsl mchEnc 3 lo hi (.slice aM ms.length cM) ms, rsl intEnc 1 lo hi (.slice a_z z.af.length c_z) z.af, rbox w.heap.size 25 #[.slice aM ms.length cM, .slice (some ⟨x10, o11, none⟩) ts.length cT], rown intEnc 3 1 b0 (.slice aN now.length cN) (ints now), rall LR] _ := F131.pick [2, 7, 0, 1, 3, 4, 5, 6, 8, 9, 10] (by decide) rfl
    clear F131
    replace F132 := F132.rwiApp
    go_wp2_with fail
    have F134 : Bun w0 [rrwi b0 (lA ++ l2), rown vEncS 27 1 b0 (.slice ca125 NL124.length cap126) (fstV (lA ++ l2)), rbox w.heap.size 25 #[.slice aM ms.length cM, .slice (some ⟨x10, o11, none⟩) ts.length cT], rown intEnc 3 1 b0 (.slice aN now.length cN) (ints now), rafs lo hi ts, rsl tskEnc 8 lo hi (.slice (some ⟨x10, o11, none⟩) ts.length cT) ts, rsl mchEnc 3 lo hi (.slice aM ms.length cM) ms, rall LR] _ := F132.pick [0, 1, 7, 8, 3, 4, 5, 9] (by decide) rfl
    clear F132
    (first | refine ⟨by kernel_rfl, ?_, ?_⟩ | refine ⟨rfl, ?_, ?_⟩ | refine ⟨?_, ?_⟩)
    · rw [HI5.out]; exact ⟨k + 1, _, lA ++ l2, (by kernel_rfl), (by kernel_rfl), rfl, (by show Value.int .i64 ((k : Int) + 1) = _; simp), (by omega), (lhd (by rw [ordK_yes (by rw [HEX.out, c19H.out, c27H.out]; rfl), List.map_append, HLA.out, HL2.out])), (by first | rfl | simp), (by first | omega | (simp; done) | (simp; omega)), F134⟩
    · simp [slot, intOf]; omega
   have c19H := lhd c19
   go_wp2_with fail
   have F135 : Bun w0 [rrwi b0 lA, rown vEncS 27 1 b0 ov1 (fstV lA), rbox w.heap.size 25 #[.slice aM ms.length cM, .slice (some ⟨x10, o11, none⟩) ts.length cT], rown intEnc 3 1 b0 (.slice aN now.length cN) (ints now), rafs lo hi ts, rsl tskEnc 8 lo hi (.slice (some ⟨x10, o11, none⟩) ts.length cT) ts, rsl mchEnc 3 lo hi (.slice aM ms.length cM) ms, rall LR] _ := F13.pick [1, 2, 3, 4, 5, 6, 7, 8] (by decide) rfl
   clear F13
   (first | refine ⟨by kernel_rfl, ?_, ?_⟩ | refine ⟨rfl, ?_, ?_⟩ | refine ⟨?_, ?_⟩)
   · rw [HI5.out]; exact ⟨k + 1, _, lA, (by kernel_rfl), (by kernel_rfl), rfl, (by show Value.int .i64 ((k : Int) + 1) = _; simp), (by omega), (lhd (by rw [ordK_no (by rw [HEX.out, c19H.out]; simp)]; exact HLA.out)), (by first | rfl | simp), (by first | omega | (simp; done) | (simp; omega)), F135⟩
   · simp [slot, intOf]; omega
  have c9H := lhd c9
  have c9a : decide ((k : Int) < (ts.length : Int)) = false := dec_f c9
  have b136 := hF6.bx2 2 rfl
  go_wp2_with fail
  clear b136
  have F137 : Bun w0 [rown vEncS 27 1 b0 ov1 (fstV lA), rrwi b0 lA, rafs lo hi ts, rsl tskEnc 8 lo hi (.slice aT ts.length cT) ts, rsl mchEnc 3 lo hi (.slice aM ms.length cM) ms, rall LR] _ := hF6.pick [1, 0, 4, 5, 6, 7] (by decide) rfl
  clear hF6
  exact bodyPost_ret (v := ov1) (by simp [results, Try.results97, go_sem]) rfl ((by have h_ := HLA.out; rw [show k = ts.length by omega, ordK_all] at h_; exact ords_post h_ F137 (by first | omega | (simp; omega))))
 case atStart3 =>
  rw [HI5.out]
  exact ⟨0, _, [], (by kernel_rfl), (by kernel_rfl), rfl, rfl, Nat.zero_le _, (lhd rfl), rfl, (by first | exact Nat.le_refl _ | omega | (simp; done) | (simp; omega)), F4⟩
end Go.Proofs.Ytokelpmngahnoaa
/- the reference: the best order by the reference. -/
namespace Go.Proofs.Ytokelpmngahnoaa
open Go.RowKit
set_option maxRecDepth 100000
attribute [local go_sem] Oper.semAt_some
theorem ordsP_all (b0 lo hi : Nat) (aM aT : Option Addr) (cM cT : Nat) (ms : List Mch) (ts : List Tsk) (hok : JobOk ms ts) (h6 : ts.length <= 6) : ∀ f : Nat, OrdsP b0 lo hi aM aT cM cT ms ts f
 | 0 => fun w0 w LR now vn hB hb0 hop hln => ords_leaf w0 b0 lo hi aM aT cM cT ms ts LR now vn w hB hb0 hop hok h6 (by omega)
 | f + 1 => fun w0 w LR now vn hB hb0 hop hln => ords_in w0 b0 lo hi aM aT cM cT ms ts LR now vn f w hB hb0 hop hok h6 (ordsP_all b0 lo hi aM aT cM cT ms ts hok h6 f) (by omega)
theorem jobOk_l {ms : List Mch} {ts lt : List Tsk} {o : List Nat} (hok : JobOk ms ts) (hm : mixT ts.length lt (ordT ts o)) (hop : OrdP ts o) (hol : o.length = ts.length) : JobOk ms lt := by
 have hjo := JobOk.ord hok hop hol
 refine ⟨hjo.nm, by rw [hm.1]; exact hjo.nt, hjo.mo, fun k t hk => ?_⟩
 obtain ⟨y, hy⟩ : ∃ y, (ordT ts o)[k]? = some y := ⟨_, List.getElem?_eq_getElem (by rw [← hm.1]; exact (List.getElem?_eq_some_iff.1 hk).1)⟩
 obtain ⟨⟨e1, e2, e3, e4, e5⟩, _⟩ := hm.2.1 k t y hk hy
 have h4 := hjo.to_ k y hy
 exact ⟨by rw [e1]; exact h4.m, by rw [e2]; exact h4.ho, by rw [e3]; exact h4.wa, by rw [e4]; exact h4.fr, by rw [e5]; exact h4.af, by rw [e5]; exact h4.nd⟩
theorem opO_l {ms : List Mch} {ts lt : List Tsk} {dl : List Wea} {o : List Nat} (hm : mixT ts.length lt (ordT ts o)) (hol : o.length = ts.length) : (caseOf true ms lt dl).opn lt.length = opO ms ts dl o := by
 rw [caseOf_same hm, hm.1, ordT_len, hol]
 rfl
theorem tryS_take {ms : List Mch} {ts : List Tsk} {dl : List Wea} {L : List (List Nat)} {i : Nat} {o : List Nat} (h : L[i]? = some o) (s : BS) : tryS ms ts dl (L.take (i + 1)) s = upB ms ts dl (tryS ms ts dl (L.take i) s) o := by
 rw [← take_snoc h, tryS_app]
 rfl
theorem fstV_at {l : List (Value × List Nat)} {i : Nat} {v : Value} {o : List Nat} (h : l[i]? = some (v, o)) : (fstV l)[i]? = some v := by rw [fstV, List.getElem?_map, h]; rfl
theorem snd_at {l : List (Value × List Nat)} {L : List (List Nat)} (hl : l.map (·.2) = L) {i : Nat} {v : Value} {o : List Nat} (h : l[i]? = some (v, o)) : L[i]? = some o := by rw [← hl, List.getElem?_map, h]; rfl
theorem best_row {base : Nat} {w : World} {rl : List (Value × List Nat)} {bv : Value} {o : List Nat} (h : (bv = .slice none 0 0 /\ o = []) ∨ (bv, o) ∈ rl) (hr : ∀ t ∈ rl, Own intEnc 3 1 base w t.1 (ints t.2)) : Own intEnc 3 1 base w bv (ints o) := by
 rcases h with ⟨rfl, rfl⟩ | h
 · exact Own.nil _ _ _ _ _
 · exact hr _ h
set_option maxHeartbeats 32000000 in
theorem rbest_c (lo hi : Nat) (vm vt : Value) (ms : List Mch) (ts : List Tsk) (lo2 hi2 : Nat) (vd : Value) (dl : List Wea) (w : World) (hj : JobAt lo hi w vm vt ms ts) (h2 : hi <= w.heap.size) (hd : Sl weaEnc 6 lo2 hi2 w vd dl) (h3 : hi2 <= w.heap.size) :
  Calls Try.prog 47 #[.agg #[vm, vt], vd] w (BestR ms ts dl w) := by
 have F1 : Bun w [] w := Bun.nil _
 obtain ⟨hms, hts, haf⟩ := hj
 have hm_ms := hms.len
 unfold maxLen at hm_ms
 obtain ⟨aM, cM, rfl⟩ := hms.any
 replace F1 := F1.sl0 hms h2 rfl
 clear hms
 have hm_ts := hts.len
 unfold maxLen at hm_ts
 obtain ⟨aT, cT, rfl⟩ := hts.any
 replace F1 := F1.sl0 hts h2 rfl
 clear hts
 replace F1 := F1.non0 (rafs lo hi ts) haf (fun _ h_ => Nat.lt_of_lt_of_le h_.2 h2) rfl rfl
 clear haf
 have hm_ds := hd.len
 unfold maxLen at hm_ds
 obtain ⟨ad, cd, rfl⟩ := hd.any
 replace F1 := F1.sl0 hd h3 rfl
 clear hd
 go_enter Try.func47, Try.ntmps47
 go_wp2_with fail
 replace F1 := F1.new 25 #[.slice aM ms.length cM, .slice aT ts.length cT] (n := w.heap.size) (by simp)
 refine (rboth_c lo hi _ _ ms ts lo2 hi2 _ dl _ (JobAt.mk (F1.at 4 rfl : Sl mchEnc 3 lo hi _ (.slice aM ms.length cM) ms) (F1.at 3 rfl : Sl tskEnc 8 lo hi _ (.slice aT ts.length cT) ts) (F1.at 2 rfl : Afs lo hi _ ts)) (Nat.le_trans h2 F1.gb.size) (F1.at 1 rfl : Sl weaEnc 6 lo2 hi2 _ (.slice ad dl.length cd) dl) (Nat.le_trans h3 F1.gb.size)).mono ?_
 rintro e w9 ⟨rfl, hg7⟩
 have hg7s := hg7.size
 (try simp at hg7s)
 replace F1 := F1.gn hg7
 clear hg7
 by_cases c11 : bothErr ms ts dl = 0
 ·
  have c11a : ((bothErr ms ts dl) == 0) = true := beq_t c11
  have c11b : ((bothErr ms ts dl) != 0) = false := bne_f c11
  have c11H := lhd c11
  clear c11
  have HOK := lhd (bothOk c11H.out)
  have hnt := HOK.out.1.nt
  have hnd := HOK.out.2
  by_cases c12 : 6 < (ts.length : Int)
  ·
   have c12H := lhd c12
   have b13 := F1.bx2 0 rfl
   go_wp2_with fail
   clear b13
   exact bodyPost_ret (v := .tuple #[.slice none 0 0, .int .i64 0, .int .i64 8]) (by simp [results, Try.results47, go_sem]) rfl ((BestR.no (show bstE ms ts dl = 8 by unfold bstE; rw [if_neg (not_not_intro c11H.out), if_pos (by omega)]) (by decide) F1.gb rfl))
  have c12H := lhd c12
  have c12a : decide (6 < (ts.length : Int)) = false := dec_f c12
  have b14 := F1.bx2 0 rfl
  go_wp2_with fail
  clear b14
  have F15 := (F1.nilrow intEnc 3 1)
  clear F1
  have F16 : Bun w [rown intEnc 3 1 w.heap.size (.slice none 0 0) [], rafs lo hi ts, rsl tskEnc 8 lo hi (.slice aT ts.length cT) ts, rsl mchEnc 3 lo hi (.slice aM ms.length cM) ms, rbox w.heap.size 25 #[.slice aM ms.length cM, .slice aT ts.length cT], rsl weaEnc 6 lo2 hi2 (.slice ad dl.length cd) dl] _ := F15.pick [0, 3, 4, 5, 1, 2] (by decide) rfl
  clear F15
  have Fh_ := Bun.hide (K := [rown intEnc 3 1 w.heap.size (.slice none 0 0) [], rafs lo hi ts, rsl tskEnc 8 lo hi (.slice aT ts.length cT) ts, rsl mchEnc 3 lo hi (.slice aM ms.length cM) ms]) (l := [rbox w.heap.size 25 #[.slice aM ms.length cM, .slice aT ts.length cT], rsl weaEnc 6 lo2 hi2 (.slice ad dl.length cd) dl]) F16
  have hl0_ : Bun w [rafs lo hi ts, rsl tskEnc 8 lo hi (.slice aT ts.length cT) ts, rsl mchEnc 3 lo hi (.slice aM ms.length cM) ms, rbox w.heap.size 25 #[.slice aM ms.length cM, .slice aT ts.length cT], rsl weaEnc 6 lo2 hi2 (.slice ad dl.length cd) dl] _ := F16.pick [1, 2, 3, 4, 5] (by decide) rfl
  refine (ordsP_all w.heap.size lo hi aM aT cM cT ms ts HOK.out.1 (by omega) ts.length w _ [rbox w.heap.size 25 #[.slice aM ms.length cM, .slice aT ts.length cT], rsl weaEnc 6 lo2 hi2 (.slice ad dl.length cd) dl] [] _ Fh_ (Nat.le_refl _) (OrdP.nil ts) (by simp)).mono ?_
  rintro e w17 ⟨aL, cL, rl, ⟨rfl, hrl_⟩, Fr_, hsz_⟩
  have HRL := lhd hrl_
  have hrb_ : rl.length <= 46656 := by have h_ := congrArg List.length hrl_; rw [List.length_map] at h_; have h2_ := ords_few (ts := ts) (by omega) (f := ts.length) (by omega) []; omega
  clear hrl_
  have F18 : Bun w [rown vEncS 27 1 w.heap.size (.slice aL rl.length cL) (fstV rl), rrwi w.heap.size rl, rafs lo hi ts, rsl tskEnc 8 lo hi (.slice aT ts.length cT) ts, rsl mchEnc 3 lo hi (.slice aM ms.length cM) ms, rbox w.heap.size 25 #[.slice aM ms.length cM, .slice aT ts.length cT], rsl weaEnc 6 lo2 hi2 (.slice ad dl.length cd) dl] w17 := Bun.show (K := [rafs lo hi ts, rsl tskEnc 8 lo hi (.slice aT ts.length cT) ts, rsl mchEnc 3 lo hi (.slice aM ms.length cM) ms]) (l := [rbox w.heap.size 25 #[.slice aM ms.length cM, .slice aT ts.length cT], rsl weaEnc 6 lo2 hi2 (.slice ad dl.length cd) dl]) (N := [rown vEncS 27 1 w.heap.size (.slice aL rl.length cL) (fstV rl), rrwi w.heap.size rl]) hl0_ Fr_ rfl
  have hwsF18 := hsz_
  clear Fr_ hsz_ Fh_ hl0_ F16
  go_wp2_with fail
  (skip)
  obtain ⟨HI19_, HI190⟩ : ∃ I : RelT, I = (fun t ds wr => ∃ (i : Nat) (s : BS) (bv : Value), t 1 = .slice ad dl.length cd /\ t 2 = .pointer (some ⟨w.heap.size, 0, none⟩) /\ t 8 = .slice aL rl.length cL /\ t 9 = bv /\ t 10 = .int .i64 s.open_ /\ t 11 = .int .i64 (i : Int) /\ i <= rl.length /\ Hid (tryS ms ts dl ((ords ts ts.length []).take i) ⟨false, [], 0⟩ = s /\ s.found = decide (0 < i)) /\ Hid ((bv = .slice none 0 0 /\ s.order = []) ∨ (bv, s.order) ∈ rl) /\ ds = [] /\ w17.heap.size <= wr.heap.size /\ Bun w [rown vEncS 27 1 w.heap.size (.slice aL rl.length cL) (fstV rl), rrwi w.heap.size rl, rafs lo hi ts, rsl tskEnc 8 lo hi (.slice aT ts.length cT) ts, rsl mchEnc 3 lo hi (.slice aM ms.length cM) ms, rbox w.heap.size 25 #[.slice aM ms.length cM, .slice aT ts.length cT], rsl weaEnc 6 lo2 hi2 (.slice ad dl.length cd) dl] wr) := ⟨_, rfl⟩
  have HI19 := lhd HI190
  clear HI190
  refine wp_loopS 63 rfl HI19_ (fun t wr => rl.length - (intOf (t 11)).toNat) ?atStart4 ?round4
  case round4 =>
   intro t ds wr hHid
   rw [HI19.out] at hHid
   obtain ⟨i, s, bv, e1, e2, e8, e9, e10, e11, hrel⟩ := hHid
   have e : ((List.range 63).map t).toArray = #[t 0, t 1, t 2, t 3, t 4, t 5, t 6, t 7, t 8, t 9, t 10, t 11, t 12, t 13, t 14, t 15, t 16, t 17, t 18, t 19, t 20, t 21, t 22, t 23, t 24, t 25, t 26, t 27, t 28, t 29, t 30, t 31, t 32, t 33, t 34, t 35, t 36, t 37, t 38, t 39, t 40, t 41, t 42, t 43, t 44, t 45, t 46, t 47, t 48, t 49, t 50, t 51, t 52, t 53, t 54, t 55, t 56, t 57, t 58, t 59, t 60, t 61, t 62] := rfl
   (try dsimp only at e)
   rw [e1, e2, e8, e9, e10, e11] at e
   rw [e]
   simp only [e11]
   clear e e1 e2 e8 e9 e10 e11
   obtain ⟨hi_, HST, HBV, rfl, hs21, hF20⟩ := hrel
   clear F18
   obtain ⟨w22, rfl⟩ : ∃ x_ : World, x_ = wr := ⟨_, rfl⟩
   by_cases c23 : (i : Int) < (rl.length : Int)
   ·
    have c23H := lhd c23
    obtain ⟨gH24, cH25, e_⟩ := Own.opnN (hF20.at 0 rfl : Own vEncS 27 1 w.heap.size _ (.slice aL rl.length cL) (fstV rl)) (n := rl.length) (fstV_len _) (by omega)
    injection e_ with e1_ en_ e2_
    clear en_
    subst e1_ e2_
    have gH24l := (hF20.ltAt 0 rfl _ rfl).1
    obtain ⟨⟨vi, o⟩, hi2_⟩ : ∃ r_, rl[i]? = some r_ := ⟨_, List.getElem?_eq_getElem (by omega)⟩
    have hmem_ := List.mem_of_getElem? hi2_
    obtain ⟨aV, cV, e_, _⟩ := Own.slN ((hF20.at 1 rfl : ∀ t ∈ rl, Own intEnc 3 1 w.heap.size _ t.1 (ints t.2)) _ hmem_) (fun _ => rfl) (ints_len o)
    simp only at e_
    subst e_
    have HRI := lhd hi2_
    have HME := lhd hmem_
    have HOO := lhd (ords_ok ts ts.length [] o (OrdP.nil ts) (by simp) (List.mem_of_getElem? (snd_at HRL.out hi2_)))
    clear hi2_ hmem_
    have hz26 : Hid ((fstV rl)[i]? = some (.slice aV o.length cV)) := lhd (fstV_at HRI.out)
    go_wp2_with fail
    have F27 := hF20.drew
    clear hF20
    refine ru_begin (fun W => W.cell? ⟨w.heap.size, 0, none⟩ = some (.slice aM ms.length cM) /\ W.cell? ⟨w.heap.size, 1, none⟩ = some (.slice aT ts.length cT) /\ W.cell? ⟨gH24, i, none⟩ = some (.slice aV o.length cV)) 7 (by kernel_rfl) ?_ ?_
    · exact ⟨F27.q 5 0, F27.q 5 1, (by have h_ := (Own.sl (F27.at 0 rfl : Own vEncS 27 1 w.heap.size _ (.slice (some ⟨gH24, 0, none⟩) rl.length cL) (fstV rl)) (fun _ => rfl)).cells hz26.out 0 _ rfl; simpa [vEncS, sliceB] using h_)⟩
    obtain ⟨wd29, hwd_⟩ : ∃ x : World, w22.drew = x := ⟨_, rfl⟩
    rw [hwd_] at F27 ⊢
    have wd29s : w22.heap.size <= wd29.heap.size := by rw [← hwd_]; exact Nat.le_refl _
    clear hwd_
    have hS28 := (And.intro (F27.q 5 0) (And.intro (F27.q 5 1) ((by have h_ := (Own.sl (F27.at 0 rfl : Own vEncS 27 1 w.heap.size _ (.slice (some ⟨gH24, 0, none⟩) rl.length cL) (fstV rl)) (fun _ => rfl)).cells hz26.out 0 _ rfl; simpa [vEncS, sliceB] using h_))))
    refine ru_t 0 [] ?_
    refine ru_t 1 [] ?_
    refine ru_t 2 [] ?_
    refine ru_t 3 [] ?_
    refine ru_t 4 [] ?_
    (try simp only [lpX])
    clear hS28
    refine ru_two 5 6 rfl rfl (by kernel_rfl) ?_ ?_
    ·
     intro K hK
     go_simp
     refine (rordered_c 0 _ _ _ ms ts _ _ _ o _ (JobAt.mk (F27.slY 4 rfl) (F27.slY 3 rfl) (F27.afY 2 rfl)) (Nat.le_refl _) (Own.sl ((F27.at 1 rfl : ∀ t ∈ rl, Own intEnc 3 1 w.heap.size _ t.1 (ints t.2)) _ HME.out) (fun _ => rfl)) (Nat.le_refl _) HOK.out.1 HOO.out.1 HOO.out.2).mono ?_
     rintro e w32 ⟨aO, cO, loO, hiO, ltO, rfl, ⟨hxO, hyO⟩, hsO, haO, hmO, hg30⟩
     have HMO := lhd hmO
     have HJL := lhd (jobOk_l HOK.out.1 hmO HOO.out.1 HOO.out.2)
     clear hmO
     have hg30s := hg30.size
     (try simp at hg30s)
     replace F27 := F27.add (rafs loO hiO ltO) hg30 (haO) (fun g e => ⟨Nat.le_trans hxO e.1, Nat.lt_of_lt_of_le e.2 hyO⟩)
     replace F27 := F27.more 0 (rsl tskEnc 8 loO hiO (.slice aO ltO.length cO) ltO) rfl rfl rfl (fun _ h_ => h_) hsO
     refine ru_back hK (by exact ⟨F27.q 7 0, F27.q 7 1, (by have h_ := (Own.sl (F27.at 2 rfl : Own vEncS 27 1 w.heap.size _ (.slice (some ⟨gH24, 0, none⟩) rl.length cL) (fstV rl)) (fun _ => rfl)).cells hz26.out 0 _ rfl; simpa [vEncS, sliceB] using h_)⟩) (fun _ => ?_)
     clear hK K
     (try simp only [lpX])
     refine ru_one 6 rfl (by kernel_rfl) (fun K hK => ?_)
     go_simp
     replace F27 := F27.new 25 #[.slice none 0 0, .slice none 0 0] (n := w32.heap.size) (by simp)
     refine ru_back hK (by exact ⟨F27.q 8 0, F27.q 8 1, (by have h_ := (Own.sl (F27.at 3 rfl : Own vEncS 27 1 w.heap.size _ (.slice (some ⟨gH24, 0, none⟩) rl.length cL) (fstV rl)) (fun _ => rfl)).cells hz26.out 0 _ rfl; simpa [vEncS, sliceB] using h_)⟩) (fun _ => ?_)
     clear hK K
     (try simp only [lpX])
     refine ru_one 7 rfl (by kernel_rfl) (fun K hK => ?_)
     have Fn_ := F27
     (try dsimp only [List.eraseIdx_cons_succ, List.eraseIdx_cons_zero] at Fn_)
     obtain ⟨w36, hx37, F39, hxs38⟩ := Fn_.name
     (try simp at hxs38)
     rw [hx37]
     clear hx37 F27 Fn_
     have kb_ := F39.bx2 0 rfl
     go_simp
     clear kb_
     replace F39 := F39.pt2 (.slice aM ms.length cM) (.slice aO ltO.length cO)
     refine ru_back_late hK (by kernel_rfl) ?_
     clear hK K
     (try simp only [lpX])
     refine ru_done (by kernel_rfl) ?_
     have Fn_ := F39
     (try dsimp only [List.eraseIdx_cons_succ, List.eraseIdx_cons_zero] at Fn_)
     obtain ⟨w41, hx42, F44, hxs43⟩ := Fn_.name
     (try simp at hxs43)
     rw [hx42]
     clear hx42 F39 Fn_
     go_wp2_with fail
     replace F44 := F44.drew
     refine ru_begin (fun W => W.cell? ⟨w32.heap.size, 0, none⟩ = some (.slice aM ms.length cM) /\ W.cell? ⟨w32.heap.size, 1, none⟩ = some (.slice aO ltO.length cO)) 11 (by kernel_rfl) ?_ ?_
     · exact ⟨F44.q 0 0, F44.q 0 1⟩
     obtain ⟨wd47, hwd_⟩ : ∃ x : World, w41.drew = x := ⟨_, rfl⟩
     rw [hwd_] at F44 ⊢
     have wd47s : w41.heap.size <= wd47.heap.size := by rw [← hwd_]; exact Nat.le_refl _
     clear hwd_
     have hS46 := (And.intro (F44.q 0 0) (F44.q 0 1))
     refine ru_t 0 [] ?_
     refine ru_t 1 [] ?_
     refine ru_t 2 [] ?_
     refine ru_t 3 [] ?_
     refine ru_t 4 [] ?_
     (try simp only [lpX])
     clear hS46
     refine ru_one 5 rfl (by kernel_rfl) (fun K hK => ?_)
     go_simp
     refine (rcaseOf_r true 0 _ _ _ ms ltO 0 _ _ dl _ (JobAt.mk (F44.slY 7 rfl) (F44.slY 1 rfl) (F44.afY 2 rfl)) (Nat.le_refl _) (F44.slY 9 rfl) (Nat.le_refl _) HJL.out HOK.out.2 true rfl).mono ?_
     rintro e w50 ⟨v1C, v2C, v3C, v4C, lhC, lwC, lfC, rwC, lcC, hcC, rfl, ⟨hcxC, hcyC⟩, hczC, hcsC, hg48⟩
     have HCSC := lhd hcsC
     clear hcsC
     have hg48s := hg48.size
     (try simp at hg48s)
     replace F44 := F44.add (rcase lcC hcC v1C v2C v3C v4C lhC lwC lfC rwC) hg48 (hczC) (fun g e => ⟨Nat.le_trans hcxC e.1, Nat.lt_of_lt_of_le e.2 hcyC⟩)
     refine ru_back hK (by exact ⟨F44.q 1 0, F44.q 1 1⟩) (fun _ => ?_)
     clear hK K
     (try simp only [lpX])
     refine ru_one 6 rfl (by kernel_rfl) (fun K hK => ?_)
     go_simp
     refine (rplan_b true 0 _ _ _ ms ltO dl lcC hcC _ _ _ _ _ _ _ rwC _ (JobAt.mk (F44.slY 8 rfl) (F44.slY 2 rfl) (F44.afY 3 rfl)) (Nat.le_refl _) (F44.at 0 rfl : CaseAt lcC hcC _ v1C v2C v3C v4C lhC lwC lfC rwC) (by first | omega | (simp; omega)) HCSC.out HJL.out HOK.out.2 (opO ms ts dl o) (opO_l HMO.out HOO.out.2)).mono ?_
     rintro e w54 ⟨apP, cpP, lpP, hpP, rfl, _, _, hg52⟩
     have hg52s := hg52.size
     (try simp at hg52s)
     replace F44 := F44.gn hg52
     refine ru_back hK (by exact ⟨F44.q 1 0, F44.q 1 1⟩) (fun _ => ?_)
     clear hK K
     (try simp only [lpX])
     refine ru_p 7 ?_
     (try simp only [lpX])
     refine ru_p 8 ?_
     refine ru_p 9 ?_
     (try simp only [lpX])
     refine ru_p 10 ?_
     (try simp only [lpX])
     refine ru_one 11 rfl (by kernel_rfl) (fun K hK => ?_)
     go_simp
     refine ru_back_late hK (by kernel_rfl) ?_
     clear hK K
     (try simp only [lpX])
     refine ru_done (by kernel_rfl) ?_
     have Fn_ := (F44.drop 1 rfl)
     (try dsimp only [List.eraseIdx_cons_succ, List.eraseIdx_cons_zero] at Fn_)
     obtain ⟨w56, hx57, F59, hxs58⟩ := Fn_.name
     (try simp at hxs58)
     rw [hx57]
     clear hx57 F44 Fn_
     by_cases c60 : (i : Int) = 0
     ·
      have c60a : ((i : Int) == 0) = true := beq_t c60
      have c60b : ((i : Int) != 0) = false := bne_f c60
      have c60H := lhd c60
      clear c60
      have ge61 : World.cell? _ ⟨gH24, i, none⟩ = some (.slice aV o.length cV) := (by have h_ := (Own.sl (F59.at 3 rfl : Own vEncS 27 1 w.heap.size _ (.slice (some ⟨gH24, 0, none⟩) rl.length cL) (fstV rl)) (fun _ => rfl)).cells hz26.out 0 _ rfl; simpa [vEncS, sliceB] using h_)
      have gl62 := cell_lt ge61
      go_wp2_with fail
      clear ge61 gl62
      have F63 : Bun w [rown vEncS 27 1 w.heap.size (.slice (some ⟨gH24, 0, none⟩) rl.length cL) (fstV rl), rrwi w.heap.size rl, rafs lo hi ts, rsl tskEnc 8 lo hi (.slice aT ts.length cT) ts, rsl mchEnc 3 lo hi (.slice aM ms.length cM) ms, rbox w.heap.size 25 #[.slice aM ms.length cM, .slice aT ts.length cT], rsl weaEnc 6 lo2 hi2 (.slice ad dl.length cd) dl] _ := F59.pick [3, 4, 5, 6, 7, 8, 9] (by decide) rfl
      clear F59
      (first | refine ⟨by kernel_rfl, ?_, ?_⟩ | refine ⟨rfl, ?_, ?_⟩ | refine ⟨?_, ?_⟩)
      · rw [HI19.out]; exact ⟨i + 1, ⟨true, o, opO ms ts dl o⟩, _, (by kernel_rfl), (by kernel_rfl), (by kernel_rfl), rfl, rfl, (by show Value.int .i64 ((i : Int) + 1) = _; simp), (by omega), (lhd ⟨by rw [tryS_take (snd_at HRL.out HRI.out), HST.out.1]; exact upB_yes (.inl (by rw [HST.out.2]; exact decide_eq_false (by have h_ := c60H.out; omega))), (decide_eq_true (by omega)).symm⟩), (lhd (.inr HME.out)), (by first | rfl | simp), (by first | omega | (simp; done) | (simp; omega)), F63⟩
      · simp [slot, intOf]; omega
     have c60a : ((i : Int) == 0) = false := beq_f c60
     have c60b : ((i : Int) != 0) = true := bne_t c60
     have c60H := lhd c60
     clear c60
     by_cases c64 : opO ms ts dl o < s.open_
     ·
      have c64H := lhd c64
      have ge65 : World.cell? _ ⟨gH24, i, none⟩ = some (.slice aV o.length cV) := (by have h_ := (Own.sl (F59.at 3 rfl : Own vEncS 27 1 w.heap.size _ (.slice (some ⟨gH24, 0, none⟩) rl.length cL) (fstV rl)) (fun _ => rfl)).cells hz26.out 0 _ rfl; simpa [vEncS, sliceB] using h_)
      have gl66 := cell_lt ge65
      go_wp2_with fail
      clear ge65 gl66
      have F67 : Bun w [rown vEncS 27 1 w.heap.size (.slice (some ⟨gH24, 0, none⟩) rl.length cL) (fstV rl), rrwi w.heap.size rl, rafs lo hi ts, rsl tskEnc 8 lo hi (.slice aT ts.length cT) ts, rsl mchEnc 3 lo hi (.slice aM ms.length cM) ms, rbox w.heap.size 25 #[.slice aM ms.length cM, .slice aT ts.length cT], rsl weaEnc 6 lo2 hi2 (.slice ad dl.length cd) dl] _ := F59.pick [3, 4, 5, 6, 7, 8, 9] (by decide) rfl
      clear F59
      (first | refine ⟨by kernel_rfl, ?_, ?_⟩ | refine ⟨rfl, ?_, ?_⟩ | refine ⟨?_, ?_⟩)
      · rw [HI19.out]; exact ⟨i + 1, ⟨true, o, opO ms ts dl o⟩, _, (by kernel_rfl), (by kernel_rfl), (by kernel_rfl), rfl, rfl, (by show Value.int .i64 ((i : Int) + 1) = _; simp), (by omega), (lhd ⟨by rw [tryS_take (snd_at HRL.out HRI.out), HST.out.1]; exact upB_yes (.inr c64H.out), (decide_eq_true (by omega)).symm⟩), (lhd (.inr HME.out)), (by first | rfl | simp), (by first | omega | (simp; done) | (simp; omega)), F67⟩
      · simp [slot, intOf]; omega
     have c64H := lhd c64
     have c64a : decide (opO ms ts dl o < s.open_) = false := dec_f c64
     go_wp2_with fail
     have F68 : Bun w [rown vEncS 27 1 w.heap.size (.slice (some ⟨gH24, 0, none⟩) rl.length cL) (fstV rl), rrwi w.heap.size rl, rafs lo hi ts, rsl tskEnc 8 lo hi (.slice aT ts.length cT) ts, rsl mchEnc 3 lo hi (.slice aM ms.length cM) ms, rbox w.heap.size 25 #[.slice aM ms.length cM, .slice aT ts.length cT], rsl weaEnc 6 lo2 hi2 (.slice ad dl.length cd) dl] _ := F59.pick [3, 4, 5, 6, 7, 8, 9] (by decide) rfl
     clear F59
     (first | refine ⟨by kernel_rfl, ?_, ?_⟩ | refine ⟨rfl, ?_, ?_⟩ | refine ⟨?_, ?_⟩)
     · rw [HI19.out]; exact ⟨i + 1, s, _, (by kernel_rfl), (by kernel_rfl), (by kernel_rfl), rfl, rfl, (by show Value.int .i64 ((i : Int) + 1) = _; simp), (by omega), (lhd ⟨by rw [tryS_take (snd_at HRL.out HRI.out), HST.out.1]; exact upB_no (by rintro (h_ | h_); rw [HST.out.2] at h_; have h2_ := of_decide_eq_false h_; have h3_ := c60H.out; omega; have h2_ := c64H.out; omega), by rw [HST.out.2]; have h3_ := c60H.out; exact decide_eq_decide.2 (by omega)⟩), HBV, (by first | rfl | simp), (by first | omega | (simp; done) | (simp; omega)), F68⟩
     · simp [slot, intOf]; omega
    intro K hK
    go_simp
    replace F27 := F27.new 25 #[.slice none 0 0, .slice none 0 0] (n := wd29.heap.size) (by simp)
    refine ru_back hK (by exact ⟨F27.q 6 0, F27.q 6 1, (by have h_ := (Own.sl (F27.at 1 rfl : Own vEncS 27 1 w.heap.size _ (.slice (some ⟨gH24, 0, none⟩) rl.length cL) (fstV rl)) (fun _ => rfl)).cells hz26.out 0 _ rfl; simpa [vEncS, sliceB] using h_)⟩) (fun _ => ?_)
    clear hK K
    (try simp only [lpX])
    refine ru_one 5 rfl (by kernel_rfl) (fun K hK => ?_)
    go_simp
    refine (rordered_c 0 _ _ _ ms ts _ _ _ o _ (JobAt.mk (F27.slY 5 rfl) (F27.slY 4 rfl) (F27.afY 3 rfl)) (Nat.le_refl _) (Own.sl ((F27.at 2 rfl : ∀ t ∈ rl, Own intEnc 3 1 w.heap.size _ t.1 (ints t.2)) _ HME.out) (fun _ => rfl)) (Nat.le_refl _) HOK.out.1 HOO.out.1 HOO.out.2).mono ?_
    rintro e w72 ⟨aO, cO, loO, hiO, ltO, rfl, ⟨hxO, hyO⟩, hsO, haO, hmO, hg70⟩
    have HMO := lhd hmO
    have HJL := lhd (jobOk_l HOK.out.1 hmO HOO.out.1 HOO.out.2)
    clear hmO
    have hg70s := hg70.size
    (try simp at hg70s)
    replace F27 := F27.add (rafs loO hiO ltO) hg70 (haO) (fun g e => ⟨Nat.le_trans hxO e.1, Nat.lt_of_lt_of_le e.2 hyO⟩)
    replace F27 := F27.more 0 (rsl tskEnc 8 loO hiO (.slice aO ltO.length cO) ltO) rfl rfl rfl (fun _ h_ => h_) hsO
    refine ru_back hK (by exact ⟨F27.q 8 0, F27.q 8 1, (by have h_ := (Own.sl (F27.at 3 rfl : Own vEncS 27 1 w.heap.size _ (.slice (some ⟨gH24, 0, none⟩) rl.length cL) (fstV rl)) (fun _ => rfl)).cells hz26.out 0 _ rfl; simpa [vEncS, sliceB] using h_)⟩) (fun _ => ?_)
    clear hK K
    (try simp only [lpX])
    refine ru_one 7 rfl (by kernel_rfl) (fun K hK => ?_)
    have kb_ := F27.bx2 2 rfl
    go_simp
    clear kb_
    have F75 := (F27.front 2 rfl rfl).pt2 (.slice aM ms.length cM) (.slice aO ltO.length cO)
    clear F27
    refine ru_back_late hK (by kernel_rfl) ?_
    clear hK K
    (try simp only [lpX])
    refine ru_done (by kernel_rfl) ?_
    have Fn_ := F75
    (try dsimp only [List.eraseIdx_cons_succ, List.eraseIdx_cons_zero] at Fn_)
    obtain ⟨w76, hx77, F79, hxs78⟩ := Fn_.name
    (try simp at hxs78)
    rw [hx77]
    clear hx77 F75 Fn_
    go_wp2_with fail
    replace F79 := F79.drew
    refine ru_begin (fun W => W.cell? ⟨wd29.heap.size, 0, none⟩ = some (.slice aM ms.length cM) /\ W.cell? ⟨wd29.heap.size, 1, none⟩ = some (.slice aO ltO.length cO)) 11 (by kernel_rfl) ?_ ?_
    · exact ⟨F79.q 0 0, F79.q 0 1⟩
    obtain ⟨wd82, hwd_⟩ : ∃ x : World, w76.drew = x := ⟨_, rfl⟩
    rw [hwd_] at F79 ⊢
    have wd82s : w76.heap.size <= wd82.heap.size := by rw [← hwd_]; exact Nat.le_refl _
    clear hwd_
    have hS81 := (And.intro (F79.q 0 0) (F79.q 0 1))
    refine ru_t 0 [] ?_
    refine ru_t 1 [] ?_
    refine ru_t 2 [] ?_
    refine ru_t 3 [] ?_
    refine ru_t 4 [] ?_
    (try simp only [lpX])
    clear hS81
    refine ru_one 5 rfl (by kernel_rfl) (fun K hK => ?_)
    go_simp
    refine (rcaseOf_r true 0 _ _ _ ms ltO 0 _ _ dl _ (JobAt.mk (F79.slY 7 rfl) (F79.slY 1 rfl) (F79.afY 2 rfl)) (Nat.le_refl _) (F79.slY 9 rfl) (Nat.le_refl _) HJL.out HOK.out.2 true rfl).mono ?_
    rintro e w85 ⟨v1C, v2C, v3C, v4C, lhC, lwC, lfC, rwC, lcC, hcC, rfl, ⟨hcxC, hcyC⟩, hczC, hcsC, hg83⟩
    have HCSC := lhd hcsC
    clear hcsC
    have hg83s := hg83.size
    (try simp at hg83s)
    replace F79 := F79.add (rcase lcC hcC v1C v2C v3C v4C lhC lwC lfC rwC) hg83 (hczC) (fun g e => ⟨Nat.le_trans hcxC e.1, Nat.lt_of_lt_of_le e.2 hcyC⟩)
    refine ru_back hK (by exact ⟨F79.q 1 0, F79.q 1 1⟩) (fun _ => ?_)
    clear hK K
    (try simp only [lpX])
    refine ru_one 6 rfl (by kernel_rfl) (fun K hK => ?_)
    go_simp
    refine (rplan_b true 0 _ _ _ ms ltO dl lcC hcC _ _ _ _ _ _ _ rwC _ (JobAt.mk (F79.slY 8 rfl) (F79.slY 2 rfl) (F79.afY 3 rfl)) (Nat.le_refl _) (F79.at 0 rfl : CaseAt lcC hcC _ v1C v2C v3C v4C lhC lwC lfC rwC) (by first | omega | (simp; omega)) HCSC.out HJL.out HOK.out.2 (opO ms ts dl o) (opO_l HMO.out HOO.out.2)).mono ?_
    rintro e w89 ⟨apP, cpP, lpP, hpP, rfl, _, _, hg87⟩
    have hg87s := hg87.size
    (try simp at hg87s)
    replace F79 := F79.gn hg87
    refine ru_back hK (by exact ⟨F79.q 1 0, F79.q 1 1⟩) (fun _ => ?_)
    clear hK K
    (try simp only [lpX])
    refine ru_p 7 ?_
    (try simp only [lpX])
    refine ru_p 8 ?_
    refine ru_p 9 ?_
    (try simp only [lpX])
    refine ru_p 10 ?_
    (try simp only [lpX])
    refine ru_one 11 rfl (by kernel_rfl) (fun K hK => ?_)
    go_simp
    refine ru_back_late hK (by kernel_rfl) ?_
    clear hK K
    (try simp only [lpX])
    refine ru_done (by kernel_rfl) ?_
    have Fn_ := (F79.drop 1 rfl)
    (try dsimp only [List.eraseIdx_cons_succ, List.eraseIdx_cons_zero] at Fn_)
    obtain ⟨w91, hx92, F94, hxs93⟩ := Fn_.name
    (try simp at hxs93)
    rw [hx92]
    clear hx92 F79 Fn_
    by_cases c95 : (i : Int) = 0
    ·
     have c95a : ((i : Int) == 0) = true := beq_t c95
     have c95b : ((i : Int) != 0) = false := bne_f c95
     have c95H := lhd c95
     clear c95
     have ge96 : World.cell? _ ⟨gH24, i, none⟩ = some (.slice aV o.length cV) := (by have h_ := (Own.sl (F94.at 3 rfl : Own vEncS 27 1 w.heap.size _ (.slice (some ⟨gH24, 0, none⟩) rl.length cL) (fstV rl)) (fun _ => rfl)).cells hz26.out 0 _ rfl; simpa [vEncS, sliceB] using h_)
     have gl97 := cell_lt ge96
     go_wp2_with fail
     clear ge96 gl97
     have F98 : Bun w [rown vEncS 27 1 w.heap.size (.slice (some ⟨gH24, 0, none⟩) rl.length cL) (fstV rl), rrwi w.heap.size rl, rafs lo hi ts, rsl tskEnc 8 lo hi (.slice aT ts.length cT) ts, rsl mchEnc 3 lo hi (.slice aM ms.length cM) ms, rbox w.heap.size 25 #[.slice aM ms.length cM, .slice aT ts.length cT], rsl weaEnc 6 lo2 hi2 (.slice ad dl.length cd) dl] _ := F94.pick [3, 4, 5, 6, 7, 8, 9] (by decide) rfl
     clear F94
     (first | refine ⟨by kernel_rfl, ?_, ?_⟩ | refine ⟨rfl, ?_, ?_⟩ | refine ⟨?_, ?_⟩)
     · rw [HI19.out]; exact ⟨i + 1, ⟨true, o, opO ms ts dl o⟩, _, (by kernel_rfl), (by kernel_rfl), (by kernel_rfl), rfl, rfl, (by show Value.int .i64 ((i : Int) + 1) = _; simp), (by omega), (lhd ⟨by rw [tryS_take (snd_at HRL.out HRI.out), HST.out.1]; exact upB_yes (.inl (by rw [HST.out.2]; exact decide_eq_false (by have h_ := c95H.out; omega))), (decide_eq_true (by omega)).symm⟩), (lhd (.inr HME.out)), (by first | rfl | simp), (by first | omega | (simp; done) | (simp; omega)), F98⟩
     · simp [slot, intOf]; omega
    have c95a : ((i : Int) == 0) = false := beq_f c95
    have c95b : ((i : Int) != 0) = true := bne_t c95
    have c95H := lhd c95
    clear c95
    by_cases c99 : opO ms ts dl o < s.open_
    ·
     have c99H := lhd c99
     have ge100 : World.cell? _ ⟨gH24, i, none⟩ = some (.slice aV o.length cV) := (by have h_ := (Own.sl (F94.at 3 rfl : Own vEncS 27 1 w.heap.size _ (.slice (some ⟨gH24, 0, none⟩) rl.length cL) (fstV rl)) (fun _ => rfl)).cells hz26.out 0 _ rfl; simpa [vEncS, sliceB] using h_)
     have gl101 := cell_lt ge100
     go_wp2_with fail
     clear ge100 gl101
     have F102 : Bun w [rown vEncS 27 1 w.heap.size (.slice (some ⟨gH24, 0, none⟩) rl.length cL) (fstV rl), rrwi w.heap.size rl, rafs lo hi ts, rsl tskEnc 8 lo hi (.slice aT ts.length cT) ts, rsl mchEnc 3 lo hi (.slice aM ms.length cM) ms, rbox w.heap.size 25 #[.slice aM ms.length cM, .slice aT ts.length cT], rsl weaEnc 6 lo2 hi2 (.slice ad dl.length cd) dl] _ := F94.pick [3, 4, 5, 6, 7, 8, 9] (by decide) rfl
     clear F94
     (first | refine ⟨by kernel_rfl, ?_, ?_⟩ | refine ⟨rfl, ?_, ?_⟩ | refine ⟨?_, ?_⟩)
     · rw [HI19.out]; exact ⟨i + 1, ⟨true, o, opO ms ts dl o⟩, _, (by kernel_rfl), (by kernel_rfl), (by kernel_rfl), rfl, rfl, (by show Value.int .i64 ((i : Int) + 1) = _; simp), (by omega), (lhd ⟨by rw [tryS_take (snd_at HRL.out HRI.out), HST.out.1]; exact upB_yes (.inr c99H.out), (decide_eq_true (by omega)).symm⟩), (lhd (.inr HME.out)), (by first | rfl | simp), (by first | omega | (simp; done) | (simp; omega)), F102⟩
     · simp [slot, intOf]; omega
    have c99H := lhd c99
    have c99a : decide (opO ms ts dl o < s.open_) = false := dec_f c99
    go_wp2_with fail
    have F103 : Bun w [rown vEncS 27 1 w.heap.size (.slice (some ⟨gH24, 0, none⟩) rl.length cL) (fstV rl), rrwi w.heap.size rl, rafs lo hi ts, rsl tskEnc 8 lo hi (.slice aT ts.length cT) ts, rsl mchEnc 3 lo hi (.slice aM ms.length cM) ms, rbox w.heap.size 25 #[.slice aM ms.length cM, .slice aT ts.length cT], rsl weaEnc 6 lo2 hi2 (.slice ad dl.length cd) dl] _ := F94.pick [3, 4, 5, 6, 7, 8, 9] (by decide) rfl
    clear F94
    (first | refine ⟨by kernel_rfl, ?_, ?_⟩ | refine ⟨rfl, ?_, ?_⟩ | refine ⟨?_, ?_⟩)
    · rw [HI19.out]; exact ⟨i + 1, s, _, (by kernel_rfl), (by kernel_rfl), (by kernel_rfl), rfl, rfl, (by show Value.int .i64 ((i : Int) + 1) = _; simp), (by omega), (lhd ⟨by rw [tryS_take (snd_at HRL.out HRI.out), HST.out.1]; exact upB_no (by rintro (h_ | h_); rw [HST.out.2] at h_; have h2_ := of_decide_eq_false h_; have h3_ := c95H.out; omega; have h2_ := c99H.out; omega), by rw [HST.out.2]; have h3_ := c95H.out; exact decide_eq_decide.2 (by omega)⟩), HBV, (by first | rfl | simp), (by first | omega | (simp; done) | (simp; omega)), F103⟩
    · simp [slot, intOf]; omega
   have c23H := lhd c23
   have c23a : decide ((i : Int) < (rl.length : Int)) = false := dec_f c23
   go_wp2_with fail
   exact bodyPost_ret (v := .tuple #[bv, .int .i64 s.open_, .int .i64 0]) (by simp [results, Try.results47, go_sem]) rfl ((BestR.yes c11H.out (by omega) (by have h_ := HST.out.1; have h2_ := congrArg List.length HRL.out; rw [List.length_map] at h2_; rwa [List.take_of_length_le (by omega)] at h_) (best_row HBV.out (hF20.at 1 rfl : ∀ t ∈ rl, Own intEnc 3 1 w.heap.size _ t.1 (ints t.2))) hF20.gb rfl))
  case atStart4 =>
   rw [HI19.out]
   exact ⟨0, ⟨false, [], 0⟩, _, (by kernel_rfl), (by kernel_rfl), (by kernel_rfl), rfl, rfl, rfl, Nat.zero_le _, (lhd ⟨rfl, rfl⟩), (lhd (.inl ⟨rfl, rfl⟩)), rfl, (by first | exact Nat.le_refl _ | omega | (simp; done) | (simp; omega)), F18⟩
 have c11a : ((bothErr ms ts dl) == 0) = false := beq_f c11
 have c11b : ((bothErr ms ts dl) != 0) = true := bne_t c11
 have c11H := lhd c11
 clear c11
 go_wp2_with fail
 exact bodyPost_ret (v := .tuple #[.slice none 0 0, .int .i64 0, .int .i64 (bothErr ms ts dl)]) (by simp [results, Try.results47, go_sem]) rfl ((BestR.no (show bstE ms ts dl = bothErr ms ts dl by unfold bstE; rw [if_pos c11H.out]) c11H.out F1.gb rfl))
end Go.Proofs.Ytokelpmngahnoaa
