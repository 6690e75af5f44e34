/- append onto a row of the call's own: the old header still reads what it read; whatever lies elsewhere stays. -/
import Derived.Test.YtcndphefomigeaaDoorPMem
import Derived.Deep.AppendLies
set_option linter.unusedVariables false
set_option linter.unusedSimpArgs false
set_option linter.unnecessarySimpa false
namespace Go.Proofs.YtcndphefomigeaaDoor
open Go.RowKit

/-- What is asked of an element's type and of how elements are told as cells. -/
structure ElemOk {α : Type} (P : Program) (t e : TypeId) (sz bytes : Nat) (enc : α → List Value) : Prop where
  under : P.underlying t = some (.slice e)
  info : ∃ (i : TypeInfo) (z : Value), P.info? e = some i ∧ i.zero = some z ∧ i.size = sz ∧ i.bytes = bytes ∧ z.cells.size = sz
  pos : 0 < sz
  small : bytes ≤ 1024
  len : ∀ x, (enc x).length = sz
  one : ∀ x, ∀ u ∈ enc x, u.oneCell' = true

/-- v is a row of the call's own, in a block from base on, that reads as l. -/
def Own {α : Type} (enc : α → List Value) (e : TypeId) (sz base : Nat) (w : World) (v : Value) (l : List α) : Prop := w.ownsRow base e sz v l.length (l.flatMap enc)

section
variable {α : Type} {enc : α → List Value} {e : TypeId} {sz base : Nat} {w w' : World} {v : Value} {l : List α}
theorem Own.nil (enc : α → List Value) (e : TypeId) (sz base : Nat) (w : World) : Own enc e sz base w (.slice none 0 0) [] := World.ownsRow_nil w base e sz
theorem Own.sl (h : Own enc e sz base w v l) (hsz : ∀ x, (enc x).length = sz) : Sl enc sz base w.heap.size w v l := Sl.of_own h hsz
theorem Own.lt (h : Own enc e sz base w v l) : ∀ k, v.ownBlock = some k → base ≤ k ∧ k < w.heap.size := World.ownsRow.lt h
theorem Own.gb {r : Option Nat} (h : Own enc e sz base w v l) (hg : w.grownBy w' r) (hr : ∀ k, r = some k → v.ownBlock ≠ some k) : Own enc e sz base w' v l := by
  refine World.ownsRow.kept h hg ?_
  cases hv : v.ownBlock with
  | none => exact .inl rfl
  | some k => exact .inr fun e => hr k e.symm hv
theorem Own.alloc (h : Own enc e sz base w v l) (o : Obj) : Own enc e sz base (w.alloc o) v l := World.ownsRow.alloc h o
theorem Own.drew (h : Own enc e sz base w v l) : Own enc e sz base w.drew v l := h
theorem Own.drewN (h : Own enc e sz base w v l) (n : Nat) : Own enc e sz base (w.drewN n) v l := h
theorem Own.far (h : Own enc e sz base w v l) {p : Addr} (hp : ∀ k, v.ownBlock = some k → k ≠ p.block) (u : Value) : Own enc e sz base (w.setCell p u) v l := by
  obtain ⟨h1, h2⟩ := h
  refine ⟨h1, ?_⟩
  rcases h2 with h2 | ⟨g, cap, cur, hv, hb, hg, h3⟩
  · exact .inl h2
  · exact .inr ⟨g, cap, cur, hv, hb, (Below.heap_setCell w p u g (hp g (by rw [hv]; rfl))).trans hg, h3⟩
theorem Own.form (h : Own enc e sz base w v l) (hl : 0 < l.length) : ∃ g cap, v = .slice (some ⟨g, 0, none⟩) l.length cap ∧ base ≤ g ∧ g < w.heap.size := World.ownsRow.form h hl
theorem Own.ne {g : Nat} {t : TypeId} {cs : Array Value} (h : Own enc e sz base w v l) (hg : Bk w g t cs) (hne : e ≠ t) : v.ownBlock ≠ some g := by
  rcases h.2 with ⟨rfl, _⟩ | ⟨g', cap, cur, rfl, _, hh, _⟩
  · simp [Value.ownBlock]
  · intro he
    obtain rfl : g' = g := by simpa [Value.ownBlock] using he
    exact Bk.ne (t := e) hh hg hne rfl
end

theorem flat_len {α : Type} {enc : α → List Value} {sz : Nat} (h : ∀ x, (enc x).length = sz) (l : List α) : (l.flatMap enc).length = l.length * sz := by
  induction l with
  | nil => simp
  | cons x l ih => rw [List.flatMap_cons, List.length_append, h, ih, List.length_cons, Nat.succ_mul]; omega

section
variable {α : Type} {P : Program} {t e : TypeId} {sz bytes : Nat} {enc : α → List Value} (w : World)

theorem run_app (ok : ElemOk P t e sz bytes enc) (ty : TypeId) (base : Nat) (v : Value) (l ys : List α) (hown : Own enc e sz base w v l)
    (ad : Addr) (c : Nat) (hm : 0 < ys.length) (hnews : ∀ j u, (ys.flatMap enc)[j]? = some u → w.cell? (ad.add j) = some u) (hbig : l.length + ys.length ≤ 100000000000) (hbase : base ≤ w.heap.size) :
    ∃ g cap w', (Builtin.append_ #[t, t] ty #[v, .slice (some ad) ys.length c]).run P w = .ok (.slice (some ⟨g, 0, none⟩) (l.length + ys.length) cap) w' ∧
      Own enc e sz base w' (.slice (some ⟨g, 0, none⟩) (l.length + ys.length) cap) (l ++ ys) ∧ ((v.ownBlock = some g ∧ w.grownBy w' (some g)) ∨ (g = w.heap.size ∧ w.grownBy w' none)) ∧ Own enc e sz base w' v l := by
  obtain ⟨i, z, hi, hz, hsz, hby, hzs⟩ := ok.info
  subst hsz
  subst hby
  have hl : (ys.flatMap enc).length = ys.length * i.size := flat_len ok.len ys
  have hl0 : (l.flatMap enc).length = l.length * i.size := flat_len ok.len l
  have hlen : (l.flatMap enc ++ ys.flatMap enc).length = (l.length + ys.length) * i.size := by rw [List.length_append, hl0, hl, Nat.add_mul]
  have h63 : l.length + ys.length ≤ maxLen := by simp only [maxLen]; omega
  have hbytes : (l.length + ys.length) * i.bytes ≤ 140737488355328 := Nat.le_trans (Nat.mul_le_mul hbig ok.small) (by omega)
  have happ : (l ++ ys).flatMap enc = l.flatMap enc ++ ys.flatMap enc := List.flatMap_append
  have hll : (l ++ ys).length = l.length + ys.length := List.length_append
  unfold Own
  rw [happ, hll]
  have grown : ∀ (old : Nat), old < l.length + ys.length →
      (w.drew.alloc (.cells ((l.flatMap enc).toArray ++ (ys.flatMap enc).toArray ++ Builtin.zeroCells z.cells (grownCap w (l.length + ys.length) old e - (l.length + ys.length))) e)).ownsRow base e i.size
        (.slice (some ⟨w.heap.size, 0, none⟩) (l.length + ys.length) (grownCap w (l.length + ys.length) old e)) (l.length + ys.length) (l.flatMap enc ++ ys.flatMap enc) ∧
      w.grownBy (w.drew.alloc (.cells ((l.flatMap enc).toArray ++ (ys.flatMap enc).toArray ++ Builtin.zeroCells z.cells (grownCap w (l.length + ys.length) old e - (l.length + ys.length))) e)) none := by
    intro old ho
    have hge := grownCap_ge w (l.length + ys.length) old e
    have hcm := grownCap_le_maxLen w (l.length + ys.length) old e h63
    refine ⟨⟨hlen, .inr ⟨w.heap.size, _, _, rfl, hbase, Bk.new w.drew e _, hge, hcm, ?_, ?_⟩⟩, gb_alloc (gb_drew (gb_refl _ _)) _⟩
    · simp only [Array.size_append, List.size_toArray, size_zeroCells, hzs, hl0, hl, ← Nat.add_mul]
      congr 1
      omega
    · simp only [Array.toList_append, List.append_assoc]
      rw [← List.append_assoc, ← hlen]
      exact List.take_left
  rcases hown.2 with ⟨rfl, h0⟩ | ⟨g, cap, cur, rfl, hbg, hg, hnc, hcm, hcs, htake⟩
  · obtain rfl : l = [] := List.eq_nil_of_length_eq_zero h0
    have hr := run_append_nil (P := P) w t ty e i z ok.under hi hz ad ys.length c _ hl hnews (by omega) (by simp only [List.length_nil] at hbig; omega) (by simp only [List.length_nil, Nat.zero_add] at hbytes; omega)
    have hgr := grown 0 (by omega)
    simp only [List.length_nil, Nat.zero_add, List.flatMap_nil, List.nil_append, Array.empty_append] at hgr ⊢
    exact ⟨_, _, _, hr, hgr.1, .inr ⟨rfl, hgr.2⟩, World.ownsRow_nil _ _ _ _⟩
  · by_cases hroom : l.length + ys.length ≤ cap
    · have hfit : l.length * i.size + (ys.flatMap enc).length ≤ cur.size := by rw [hl, hcs, ← Nat.add_mul]; exact Nat.mul_le_mul_right _ hroom
      have h1 : ∀ u ∈ ys.flatMap enc, u.oneCell' = true := fun u hu => by
        obtain ⟨x, _, hx⟩ := List.mem_flatMap.1 hu
        exact ok.one x u hx
      have hr := run_append_room (P := P) w t ty e i ok.under hi g l.length cap cur hg ad ys.length c _ hl hnews h1 hroom hfit
      have hsize : (cur.toList.take (l.length * i.size) ++ ys.flatMap enc ++ cur.toList.drop (l.length * i.size + (ys.flatMap enc).length)).toArray.size = cap * i.size := by
        simp only [List.size_toArray, List.length_append, List.length_take, List.length_drop, Array.length_toList]
        omega
      refine ⟨_, _, _, hr, ⟨hlen, .inr ⟨g, cap, _, rfl, hbg, setRow_heap w g cur _ e _ hg, hroom, hcm, hsize, ?_⟩⟩, .inl ⟨rfl, ⟨rfl, rfl, rfl, by simp, fun k _ hk => setRow_other w g k _ (fun e => hk (by simp [e]))⟩⟩, ⟨hl0, .inr ⟨g, cap, _, rfl, hbg, setRow_heap w g cur _ e _ hg, hnc, hcm, hsize, ?_⟩⟩⟩
      · rw [htake, ← hlen]
        exact List.take_left
      · rw [htake, List.append_assoc, ← hl0]
        exact List.take_left
    · have holds : ∀ j u, (l.flatMap enc)[j]? = some u → w.cell? ((⟨g, 0, none⟩ : Addr).add j) = some u := World.ownsRow.cells hown (g := g) rfl
      have hr := run_append_grow (P := P) w t ty e i z ok.under hi hz ⟨g, 0, none⟩ l.length cap _ hl0 holds ad ys.length c _ hl hnews (by omega) (by omega) (growslice_fits (by omega) hbytes)
      have hgr := grown cap (by omega)
      exact ⟨_, _, _, hr, hgr.1, .inr ⟨rfl, hgr.2⟩, World.ownsRow.kept hown hgr.2 (.inr (by simp [Value.ownBlock]))⟩

/-- What an append leaves: the new header of N elements, where it lies, what else may have turned, and that the old header reads on. -/
structure AppPost (enc : α → List Value) (e : TypeId) (sz base : Nat) (w : World) (v : Value) (l ys : List α) (H N g cap : Nat) (w' : World) : Prop where
  own : Own enc e sz base w' (.slice (some ⟨g, 0, none⟩) N cap) (l ++ ys)
  at_ : v.ownBlock = some g ∨ g = H
  gb : w.grownBy w' v.ownBlock
  old : Own enc e sz base w' v l
  lt : g < w'.heap.size

theorem wp_app (ok : ElemOk P t e sz bytes enc) {o : Oper} {a : Act} {K : Act → World → Prop} {Q : Exit → Act → World → Prop} (s x : Operand)
    (ho : o.op = .call { callee := .builtin .append, args := #[s, x], argTypes := #[t, t] })
    (base : Nat) (v : Value) (l ys : List α) (hs : a.eval s = v) (hown : Own enc e sz base w v l)
    (ad : Addr) (m c : Nat) (hx : a.eval x = .slice (some ad) m c) (hmy : ys.length = m) (hm : 0 < m) (hnews : ∀ j u, (ys.flatMap enc)[j]? = some u → w.cell? (ad.add j) = some u) (N : Nat) (hN : l.length + m = N) (hbig : N ≤ 100000000000) (hbase : base ≤ w.heap.size) (H : Nat) (hH : w.heap.size = H)
    (h : ∀ g cap w', AppPost enc e sz base w v l ys H N g cap w' → K (a.put o.dst (.slice (some ⟨g, 0, none⟩) N cap)) w') : o.wp P a w K Q := by
  subst hmy hN
  obtain ⟨g, cap, w', hr, h2, h3, h4⟩ := run_app w ok o.type base v l ys hown ad c hm hnews hbig hbase
  unfold Oper.wp execOp
  simp only [ho, resolve, invoke, builtin, Sem.run_bind, Sem.run_pure, Result.andThen_ok, List.map_toArray, List.map_cons, List.map_nil, hs, hx, hr]
  refine h g cap w' ⟨h2, ?_, ?_, h4, (h2.lt g rfl).2⟩
  · rcases h3 with ⟨h3, _⟩ | ⟨h3, _⟩
    · exact .inl h3
    · exact .inr (h3.trans hH)
  · rcases h3 with ⟨h3, h5⟩ | ⟨_, h5⟩
    · rw [h3]; exact h5
    · exact gb_trans' (gb_refl _ _) h5 (fun _ e => by cases e)

theorem wpList_app (ok : ElemOk P t e sz bytes enc) {ops : Array Oper} {rest : List Oper} {o : Oper} {a : Act} {Q : Exit → Act → World → Prop} (hgd : o.guard = none) (s x : Operand)
    (ho : o.op = .call { callee := .builtin .append, args := #[s, x], argTypes := #[t, t] })
    (base : Nat) (v : Value) (l ys : List α) (hs : a.eval s = v) (hown : Own enc e sz base w v l)
    (ad : Addr) (m c : Nat) (hx : a.eval x = .slice (some ad) m c) (hmy : ys.length = m) (hm : 0 < m) (hnews : ∀ j u, (ys.flatMap enc)[j]? = some u → w.cell? (ad.add j) = some u) (N : Nat) (hN : l.length + m = N) (hbig : N ≤ 100000000000) (hbase : base ≤ w.heap.size) (H : Nat) (hH : w.heap.size = H)
    (h : ∀ g cap w', AppPost enc e sz base w v l ys H N g cap w' → wpList P ops Q rest (a.put o.dst (.slice (some ⟨g, 0, none⟩) N cap)) w') : wpList P ops Q (o :: rest) a w :=
  wpList_plain hgd fun _ hK => wp_app w ok s x ho base v l ys hs hown ad m c hx hmy hm hnews N hN hbig hbase H hH fun g cap w' hp => hK _ _ (h g cap w' hp)

theorem step_app (ok : ElemOk P t e sz bytes enc) {ops : Array Oper} {o : Oper} {a : Act} {K : Act → World → Prop} {Q : Exit → Act → World → Prop} {E : Prop} (hgd : o.guard = none) (s x : Operand)
    (ho : o.op = .call { callee := .builtin .append, args := #[s, x], argTypes := #[t, t] })
    (base : Nat) (v : Value) (l ys : List α) (hs : a.eval s = v) (hown : Own enc e sz base w v l)
    (ad : Addr) (m c : Nat) (hx : a.eval x = .slice (some ad) m c) (hmy : ys.length = m) (hm : 0 < m) (hnews : ∀ j u, (ys.flatMap enc)[j]? = some u → w.cell? (ad.add j) = some u) (N : Nat) (hN : l.length + m = N) (hbig : N ≤ 100000000000) (hbase : base ≤ w.heap.size) (H : Nat) (hH : w.heap.size = H)
    (h : ∀ g cap w', AppPost enc e sz base w v l ys H N g cap w' → K (a.put o.dst (.slice (some ⟨g, 0, none⟩) N cap)) w') :
    if Region.wanted o (yielded ops a.tmps) = true then Oper.wp P o a w K Q else E := by
  have hw : Region.wanted o (yielded ops a.tmps) = true := by simp [Region.wanted, hgd]
  rw [if_pos hw]
  exact wp_app w ok s x ho base v l ys hs hown ad m c hx hmy hm hnews N hN hbig hbase H hH h
end

/-- A cell of a row of ints that the call owns. -/
theorem Own.at {e : TypeId} {base : Nat} {w : World} {g n cap : Nat} {l : List Int} (h : Own intEnc e 1 base w (.slice (some ⟨g, 0, none⟩) n cap) l) {i : Nat} (hi : i < l.length) : w.cell? ⟨g, i, none⟩ = some (.int .i64 (gi l i)) := by
  have hc := World.ownsRow.cells h (g := g) rfl
  have hfl : ∀ (l : List Int) (i : Nat), i < l.length → (l.flatMap intEnc)[i]? = some (.int .i64 (gi l i)) := by
    intro l
    induction l with
    | nil => intro i h; simp at h
    | cons x l ih =>
      intro i h
      cases i with
      | zero => rfl
      | succ i =>
        have := ih i (by simpa using h)
        simpa [intEnc, gi] using this
  have := hc i _ (hfl l i hi)
  have hadd : (⟨g, 0, none⟩ : Addr).add i = ⟨g, i, none⟩ := by
    unfold Addr.add
    split <;> simp_all
  rwa [hadd] at this

theorem news_of {w : World} {g : Nat} {t : TypeId} {cs : Array Value} (h : Bk w g t cs) : ∀ j u, cs.toList[j]? = some u → w.cell? ((⟨g, 0, none⟩ : Addr).add j) = some u := World.news_of_block h

theorem info5 {P : Program} {e : TypeId} {z : Value} {size bytes : Nat} (h : (P.info? e).map (fun i => (i.zero, i.size, i.bytes)) = some (some z, size, bytes)) (hz : z.cells.size = size) :
    ∃ (i : TypeInfo) (z : Value), P.info? e = some i ∧ i.zero = some z ∧ i.size = size ∧ i.bytes = bytes ∧ z.cells.size = size := by
  obtain ⟨i, h1, h2, h3, h4⟩ := info_parts h
  exact ⟨i, z, h1, h2, h3, h4, hz⟩

/-! ### the element types of this program -/
theorem infoInt : (Tryd.prog.info? 3).map (fun i => (i.zero, i.size, i.bytes)) = some (some (.int .i64 0), 1, 8) := by kernel_rfl
theorem okInt : ElemOk Tryd.prog 27 3 1 8 intEnc where
  under := Tryd.underlying27
  info := info5 infoInt rfl
  pos := by omega
  small := by omega
  len := fun _ => rfl
  one := fun x u hu => by simp [intEnc] at hu; subst hu; rfl
theorem infoSp : (Tryd.prog.info? 23).map (fun i => (i.zero, i.size, i.bytes)) = some (some (.agg #[.int .i64 0, .int .i64 0]), 2, 16) := by kernel_rfl
theorem okSp : ElemOk Tryd.prog 63 23 2 16 spEnc where
  under := Tryd.underlying63
  info := info5 infoSp rfl
  pos := by omega
  small := by omega
  len := fun _ => rfl
  one := fun x u hu => by
    simp [spEnc] at hu
    rcases hu with rfl | rfl <;> rfl
end Go.Proofs.YtcndphefomigeaaDoor
