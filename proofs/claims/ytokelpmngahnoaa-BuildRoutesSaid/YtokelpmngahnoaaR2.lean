/- A square of numbers: rows behind a row of slices, all of one's own; make of such a row of rows. -/
import Derived.Test.YtokelpmngahnoaaRws
import Derived.Test.YtokelpmngahnoaaMkI
import Derived.Test.YtokelpmngahnoaaPR4
set_option linter.unusedVariables false
set_option linter.unusedSimpArgs false
set_option linter.unnecessarySimpa false
namespace Go.Proofs.Ytokelpmngahnoaa
open Go.RowKit
set_option maxRecDepth 100000
/-- The slices of the rows that are made; the rest are none. -/
def outL (n : Nat) (gs : List Nat) : List Value := gs.map (fun g => Value.slice (some ⟨g, 0, none⟩) n n) ++ List.replicate (n - gs.length) (.slice none 0 0)
structure MatP (base b n : Nat) (gs : List Nat) (M : MatI) (w : World) : Prop where
  out : Own vEncS 27 1 base w (.slice (some ⟨b, 0, none⟩) n n) (outL n gs)
  lenM : M.length = gs.length
  nd : gs.Nodup
  nb : b ∉ gs
  row : ∀ (i g : Nat) (r : List Int), gs[i]? = some g → M[i]? = some r → Own intEnc 3 1 base w (.slice (some ⟨g, 0, none⟩) n n) r
section
variable {base b n : Nat} {gs : List Nat} {M : MatI} {w w' : World}
theorem MatP.rowX (h : MatP base b n gs M w) {g : Nat} (hg : g ∈ gs) : ∃ (i : Nat) (r : List Int), gs[i]? = some g ∧ M[i]? = some r ∧ Own intEnc 3 1 base w (.slice (some ⟨g, 0, none⟩) n n) r := by
  obtain ⟨i, hi, e⟩ := List.getElem_of_mem hg
  have h1 : gs[i]? = some g := by rw [List.getElem?_eq_getElem hi, e]
  have h2 : M[i]? = some (M[i]'(by rw [h.lenM]; exact hi)) := List.getElem?_eq_getElem _
  exact ⟨i, _, h1, h2, h.row i g _ h1 h2⟩
theorem MatP.lt (h : MatP base b n gs M w) (g : Nat) (hg : g = b ∨ g ∈ gs) : base ≤ g ∧ g < w.heap.size := by
  rcases hg with rfl | hg
  · exact h.out.lt _ rfl
  · obtain ⟨i, r, _, _, ho⟩ := h.rowX hg
    exact ho.lt _ rfl
theorem MatP.gb {q : Option Nat} (h : MatP base b n gs M w) (hg : w.grownBy w' q) (hq : ∀ g, q = some g → ¬ (g = b ∨ g ∈ gs)) : MatP base b n gs M w' := by
  refine ⟨h.out.gb hg fun k e e' => ?_, h.lenM, h.nd, h.nb, fun i g r h1 h2 => (h.row i g r h1 h2).gb hg fun k e e' => ?_⟩
  · have e2 : some b = some k := e'
    injection e2 with e2
    exact hq k e (.inl e2.symm)
  · have e2 : some g = some k := e'
    injection e2 with e2
    exact hq k e (.inr (e2 ▸ List.mem_of_getElem? h1))
theorem outL_at {i g : Nat} (h : gs[i]? = some g) : (outL n gs)[i]? = some (Value.slice (some ⟨g, 0, none⟩) n n) := by
  unfold outL
  rw [List.getElem?_append_left (by simpa using (List.getElem?_eq_some_iff.1 h).1), List.getElem?_map, h]; rfl
theorem outL_next (h : gs.length < n) : (outL n gs)[gs.length]? = some (.slice none 0 0) := by
  unfold outL
  rw [List.getElem?_append_right (by simp), List.length_map, Nat.sub_self, List.getElem?_replicate, if_pos (by omega)]
theorem outL_set (h : gs.length < n) (g : Nat) : (outL n gs).set gs.length (Value.slice (some ⟨g, 0, none⟩) n n) = outL n (gs ++ [g]) := by
  unfold outL
  rw [List.set_append_right _ _ (by simp), List.length_map, Nat.sub_self, List.map_append, List.length_append, List.append_assoc]
  congr 1
  obtain ⟨k, hk⟩ : ∃ k, n - gs.length = k + 1 := ⟨n - gs.length - 1, by omega⟩
  rw [hk, List.replicate_succ, List.set_cons_zero, show n - (gs.length + [g].length) = k by simp; omega]
  rfl
/-- What is read: a row's slice, a number. -/
theorem MatP.o (h : MatP base b n gs M w) {i g : Nat} (hi : gs[i]? = some g) : w.cell? ⟨b, i, none⟩ = some (.slice (some ⟨g, 0, none⟩) n n) := by
  have := (Own.sl h.out (fun _ => rfl)).cells (outL_at (n := n) hi) 0 _ rfl
  simpa [vEncS, sliceB] using this
theorem MatP.c (h : MatP base b n gs M w) {i g j : Nat} {r : List Int} {x : Int} (hi : gs[i]? = some g) (hr : M[i]? = some r) (hj : r[j]? = some x) : w.cell? ⟨g, j, none⟩ = some (.int .i64 x) := by
  have := (Own.sl (h.row i g r hi hr) (fun _ => rfl)).cells hj 0 _ rfl
  simpa using this
theorem MatP.fo (h : MatP base b n gs M w) (o : Nat) : w.frozen? ⟨b, o, none⟩ = false := Own.live h.out o
theorem MatP.oz (h : MatP base b n gs M w) (hl : gs.length < n) {k : Nat} (hk : gs.length = k) : w.cell? ⟨b, k, none⟩ = some (.slice none 0 0) := by
  subst hk
  have := (Own.sl h.out (fun _ => rfl)).cells (outL_next hl) 0 _ rfl
  simpa [vEncS, sliceB] using this
theorem MatP.fc (h : MatP base b n gs M w) {g : Nat} (hg : g ∈ gs) (o : Nat) : w.frozen? ⟨g, o, none⟩ = false := by
  obtain ⟨i, r, _, _, ho⟩ := h.rowX hg
  exact Own.live ho o
end
def rmat (base b n : Nat) (gs : List Nat) (M : MatI) : Res := ⟨true, fun x => x = b ∨ x ∈ gs, fun w => MatP base b n gs M w, fun _ _ _ hg hr h => h.gb hg fun g e => hr g e⟩
section
variable {w0 A : World} {L : List Res} {base b n : Nat} {gs : List Nat} {M : MatI}
theorem Bun.mat0 (h : Bun w0 (rown vEncS 27 1 base (.slice (some ⟨b, 0, none⟩) n n) (List.replicate n (.slice none 0 0)) :: L) A) : Bun w0 (rmat base b n [] [] :: L) A := by
  have ho : Own vEncS 27 1 base A (.slice (some ⟨b, 0, none⟩) n n) (List.replicate n (.slice none 0 0)) := h.at 0 rfl
  refine h.wr (r' := rmat base b n [] []) rfl (gb_refl _ none) (fun _ e => by cases e) ⟨by simpa [outL] using ho, rfl, List.nodup_nil, by simp, fun i g r h => by simp at h⟩ fun g hg => ?_
  have hg' : g = b := hg.resolve_right (by simp)
  subst hg'
  exact ⟨.inl rfl, (ho.lt _ rfl).2⟩
/-- A row that has been made is laid in. -/
theorem Bun.matRow {g : Nat} {r : List Int} (h : Bun w0 (rown intEnc 3 1 base (.slice (some ⟨g, 0, none⟩) n n) r :: rmat base b n gs M :: L) A) (hl : gs.length < n) {k : Nat} (hk : gs.length = k) :
    Bun w0 (rmat base b n (gs ++ [g]) (M ++ [r]) :: L) (A.setCell ⟨b, k, none⟩ (.slice (some ⟨g, 0, none⟩) n n)) := by
  subst hk
  have hd := h.dis
  rw [List.pairwise_cons, List.pairwise_cons] at hd
  have ho : Own intEnc 3 1 base A (.slice (some ⟨g, 0, none⟩) n n) r := h.at 0 rfl
  have hm : MatP base b n gs M A := h.at 1 rfl
  have hgn : ¬ (g = b ∨ g ∈ gs) := hd.1 _ (.head _) (.inl rfl) g rfl
  have hgb : A.grownBy (A.setCell ⟨b, gs.length, none⟩ (.slice (some ⟨g, 0, none⟩) n n)) (some b) := gb_setCell (gb_refl A (some b)) (p := ⟨b, gs.length, none⟩) (.inl rfl) _
  have h2 := Own.set (sz := 1) (fun _ => rfl) hm.out (outL_next hl) (y := .slice (some ⟨g, 0, none⟩) n n) (j := 0) (u := .slice (some ⟨g, 0, none⟩) n n) (by decide) rfl
  rw [outL_set hl, Nat.mul_one, Nat.add_zero] at h2
  have ho' := ho.gb hgb (fun k e e' => by
    have e2 : some g = some k := e'
    injection e2 with e2
    injection e with e
    exact hgn (.inl (e2.trans e.symm)))
  have hm' : MatP base b n (gs ++ [g]) (M ++ [r]) (A.setCell ⟨b, gs.length, none⟩ (.slice (some ⟨g, 0, none⟩) n n)) := by
    refine ⟨h2, by simp [hm.lenM], ?_, ?_, fun i g' r' h3 h4 => ?_⟩
    · rw [List.nodup_append]
      refine ⟨hm.nd, by simp, fun a ha c hc => ?_⟩
      obtain rfl := List.mem_singleton.1 hc
      exact fun e => hgn (.inr (e ▸ ha))
    · intro hb
      rcases List.mem_append.1 hb with hb | hb
      · exact hm.nb hb
      · exact hgn (.inl (List.mem_singleton.1 hb).symm)
    · by_cases hi : i < gs.length
      · rw [List.getElem?_append_left hi] at h3
        rw [List.getElem?_append_left (by rw [hm.lenM]; exact hi)] at h4
        refine (hm.row i g' r' h3 h4).gb hgb (fun k e e' => ?_)
        have e2 : some g' = some k := e'
        injection e2 with e2
        injection e with e
        exact hm.nb (by rw [e, ← e2]; exact List.mem_of_getElem? h3)
      · rw [List.getElem?_append_right (by omega)] at h3
        rw [List.getElem?_append_right (by rw [hm.lenM]; omega)] at h4
        rw [hm.lenM] at h4
        obtain ⟨q, hq⟩ : ∃ q, i - gs.length = q := ⟨_, rfl⟩
        rw [hq] at h3 h4
        cases q with
        | zero =>
          simp at h3 h4
          subst h3 h4
          exact ho'
        | succ q => simp at h3
  have hs : (A.setCell ⟨b, gs.length, none⟩ (.slice (some ⟨g, 0, none⟩) n n)).heap.size = A.heap.size := by simp [World.setCell]
  refine ⟨fun x hx => ?_, fun x hx y hy => ?_, ?_, gb_trans' h.gb hgb fun q e => ?_⟩
  · rcases List.mem_cons.1 hx with rfl | hx
    · exact hm'
    · exact x.st _ _ _ hgb (fun q e hxq => by
        injection e with e
        subst e
        exact hd.2.1 x hx (.inl rfl) b (.inl rfl) hxq) (h.all x (.tail _ (.tail _ hx)))
  · rw [hs]
    rcases List.mem_cons.1 hx with rfl | hx
    · rcases hy with rfl | hy
      · exact h.bd _ (.tail _ (.head _)) y (.inl rfl)
      · rcases List.mem_append.1 hy with hy | hy
        · exact h.bd _ (.tail _ (.head _)) y (.inr hy)
        · obtain rfl := List.mem_singleton.1 hy
          exact h.bd _ (.head _) y rfl
    · exact h.bd x (.tail _ (.tail _ hx)) y hy
  · rw [List.pairwise_cons]
    refine ⟨fun x hx hmx y hy hxy => ?_, hd.2.2⟩
    rcases hy with rfl | hy
    · exact hd.2.1 x hx (.inl rfl) y (.inl rfl) hxy
    · rcases List.mem_append.1 hy with hy | hy
      · exact hd.2.1 x hx (.inl rfl) y (.inr hy) hxy
      · obtain rfl := List.mem_singleton.1 hy
        exact hd.1 x (.tail _ hx) (.inl rfl) y rfl hxy
  · injection e with e
    subst e
    exact .inr ((h.bd _ (.tail _ (.head _)) b (.inl rfl)).2 rfl)
/-- A number is written. -/
theorem Bun.matSet (h : Bun w0 (rmat base b n gs M :: L) A) {i g j : Nat} {r : List Int} {x : Int} (hi : gs[i]? = some g) (hr : M[i]? = some r) (hj : r[j]? = some x) (y : Int) :
    Bun w0 (rmat base b n gs (M.set i (r.set j y)) :: L) (A.setCell ⟨g, j, none⟩ (.int .i64 y)) := by
  have hm : MatP base b n gs M A := h.at 0 rfl
  have hgb : A.grownBy (A.setCell ⟨g, j, none⟩ (.int .i64 y)) (some g) := gb_setCell (gb_refl A (some g)) (p := ⟨g, j, none⟩) (.inl rfl) _
  have h2 := Own.set (sz := 1) (fun _ => rfl) (hm.row i g r hi hr) hj (y := y) (j := 0) (u := .int .i64 y) (by decide) rfl
  rw [Nat.mul_one, Nat.add_zero] at h2
  have hgm := List.mem_of_getElem? hi
  have hs : (A.setCell ⟨g, j, none⟩ (.int .i64 y)).heap.size = A.heap.size := by simp [World.setCell]
  have hil := (List.getElem?_eq_some_iff.1 hi).1
  refine h.wr (r' := rmat base b n gs (M.set i (r.set j y))) rfl hgb (fun q e => by injection e with e; subst e; exact .inr hgm) ⟨hm.out.gb hgb (fun k e e' => ?_), by rw [List.length_set]; exact hm.lenM, hm.nd, hm.nb, fun i' g' r' h3 h4 => ?_⟩ fun q hq => ?_
  · have e2 : some b = some k := e'
    injection e2 with e2
    injection e with e
    exact hm.nb (by rw [e2, ← e]; exact hgm)
  · rw [List.getElem?_set] at h4
    split at h4
    · rename_i e
      subst e
      rw [hi] at h3
      obtain rfl := Option.some.inj h3
      split at h4
      · obtain rfl := Option.some.inj h4
        exact h2
      · cases h4
    · rename_i hne
      refine (hm.row i' g' r' h3 h4).gb hgb (fun k e e' => ?_)
      have e2 : some g' = some k := e'
      injection e2 with e2
      injection e with e
      have e3 : g' = g := e2.trans e.symm
      rw [e3] at h3
      obtain ⟨a1, a2⟩ := List.getElem?_eq_some_iff.1 hi
      obtain ⟨b1, b2⟩ := List.getElem?_eq_some_iff.1 h3
      exact hne ((List.getElem_inj hm.nd).1 (a2.trans b2.symm))
  · exact ⟨.inl hq, by rw [hs]; exact (h.bd _ (.head _) q hq).1⟩
end
theorem flat_nils (n : Nat) : (List.replicate n (Value.slice none 0 0)).flatMap vEncS = List.replicate n (Value.slice none 0 0) := by
  induction n with
  | zero => rfl
  | succ n ih => rw [List.replicate_succ, List.flatMap_cons, ih]; rfl
theorem infoRI : (Try.prog.info? 27).map (fun i => (i.zero, i.size, i.bytes)) = some (some (.slice none 0 0), 1, 24) := by kernel_rfl
theorem okRI : ElemOk Try.prog 72 27 1 24 vEncS where
  under := Try.underlying72
  info := info5 infoRI rfl
  pos := by omega
  small := by omega
  len := fun _ => rfl
  one := fun x u hu => by
    simp [vEncS] at hu
    subst hu
    split
    · rename_i h
      cases x <;> first | rfl | cases h
    · rfl
theorem wpList_mkRows {ops : Array Oper} {rest : List Oper} {o : Oper} {a : Act} {Q : Exit → Act → World → Prop} {w0 w : World} {L : List Res} (hgd : o.guard = none) (l c : Operand) (ho : o.op = .makeSlice 72 l c)
    (n : Nat) (hl : a.eval l = .int .i64 (n : Int)) (hc : a.eval c = .int .i64 (n : Int)) (hB : Bun w0 L w) (hn : n ≤ 100000) (g : Nat) (hg : w.heap.size = g)
    (h : ∀ w', Bun w0 (rown vEncS 27 1 w0.heap.size (.slice (some ⟨g, 0, none⟩) n n) (List.replicate n (.slice none 0 0)) :: L) w' → w.heap.size ≤ w'.heap.size → wpList Try.prog ops Q rest (a.put o.dst (.slice (some ⟨g, 0, none⟩) n n)) w') : wpList Try.prog ops Q (o :: rest) a w := by
  obtain ⟨i, z, h2, h3, h4, h5, h6⟩ := okRI.info
  subst hg
  have ez : z = .slice none 0 0 := by
    have h7 : (Try.prog.info? 27).map (fun i => i.zero) = some (some (.slice none 0 0)) := by kernel_rfl
    rw [h2] at h7
    simp only [Option.map_some, Option.some.injEq] at h7
    rw [h3] at h7
    exact Option.some.inj h7
  subst ez
  refine wpList_make_full w hgd l c 72 ho w0.heap.size 27 i (.slice none 0 0) 1 Try.underlying72 h2 h3 h4 .i64 .i64 n n n hl hc rfl rfl (by rw [h5]; omega) (by unfold maxLen; omega) hB.gb.size fun w' hw hgb => ?_
  have e : (madeCells (Value.cells (.slice none 0 0)) (n * 1)).toList = (List.replicate n (Value.slice none 0 0)).flatMap vEncS := by
    rw [flat_nils]
    refine List.ext_getElem (by simp [madeCells]) fun j h1 h2 => ?_
    simp [madeCells, Value.cells, Nat.mod_one]
  rw [e] at hw
  have ho' : Own vEncS 27 1 w0.heap.size w' (.slice (some ⟨w.heap.size, 0, none⟩) n n) (List.replicate n (.slice none 0 0)) := by
    unfold Own
    rw [List.length_replicate]
    exact hw
  refine h w' (hB.add _ hgb ho' fun g hx => ?_) hgb.size
  have hx' : some w.heap.size = some g := hx
  injection hx' with hx'
  subst hx'
  exact ⟨Nat.le_refl _, (ho'.lt _ hx).2⟩
end Go.Proofs.Ytokelpmngahnoaa
