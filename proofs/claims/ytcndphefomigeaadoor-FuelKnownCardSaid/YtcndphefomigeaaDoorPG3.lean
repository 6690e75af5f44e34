/- A strings.Builder of the call's own among what is in hand; a table that start-up code has laid. -/
import Derived.Test.YtcndphefomigeaaDoorPBun
import Derived.Shelf.Strings.BuilderK
import Derived.Lib.LaidTab
import Derived.Shelf.Strings.Builder1
set_option linter.unusedVariables false
set_option linter.unusedSimpArgs false
set_option linter.unnecessarySimpa false
namespace Go.Proofs.YtcndphefomigeaaDoor
open Go.RowKit Go.Shelf

/-- A builder: its block, what its two cells hold, its bytes. -/
def rbld (T e : TypeId) (B b : Nat) (p v : Value) (bs : List Value) : Res :=
  ⟨true, fun x => x = b ∨ v.ownBlock = some x, fun w => B ≤ b ∧ w.heap[b]? = some (.cells #[p, v] T (0, 0)) ∧ w.ownsRowF B e 1 v bs.length bs ∧ v.ownBlock ≠ some b, fun A C r hg hr h => by
    obtain ⟨h1, h2, h3, h4⟩ := h
    have hlt := (Array.getElem?_eq_some_iff.1 h2).1
    refine ⟨h1, (hg.block b hlt fun e => hr b e.symm (.inl rfl)).trans h2, h3.kept hg ?_, h4⟩
    cases hv : v.ownBlock with
    | none => exact .inl rfl
    | some k => exact .inr fun e => hr k e.symm (.inr hv)⟩
theorem rbld_is {T e : TypeId} {B b : Nat} {v : Value} {bs : List Value} {A : World} (h : (rbld T e B b (.pointer none) v bs).P A) : Lib.IsBuilderF T e B b bs A :=
  .inl ⟨h.1, v, h.2.1, h.2.2.1, h.2.2.2⟩
theorem rbld_at {T e : TypeId} {B b : Nat} {v : Value} {bs : List Value} {A : World} (h : (rbld T e B b (.pointer (some ⟨b, 0, none⟩)) v bs).P A) : Lib.IsBuilderF T e B b bs A :=
  .inr ⟨h.1, v, h.2.1, h.2.2.1, h.2.2.2⟩
/-- What a builder's call leaves as it was. -/
structure Other (e : TypeId) (B : Nat) (r : Res) : Prop where
  keep : ∀ A C b, Below B A C → Lib.OthersKept e (some b) A C → ¬ r.X b → r.P A → r.P C
  apart : ∀ W g, r.P W → r.X g → g < B ∨ ∀ c fz, W.heap[g]? ≠ some (.cells c e fz)
theorem other_box {e : TypeId} {B g : Nat} {t : TypeId} {cs : Array Value} (h : t ≠ e) : Other e B (rbox g t cs) where
  keep A C b _ ho hx hp := by
    have hp' : A.heap[g]? = some (.cells cs t) := hp
    exact ho g _ hp' (fun e_ => hx (by injection e_ with e_; exact e_.symm)) fun c fz e_ => by injection e_ with _ e2; exact h e2
  apart W x hp hx := by
    have hp' : W.heap[g]? = some (.cells cs t) := hp
    obtain rfl : x = g := hx
    refine .inr fun c fz e_ => ?_
    rw [hp'] at e_
    injection e_ with e_
    injection e_ with _ e2
    exact h e2
theorem Sl.belowB {α : Type} {enc : α → List Value} {sz lo hi B : Nat} {A C : World} {v : Value} {l : List α} (h : Sl enc sz lo hi A v l) (hb : Below B A C) (hh : hi ≤ B) : Sl enc sz lo hi C v l := by
  obtain ⟨h1, a, c, h2, h3⟩ := h
  refine ⟨h1, a, c, h2, ?_⟩
  rcases h3 with h3 | ⟨b, off, h4, h5, h6, h7⟩
  · exact .inl h3
  · refine .inr ⟨b, off, h4, h5, h6, fun i x hi j u hj => ?_⟩
    rw [World.cell?_of_block (hb.block b (by omega))]
    exact h7 i x hi j u hj
theorem other_sl {α : Type} {enc : α → List Value} {sz lo hi B : Nat} {e : TypeId} {v : Value} {l : List α} (h : hi ≤ B) : Other e B (rsl enc sz lo hi v l) where
  keep _ _ _ hb _ _ hp := Sl.belowB hp hb h
  apart _ g _ hx := .inl (by have : lo ≤ g ∧ g < hi := hx; omega)
/-- A table of numbers that start-up code has laid: its block lies below hi. -/
def rtab (P : Program) (hi : Nat) (name : String) (k : IntKind) (zs : List Int) : Res :=
  ⟨false, fun x => x < hi, fun w => (∀ g, P.globalNamed name = some g → g < hi ∧ hi ≤ w.heap.size) ∧ Lib.TabIs P w name k zs, fun A C r hg hr h => by
    obtain ⟨h1, h2⟩ := h
    refine ⟨fun g e => ⟨(h1 g e).1, Nat.le_trans (h1 g e).2 hg.size⟩, ?_⟩
    unfold Lib.TabIs World.var? at h2 ⊢
    cases hn : P.globalNamed name with
    | none => rw [hn] at h2; simp at h2
    | some g =>
      have h3 := h1 g hn
      rw [hn] at h2
      simp only [Option.bind_some] at h2 ⊢
      rw [hg.block g (by omega) fun e => hr g e.symm h3.1]
      exact h2⟩
theorem other_tab {P : Program} {e : TypeId} {hi B : Nat} {name : String} {k : IntKind} {zs : List Int} (h : hi ≤ B) : Other e B (rtab P hi name k zs) where
  keep A C b hb _ _ hp := by
    obtain ⟨h1, h2⟩ := hp
    refine ⟨fun g e => ⟨(h1 g e).1, Nat.le_trans (h1 g e).2 hb.size⟩, ?_⟩
    unfold Lib.TabIs World.var? at h2 ⊢
    cases hn : P.globalNamed name with
    | none => rw [hn] at h2; simp at h2
    | some g =>
      have h3 := h1 g hn
      rw [hn] at h2
      simp only [Option.bind_some] at h2 ⊢
      rw [hb.block g (by omega)]
      exact h2
  apart _ g _ hx := .inl (by have : g < hi := hx; omega)
/-- What is in hand behind a call of a builder. -/
theorem Bun.bld {w0 A C : World} {L : List Res} {T e : TypeId} {B b : Nat} {p v q : Value} {bs bs' : List Value} (h : Bun w0 (rbld T e B b p v bs :: L) A) (hB : w0.heap.size ≤ B) (hat : Lib.BuilderAtF T e B b q bs' C) (hb : Below B A C) (ho : Lib.OthersKept e (some b) A C) (hL : ∀ r ∈ L, Other e B r) : ∃ v', Bun w0 (rbld T e B b q v' bs' :: L) C := by
  obtain ⟨h1, v', h2, h3, h4⟩ := hat
  have hd := h.dis
  rw [List.pairwise_cons] at hd
  have hP : ∀ r ∈ L, r.P C := fun r hr => (hL r hr).keep A C b hb ho (hd.1 r hr (.inl rfl) b (.inl rfl)) (h.all r (.tail _ hr))
  have hlt := (Array.getElem?_eq_some_iff.1 h2).1
  refine ⟨v', fun r hr => ?_, fun r hr g hx => ?_, ?_, ?_⟩
  · rcases List.mem_cons.1 hr with rfl | hr
    · exact ⟨h1, h2, h3, h4⟩
    · exact hP r hr
  · rcases List.mem_cons.1 hr with rfl | hr
    · rcases hx with rfl | hx
      · exact ⟨hlt, fun _ => by omega⟩
      · obtain ⟨a1, a2⟩ := h3.lt g hx
        exact ⟨a2, fun _ => by omega⟩
    · obtain ⟨a1, a2⟩ := h.bd r (.tail _ hr) g hx
      exact ⟨Nat.lt_of_lt_of_le a1 hb.size, a2⟩
  · rw [List.pairwise_cons]
    refine ⟨fun r hr _ g hx hy => ?_, hd.2⟩
    rcases hx with rfl | hx
    · exact hd.1 r hr (.inl rfl) g (.inl rfl) hy
    · obtain ⟨a1, a2⟩ := h3.lt g hx
      rcases (hL r hr).apart C g (hP r hr) hy with h5 | h5
      · omega
      · rcases h3 with ⟨_, ⟨rfl, _⟩ | ⟨g', cap, cur, fz, rfl, _, h6, _⟩⟩
        · cases hx
        · have e1 : g' = g := by simpa [Value.ownBlock] using hx
          subst e1
          exact h5 _ _ h6
  · exact ⟨hb.os.trans h.gb.os, hb.tape.trans h.gb.tape, hb.output.trans h.gb.output, Nat.le_trans h.gb.size hb.size, fun k hk hne => (hb.block k (by omega)).trans (h.gb.block k hk hne)⟩
/-- A fresh builder. -/
theorem Bun.bld0 {w0 A : World} {L : List Res} {T e : TypeId} {b : Nat} (h : Bun w0 (rbox b T #[.pointer none, .slice none 0 0] :: L) A) : Bun w0 (rbld T e w0.heap.size b (.pointer none) (.slice none 0 0) [] :: L) A := by
  have hd := h.dis
  rw [List.pairwise_cons] at hd
  have h0 : A.heap[b]? = some (.cells #[.pointer none, .slice none 0 0] T) := h.all _ (.head _)
  have hbd := h.bd _ (.head _) b rfl
  refine ⟨fun r hr => ?_, fun r hr g hx => ?_, ?_, h.gb⟩
  · rcases List.mem_cons.1 hr with rfl | hr
    · exact ⟨hbd.2 rfl, h0, World.ownsRowF_nil _ _ _ _, fun e => by cases e⟩
    · exact h.all r (.tail _ hr)
  · rcases List.mem_cons.1 hr with rfl | hr
    · rcases hx with rfl | hx
      · exact hbd
      · cases hx
    · exact h.bd r (.tail _ hr) g hx
  · rw [List.pairwise_cons]
    refine ⟨fun r hr _ g hx => ?_, hd.2⟩
    rcases hx with rfl | hx
    · exact hd.1 r hr (.inl rfl) g rfl
    · cases hx
end Go.Proofs.YtcndphefomigeaaDoor
/- A strings.Builder's calls: what each leaves. -/
namespace Go.Proofs.YtcndphefomigeaaDoor
open Go.RowKit Go.Shelf
set_option maxRecDepth 100000

theorem infoBld : ∃ j, Tryd.prog.info? 95 = some j ∧ j.size ≠ 0 := by
  have h : (Tryd.prog.info? 95).map (fun i => decide (i.size ≠ 0)) = some true := by kernel_rfl
  obtain ⟨j, h1, h2⟩ := Option.map_eq_some_iff.1 h
  exact ⟨j, h1, by simpa using h2⟩
theorem liesBld : liesAt Tryd.prog Tryd.prog.depth 95 (2 / Tryd.prog.cellsOf 95) 0 95 1 = true := by kernel_rfl
set_option maxHeartbeats 4000000 in
theorem bld_used (b : Nat) (w : World) (h0 : w.cell? ⟨b, 0, none⟩ = some (.pointer (some ⟨b, 0, none⟩))) :
    Calls Tryd.prog 61 #[.pointer (some ⟨b, 0, none⟩)] w fun e w' => e = .returned (.tuple #[]) ∧ w' = w := by
  obtain ⟨j, hj, _⟩ := infoBld
  go_enter Tryd.func61, Tryd.ntmps61
  go_wp2
  rw [Lib.run_neq_ptr_same w _ Tryd.underlying92 hj]
  go_wp2
  go_end0
  exact ⟨rfl, rfl⟩
set_option maxHeartbeats 4000000 in
theorem bld_fresh (b : Nat) (w : World) (h0 : w.cell? ⟨b, 0, none⟩ = some (.pointer none)) (hsh : w.shape? b = some (95, 2)) (hfz : w.frozen? ⟨b, 0, none⟩ = false) :
    Calls Tryd.prog 61 #[.pointer (some ⟨b, 0, none⟩)] w fun e w' => e = .returned (.tuple #[]) ∧ w' = w.setCell ⟨b, 0, none⟩ (.pointer (some ⟨b, 0, none⟩)) := by
  obtain ⟨j, hj, hjs⟩ := infoBld
  go_enter Tryd.func61, Tryd.ntmps61
  go_wp2
  rw [Lib.run_to_unsafe w ⟨b, 0, none⟩ Tryd.underlying92 Tryd.underlying136 hj hjs hsh (Nat.zero_lt_succ 1)]
  simp only [Result.andThen]
  rw [Oper.upon_value]
  go_wp2
  rw [run_callFunc_extern Tryd.func73 (by kernel_rfl) (by kernel_rfl) (by kernel_rfl) (e := Extern.AbiNoEscape.same) (by kernel_rfl)]
  rw [Lib.run_noEscape]
  simp only [Result.andThen]
  rw [Oper.upon_value]
  go_wp2
  rw [Lib.run_from_unsafe w ⟨b, 0, none⟩ Tryd.underlying136 Tryd.underlying92 hj hsh liesBld]
  simp only [Result.andThen]
  rw [Oper.upon_value]
  go_wp2
  go_end0
  exact ⟨rfl, rfl⟩
theorem bld_check (B b : Nat) (bs : List Value) (w : World) (h : Lib.IsBuilderF 95 5 B b bs w) :
    Calls Tryd.prog 61 #[.pointer (some ⟨b, 0, none⟩)] w fun e w' => e = .returned (.tuple #[]) ∧ Lib.BuilderAtF 95 5 B b (.pointer (some ⟨b, 0, none⟩)) bs w' ∧ Below B w w' ∧ Lib.OthersKept 5 (some b) w w' := by
  rcases h with h | h
  · refine (bld_fresh b w h.cell0 h.shape h.frozen0).mono ?_
    rintro e w' ⟨rfl, rfl⟩
    exact ⟨rfl, h.used _, (Below.refl B w).setCell (p := ⟨b, 0, none⟩) h.1 _, (Lib.OthersKept.refl _ _ w).setCell ⟨b, 0, none⟩ rfl _⟩
  · refine (bld_used b w h.cell0).mono ?_
    rintro e w' ⟨rfl, rfl⟩
    exact ⟨rfl, h, Below.refl B _, Lib.OthersKept.refl _ _ _⟩
theorem infoU8 : (Tryd.prog.info? 5).map (fun i => (i.zero, i.size, i.bytes)) = some (some (.int .u8 0), 1, 1) := by kernel_rfl
set_option maxHeartbeats 4000000 in
theorem bld_str (B b : Nat) (bs : List Value) (s : ByteArray) (w : World) (h : Lib.IsBuilderF 95 5 B b bs w) (hlen : bs.length + s.size ≤ 140737488355328) (hBw : B ≤ w.heap.size) :
    Calls Tryd.prog 43 #[.pointer (some ⟨b, 0, none⟩), .string s] w fun e w' => e = .returned (.tuple #[.int .i64 s.size, .nilIface]) ∧ Lib.BuilderAtF 95 5 B b (.pointer (some ⟨b, 0, none⟩)) (bs ++ Lib.strCells s) w' ∧ Below B w w' ∧ Lib.OthersKept 5 (some b) w w' := by
  obtain ⟨i0, hi, hz⟩ := Option.map_eq_some_iff.1 infoU8
  have hz0 : i0.zero = some (.int .u8 0) := congrArg (·.1) hz
  have hz1 : i0.size = 1 := congrArg (·.2.1) hz
  have hz2 : i0.bytes = 1 := congrArg (·.2.2) hz
  clear hz
  go_enter Tryd.func43, Tryd.ntmps43
  go_wp2_with (go_at_call 61; refine (bld_check B b bs _ h).mono ?_)
  rintro e w1 ⟨rfl, h1, hb1, hk1⟩
  obtain ⟨hB, v, hbk, hown, hne⟩ := h1
  have c0 : w1.cell? ⟨b, 0, none⟩ = some (.pointer (some ⟨b, 0, none⟩)) := by rw [Lib.cell_of_heap hbk]; rfl
  have c1 : w1.cell? ⟨b, 1, none⟩ = some v := by rw [Lib.cell_of_heap hbk]; rfl
  go_wp2_with (at_builtin; refine Lib.wpList_append_own_stringF _ rfl _ _ 93 9 rfl B 5 i0 Tryd.underlying93 Tryd.underlying9 hi hz0 hz1 hz2 _ _ _ rfl hown s rfl ?c3 ?c4 ?c5 ?_)
  case c3 => unfold maxLen; omega
  case c4 => omega
  case c5 => have := hb1.size; omega
  intro v' w2 hown' hgrow _
  have hlt := (Array.getElem?_eq_some_iff.1 hbk).1
  have hb2 : w2.heap[b]? = some (.cells #[.pointer (some ⟨b, 0, none⟩), v] 95 (0, 0)) := (hgrow.block b hlt (fun e => hne e.symm)).trans hbk
  have d0 : w2.cell? ⟨b, 0, none⟩ = some (.pointer (some ⟨b, 0, none⟩)) := by rw [Lib.cell_of_heap hb2]; rfl
  have d1 : w2.cell? ⟨b, 1, none⟩ = some v := by rw [Lib.cell_of_heap hb2]; rfl
  have f1 : w2.frozen? ⟨b, 1, none⟩ = false := Lib.frozen_of_heap hb2 1
  obtain ⟨ao, n', cap, rfl⟩ : ∃ ao n' cap, v' = .slice ao n' cap := by
    rcases hown'.2 with ⟨hv, _⟩ | ⟨g, cap, cur, fz, hv, _⟩
    · exact ⟨_, _, _, hv⟩
    · exact ⟨_, _, _, hv⟩
  go_wp2
  go_ret2
  refine ⟨rfl, ?_, ?_, (hk1.grown hgrow (Lib.ownsRowF_kind hown)).setCell ⟨b, 1, none⟩ rfl _⟩
  · exact Lib.BuilderAtF.put (T := 95) (e := 5) hB hb2 (bs' := bs ++ Lib.strCells s) (by simpa [Lib.strCells_length] using hown') (by decide)
  · exact (hb1.grown hgrow (by have := hb1.size; omega) (fun k hk => (hown.lt k hk).1)).setCell (p := ⟨b, 1, none⟩) hB _
/-- .. of what is in hand. -/
theorem bun_str {w0 A : World} {L : List Res} {b : Nat} {p v : Value} {bs : List Value} (h : Bun w0 (rbld 95 5 w0.heap.size b p v bs :: L) A) (hp : p = .pointer none ∨ p = .pointer (some ⟨b, 0, none⟩)) (s : ByteArray) (hlen : bs.length + s.size ≤ 140737488355328) (hL : ∀ r ∈ L, Other 5 w0.heap.size r) :
    Calls Tryd.prog 43 #[.pointer (some ⟨b, 0, none⟩), .string s] A fun e w' => e = .returned (.tuple #[.int .i64 s.size, .nilIface]) ∧ ∃ v', Bun w0 (rbld 95 5 w0.heap.size b (.pointer (some ⟨b, 0, none⟩)) v' (bs ++ Lib.strCells s) :: L) w' ∧ A.heap.size ≤ w'.heap.size := by
  have h1 := h.all _ (.head _)
  refine (bld_str w0.heap.size b bs s A (by rcases hp with rfl | rfl; exact rbld_is h1; exact rbld_at h1) hlen h.gb.size).mono ?_
  rintro e w' ⟨rfl, h2, h3, h4⟩
  obtain ⟨v', hB⟩ := h.bld (Nat.le_refl _) h2 h3 h4 hL
  exact ⟨rfl, v', hB, h3.size⟩
end Go.Proofs.YtcndphefomigeaaDoor
