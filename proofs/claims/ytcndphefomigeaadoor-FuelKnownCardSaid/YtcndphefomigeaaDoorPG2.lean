/- awake: the chapter's examples that every statement asks. -/
import Derived.Test.YtcndphefomigeaaDoorPAwake
import Derived.Deep.RegionHeld3
import Derived.Test.YtcndphefomigeaaDoorPMem
set_option linter.unusedVariables false
set_option linter.unusedSimpArgs false
set_option linter.unnecessarySimpa false
namespace Go.Proofs.YtcndphefomigeaaDoor
open Go.RowKit Go.Shelf
set_option maxRecDepth 100000
attribute [local go_sem] run_store_func

def bookB : Bok := ⟨bookA, bookM⟩
theorem bookB_form : formedE bookB = 0 := by decide +kernel
theorem bookB_calm : calm bookB (2 ^ bookB.accs.length) := by unfold calm; decide +kernel
theorem bookB_check : checkE bookB = 0 := by rw [checkE, if_pos bookB_form, if_pos bookB_calm]
theorem bookB_l : lossL bookB = [⟨0, 10⟩, ⟨0, 30⟩, ⟨0, 0⟩] := by decide +kernel
theorem bookB_t : lossT bookB = ⟨0, 30⟩ := by decide +kernel
theorem bookB_names : nameOk bookA := by unfold nameOk; decide +kernel
theorem tankB_v : volV [0, 1000, 2000] [0, 5000, 12000] 500 1500 = .tuple #[.agg #[.int .i64 2500, .int .i64 8500], .int .i64 0] := by
  rw [volV_ok (by decide +kernel), show volLo [0, 1000, 2000] [0, 5000, 12000] 500 = 2500 by decide +kernel, show volHi [0, 1000, 2000] [0, 5000, 12000] 1500 = 8500 by decide +kernel]

theorem wakeSpans (w : World) : Sps 0 (w.alloc (.cells #[.int .i64 0, .int .i64 10, .int .i64 0, .int .i64 30, .int .i64 0, .int .i64 0] 23)).heap.size
    (w.alloc (.cells #[.int .i64 0, .int .i64 10, .int .i64 0, .int .i64 30, .int .i64 0, .int .i64 0] 23)) (.slice (some ⟨w.heap.size, 0, none⟩) 3 3) ([⟨0, 10⟩, ⟨0, 30⟩, ⟨0, 0⟩] : List Sp) :=
  Sl.of_bk (l := ([⟨0, 10⟩, ⟨0, 30⟩, ⟨0, 0⟩] : List Sp)) (Bk.new w _ _) rfl (fun _ => rfl) (by decide) (Nat.zero_le _) (Bk.new w 23 #[.int .i64 0, .int .i64 10, .int .i64 0, .int .i64 30, .int .i64 0, .int .i64 0]).lt
theorem awake_c (w : World) : Calls Tryd.prog 10 #[] w (Ret (.bool true) w) := by
  go_enter Tryd.func10, Tryd.ntmps10
  go_wp2_with fail
  refine (book_c _).mono ?_
  rintro e w1 ⟨va, vm, rfl, ha, hm, hg1⟩
  obtain ⟨a, c, eva⟩ := ha.any
  obtain ⟨a', c', evm⟩ := hm.any
  subst eva evm
  have HD := Lib.hid (And.intro ha hm)
  clear ha hm
  go_wp2_with fail
  refine (fLosses_c _ _ _ _ _ _ bookB _ HD.out.1 HD.out.2 bookB_names (Nat.le_refl _) (Nat.le_refl _)).mono ?_
  rintro e w2 (⟨h, _⟩ | ⟨_, v, rfl, ho, hg2⟩)
  · exact absurd bookB_check h
  rw [bookB_l] at ho
  have hs := ho.sl (fun _ => rfl)
  obtain ⟨b, o, c, rfl, _, _, _⟩ := hs.form (by decide)
  have HS := Lib.hid hs
  have hG2 := gb_trans hg1 hg2
  clear ho hs hg1 hg2
  rw [bookB_t]
  simp only [Sp.v, List.length_cons, List.length_nil]
  have hb1 := Bk.new w2 23 #[.int .i64 0, .int .i64 30]
  go_wp2_with fail
  refine (tank_c _).mono ?_
  rintro e w3 ⟨vh, vl, rfl, hh, hl, hg3⟩
  replace hb1 := hb1.gb hg3 (by simp)
  obtain ⟨a1, c1, e1⟩ := hh.any
  obtain ⟨a2, c2, e2⟩ := hl.any
  subst e1 e2
  replace HS := Lib.hid ((HS.out.alloc (.cells #[.int .i64 0, .int .i64 30] 23)).gb hg3 (fun _ e => by cases e))
  replace hG2 := gb_trans (gb_alloc hG2 (.cells #[.int .i64 0, .int .i64 30] 23)) hg3
  have HT := Lib.hid (And.intro hh hl)
  clear hh hl hg3
  go_wp2_with fail
  refine (span_c _ _ _).mono ?_
  rintro e w4 ⟨rfl, hg4⟩
  replace hb1 := hb1.gb hg4 (by simp)
  replace HS := Lib.hid (HS.out.gb hg4 (fun _ e => by cases e))
  replace hG2 := gb_trans hG2 hg4
  have HT2 := Lib.hid (And.intro (HT.out.1.gb hg4 (fun _ e => by cases e)) (HT.out.2.gb hg4 (fun _ e => by cases e)))
  have hz4 := hg4.size
  clear hg4 HT
  go_wp2_with fail
  refine (volume_c _ _ _ _ _ _ _ _ _ _ _ HT2.out.1 HT2.out.2 (by omega) (by omega)).mono ?_
  rintro e w5 ⟨rfl, hg5⟩
  replace hb1 := hb1.gb hg5 (by simp)
  replace HS := Lib.hid (HS.out.gb hg5 (fun _ e => by cases e))
  replace hG2 := gb_trans hG2 hg5
  clear hg5 HT2 hz4
  rw [tankB_v]
  have hb2 := Bk.new w5 23 #[.int .i64 2500, .int .i64 8500]
  replace hb1 := hb1.alloc (.cells #[.int .i64 2500, .int .i64 8500] 23)
  have q1 := hb1.c2
  have q2 := hb2.c2
  go_wp2_with fail
  replace hG2 := gb_drew (gb_alloc hG2 (.cells #[.int .i64 2500, .int .i64 8500] 23))
  replace HS := Lib.hid ((HS.out.alloc (.cells #[.int .i64 2500, .int .i64 8500] 23)).drew)
  replace hb1 := hb1.drew
  replace hb2 := hb2.drew
  go_region_held3 (fun W => W.cell? ⟨w2.heap.size, 0, none⟩ = some (.int .i64 0) ∧ W.cell? ⟨w2.heap.size, 1, none⟩ = some (.int .i64 30) ∧ W.cell? ⟨w5.heap.size, 0, none⟩ = some (.int .i64 2500) ∧ W.cell? ⟨w5.heap.size, 1, none⟩ = some (.int .i64 8500)) (go_keep)
    (first
    | (go_at_call 8; refine (span_c _ _ _).mono ?_; rintro e w6 ⟨rfl, hg⟩; replace hb1 := hb1.gb hg (by simp); replace hb2 := hb2.gb hg (by simp); replace q1 := hb1.c2; replace q2 := hb2.c2; replace HS := Lib.hid (HS.out.gb hg (fun _ e => by cases e)); replace hG2 := gb_trans hG2 hg; clear hg)
    | (go_at_call 26; refine (sameSpans_c _ _ _ _ _ _ [⟨0, 10⟩, ⟨0, 30⟩, ⟨0, 0⟩] [⟨0, 10⟩, ⟨0, 30⟩, ⟨0, 0⟩] _ (HS.out.alloc _) (wakeSpans _)).mono ?_; rintro e w7 ⟨rfl, hg⟩; rw [sameS_self]; replace hb1 := (hb1.alloc _).gb hg (by simp); replace hb2 := (hb2.alloc _).gb hg (by simp); replace q1 := hb1.c2; replace q2 := hb2.c2; replace hG2 := gb_trans (gb_alloc hG2 _) hg; clear hg))
  go_wp2_with fail
  go_ret
  exact ⟨rfl, hG2⟩
end Go.Proofs.YtcndphefomigeaaDoor
/- A statement's own frame: its seed, its boxes, what it was handed or has made, in the world at hand. -/
namespace Go.Proofs.YtcndphefomigeaaDoor
open Go.RowKit

/-- sb: the seed's block; X: the blocks of what E speaks of; bx: the statement's boxes (block, type, cells); w0: the world at its start. -/
structure SF (w0 : World) (sb : Option Nat) (X : Nat → Prop) (E : World → Prop) (bx : List (Nat × TypeId × Array Value)) (w : World) : Prop where
  seed : ∀ s, sb = some s → SeedAt w s ∧ w0.heap.size ≤ s ∧ ¬ X s
  box : ∀ b ∈ bx, Bk w b.1 b.2.1 b.2.2 ∧ some b.1 ≠ sb ∧ ¬ X b.1 ∧ w0.heap.size ≤ b.1
  nodup : (bx.map (·.1)).Nodup
  ext : E w
  mono : ∀ (A B : World) (r : Option Nat), A.grownBy B r → (∀ g, r = some g → ¬ X g) → E A → E B
  old : ∀ g, X g → g < w.heap.size
  gb : w0.grownBy w none
section
variable {w0 A B : World} {sb : Option Nat} {X : Nat → Prop} {E : World → Prop} {bx : List (Nat × TypeId × Array Value)}
theorem SF.row (h : SF w0 sb X E bx A) {r : Option Nat} (hg : A.grownBy B r) (hX : ∀ g, r = some g → ¬ X g ∧ w0.heap.size ≤ g) (hs : ∀ s, sb = some s → SeedAt B s) (hb : ∀ b ∈ bx, some b.1 ≠ r) : SF w0 sb X E bx B :=
  ⟨fun s e => ⟨hs s e, (h.seed s e).2⟩, fun b hm => ⟨(h.box b hm).1.gb hg (hb b hm), (h.box b hm).2⟩, h.nodup, h.mono A B r hg (fun g e => (hX g e).1) h.ext, h.mono,
    fun g hg' => Nat.lt_of_lt_of_le (h.old g hg') hg.size, gb_trans' h.gb hg fun g e => .inr (hX g e).2⟩
theorem SF.gn (h : SF w0 sb X E bx A) (hg : A.grownBy B none) : SF w0 sb X E bx B :=
  h.row hg (fun _ e => by cases e) (fun s e => (h.seed s e).1.gb hg (by simp)) (fun _ _ => by simp)
theorem SF.drew (h : SF w0 sb X E bx A) : SF w0 sb X E bx A.drew := h.gn (gb_drew (gb_refl _ _))
theorem SF.drewN (h : SF w0 sb X E bx A) (n : Nat) : SF w0 sb X E bx (A.drewN n) := h.gn (gb_drewN (gb_refl _ _) n)
theorem SF.alloc (h : SF w0 sb X E bx A) (o : Obj) : SF w0 sb X E bx (A.alloc o) := h.gn (gb_alloc (gb_refl _ _) o)
theorem SF.new (h : SF w0 sb X E bx A) (t : TypeId) (cs : Array Value) : SF w0 sb X E ((A.heap.size, t, cs) :: bx) (A.alloc (.cells cs t)) := by
  have h' := h.alloc (.cells cs t)
  refine ⟨h'.seed, fun b hm => ?_, ?_, h'.ext, h'.mono, h'.old, h'.gb⟩
  · rcases List.mem_cons.1 hm with rfl | hm
    · exact ⟨Bk.new A t cs, fun e => by have := (h.seed _ e.symm).1.lt; omega, fun hx => by have := h.old _ hx; omega, h.gb.size⟩
    · exact h'.box b hm
  · rw [List.map_cons, List.nodup_cons]
    refine ⟨fun hm => ?_, h.nodup⟩
    obtain ⟨b, hb, e⟩ := List.mem_map.1 hm
    have := (h.box b hb).1.lt
    omega
theorem SF.newAt (h : SF w0 sb X E bx A) (t : TypeId) (cs : Array Value) {n : Nat} (hn : A.heap.size = n) : SF w0 sb X E ((n, t, cs) :: bx) (A.alloc (.cells cs t)) := hn ▸ h.new t cs
theorem SF.set {g : Nat} {t : TypeId} {cs : Array Value} (h : SF w0 sb X E ((g, t, cs) :: bx) A) (i : Nat) (u : Value) : SF w0 sb X E ((g, t, cs.setIfInBounds i u) :: bx) (A.setCell ⟨g, i, none⟩ u) := by
  have hg := gb_setCell (gb_refl A (some g)) (p := ⟨g, i, none⟩) (.inl rfl) u
  have h0 := h.box (g, t, cs) (by simp)
  have hnd := h.nodup
  rw [List.map_cons, List.nodup_cons] at hnd
  refine ⟨fun s e => ⟨(h.seed s e).1.far (fun e' => h0.2.1 (by rw [e, e'])) _, (h.seed s e).2⟩, fun b hm => ?_, ?_, h.mono A _ _ hg (fun g' e => by cases e; exact h0.2.2.1) h.ext, h.mono, fun g' hx => Nat.lt_of_lt_of_le (h.old g' hx) hg.size,
    gb_trans' h.gb hg fun g' e => by cases e; exact .inr h0.2.2.2⟩
  · rcases List.mem_cons.1 hm with rfl | hm
    · exact ⟨h0.1.set i u, h0.2⟩
    · have hb := h.box b (by simp [hm])
      exact ⟨hb.1.far (fun e => hnd.1 (List.mem_map.2 ⟨b, hm, e⟩)) _, hb.2⟩
  · rw [List.map_cons, List.nodup_cons]
    exact hnd
theorem SF.perm {bx' : List (Nat × TypeId × Array Value)} (h : SF w0 sb X E bx A) (hp : bx.Perm bx') : SF w0 sb X E bx' A :=
  ⟨h.seed, fun b hm => h.box b (hp.mem_iff.2 hm), (hp.map _).nodup_iff.1 h.nodup, h.ext, h.mono, h.old, h.gb⟩
theorem SF.sub {bx' : List (Nat × TypeId × Array Value)} (h : SF w0 sb X E bx A) (hp : bx'.Sublist bx) : SF w0 sb X E bx' A :=
  ⟨h.seed, fun b hm => h.box b (hp.subset hm), List.Nodup.sublist (hp.map _) h.nodup, h.ext, h.mono, h.old, h.gb⟩
end
/-- A cell of a slice of ints whose address is known. -/
theorem Ints.cell {lo hi : Nat} {w : World} {x ox n c : Nat} {l : List Int} (h : Ints lo hi w (.slice (some ⟨x, ox, none⟩) n c) l) {i : Nat} (hi' : i < l.length) : w.cell? ⟨x, ox + i, none⟩ = some (.int .i64 (gi l i)) := by
  obtain ⟨x', ox', c', ev, _, _, H⟩ := Ints.at h (by omega)
  injection ev with e1 _ e2
  injection e1 with e1
  injection e1 with e3 e4
  subst e3 e4
  exact H i hi'
end Go.Proofs.YtcndphefomigeaaDoor
