/- The chapter's example of a book and of a tank, Losses, and awake. -/
import Derived.Test.YtcndphefomigeaaDoorPLoss
import Derived.Test.YtcndphefomigeaaDoorPKT
import Derived.Test.YtcndphefomigeaaDoorPKD
import Derived.Test.YtcndphefomigeaaDoorPG1
set_option linter.unusedVariables false
set_option linter.unusedSimpArgs false
set_option linter.unnecessarySimpa false
namespace Go.Proofs.YtcndphefomigeaaDoor
open Go.RowKit Go.Shelf
set_option maxRecDepth 100000
attribute [local go_sem] run_store_func

theorem span_c (lo hi : Int) (w : World) : Calls Tryd.prog 8 #[.int .i64 lo, .int .i64 hi] w (Ret (.agg #[.int .i64 lo, .int .i64 hi]) w) := by
  go_enter Tryd.func8, Tryd.ntmps8
  go_wp2_with fail
  exact bodyPost_ret (v := .agg #[.int .i64 lo, .int .i64 hi]) (by simp [results, Tryd.results8, go_sem]) rfl ⟨rfl, gb_alloc (gb_refl _ _) _⟩
theorem one_c (n : Int) (w : World) : Calls Tryd.prog 7 #[.int .i64 n] w (Ret (.agg #[.int .i64 n, .int .i64 n]) w) := by
  go_enter Tryd.func7, Tryd.ntmps7
  have hb := Bk.new w 23 #[.int .i64 0, .int .i64 0]
  go_wp2_with (go_at_call 8; refine (span_c _ _ _).mono ?_; rintro e w1 ⟨rfl, hg⟩; replace hb := hb.gb hg (by simp); have q := hb.c2; have hl := hb.lt)
  have q' := ((hb.set 0 (.int .i64 n)).set 1 (.int .i64 n)).c2
  exact bodyPost_ret (v := .agg #[.int .i64 n, .int .i64 n]) (by simp [results, Tryd.results7, go_sem, q']) rfl ⟨rfl, gb_setCell (gb_setCell (gb_trans (gb_alloc (gb_refl _ _) _) hg) (.inr (by simp)) _) (.inr (by simp)) _⟩
def bookA : List Acc := [⟨⟨#[114, 97, 99, 107]⟩, 1, ⟨1000, 1000⟩, ⟨600, 610⟩⟩, ⟨⟨#[99, 97, 109, 112]⟩, 1, ⟨100, 110⟩, ⟨480, 490⟩⟩, ⟨⟨#[103, 114, 111, 117, 110, 100]⟩, 2, ⟨0, 0⟩, ⟨0, 5⟩⟩]
def bookM : List Mv := [⟨0, 1, ⟨390, 400⟩⟩]
def BookPost (w : World) (l : List Acc) (m : List Mv) (e : Ending) (w' : World) : Prop := ∃ va vm, e = .returned (.agg #[va, vm]) ∧ Accs w.heap.size w'.heap.size w' va l ∧ Mvs w.heap.size w'.heap.size w' vm m ∧ w.grownBy w' none
theorem Sl.of_bk {α : Type} {enc : α → List Value} {sz lo hi g : Nat} {w : World} {t : TypeId} {cs : Array Value} {l : List α} (h : Bk w g t cs) (hc : cs = (l.flatMap enc).toArray) (hsz : ∀ x, (enc x).length = sz) (hm : l.length ≤ maxLen) (h1 : lo ≤ g) (h2 : g < hi) :
    Sl enc sz lo hi w (.slice (some ⟨g, 0, none⟩) l.length l.length) l := by
  subst hc
  have ho : w.ownsRow lo t sz (.slice (some ⟨g, 0, none⟩) l.length l.length) l.length (l.flatMap enc) :=
    ⟨flat_len hsz l, .inr ⟨g, l.length, _, rfl, h1, h, Nat.le_refl _, hm, by simp only [List.size_toArray]; exact flat_len hsz l, List.take_of_length_le (Nat.le_of_eq (flat_len hsz l))⟩⟩
  obtain ⟨a1, a, c, e, h5⟩ := Sl.of_own ho hsz
  refine ⟨a1, a, c, e, ?_⟩
  rcases h5 with h5 | ⟨b, off, e1, e2, e3, e4⟩
  · exact .inl h5
  · refine .inr ⟨b, off, e1, e2, ?_, e4⟩
    rw [e1] at e
    injection e with e
    injection e with e
    injection e with e
    omega
theorem book_c (w : World) : Calls Tryd.prog 11 #[] w (BookPost w bookA bookM) := by
  go_enter Tryd.func11, Tryd.ntmps11
  have hb := Bk.new w 38 #[.slice none 0 0, .slice none 0 0]
  have hG := gb_alloc (gb_refl w none) (.cells #[.slice none 0 0, .slice none 0 0] 38)
  go_wp2_with fail
  refine (one_c _ _).mono ?_
  rintro e w1 ⟨rfl, hg⟩
  replace hb := hb.gb hg (by simp)
  replace hG := gb_trans hG hg
  clear hg
  go_wp2_with fail
  refine (span_c _ _ _).mono ?_
  rintro e w2 ⟨rfl, hg⟩
  replace hb := hb.gb hg (by simp)
  replace hG := gb_trans hG hg
  clear hg
  go_wp2_with fail
  refine (span_c _ _ _).mono ?_
  rintro e w3 ⟨rfl, hg⟩
  replace hb := hb.gb hg (by simp)
  replace hG := gb_trans hG hg
  clear hg
  go_wp2_with fail
  refine (span_c _ _ _).mono ?_
  rintro e w4 ⟨rfl, hg⟩
  replace hb := hb.gb hg (by simp)
  replace hG := gb_trans hG hg
  clear hg
  go_wp2_with fail
  refine (span_c _ _ _).mono ?_
  rintro e w5 ⟨rfl, hg⟩
  replace hb := hb.gb hg (by simp)
  replace hG := gb_trans hG hg
  clear hg
  go_wp2_with fail
  have hA := Bk.new w5 41 (bookA.flatMap accEnc).toArray
  have hA' : w5.heap.size < (w5.alloc (.cells (bookA.flatMap accEnc).toArray 41)).heap.size := by simp
  have hl0 := hb.lt
  replace hb := hb.alloc (.cells (bookA.flatMap accEnc).toArray 41)
  replace hG := gb_alloc hG (.cells (bookA.flatMap accEnc).toArray 41)
  refine (span_c _ _ _).mono ?_
  rintro e w6 ⟨rfl, hg⟩
  replace hb := hb.gb hg (by simp)
  replace hG := gb_trans hG hg
  replace hA := hA.gb hg (by simp)
  have hs6 := hg.size
  simp only [World.size_alloc] at hs6
  clear hg hA'
  have hl := hb.lt
  have q := hb.c2
  go_wp2_with fail
  have hM := Bk.newAt ((w6.setCell ⟨w.heap.size, 0, none⟩ (.slice (some ⟨w5.heap.size, 0, none⟩) 3 3)).setCell ⟨w.heap.size, 1, none⟩ (.slice (some ⟨w6.heap.size, 0, none⟩) 1 1)) 43 (bookM.flatMap mvEnc).toArray (n := w6.heap.size) (by simp)
  replace hA := ((hA.far (p := ⟨w.heap.size, 0, none⟩) (by simp; omega) (.slice (some ⟨w5.heap.size, 0, none⟩) 3 3)).far (p := ⟨w.heap.size, 1, none⟩) (by simp; omega) (.slice (some ⟨w6.heap.size, 0, none⟩) 1 1)).alloc (.cells (bookM.flatMap mvEnc).toArray 43)
  have q' := ((hb.set 0 (.slice (some ⟨w5.heap.size, 0, none⟩) 3 3)).set 1 (.slice (some ⟨w6.heap.size, 0, none⟩) 1 1)).c2
  exact bodyPost_ret (v := .agg #[.slice (some ⟨w5.heap.size, 0, none⟩) 3 3, .slice (some ⟨w6.heap.size, 0, none⟩) 1 1]) (by simp [results, Tryd.results11, go_sem, hl, q']) rfl
    ⟨_, _, rfl, Sl.of_bk (l := bookA) hA rfl (fun _ => rfl) (by decide) (by omega) hA.lt, Sl.of_bk (l := bookM) hM rfl (fun _ => rfl) (by decide) (by omega) hM.lt, gb_alloc (gb_setCell (gb_setCell hG (.inr (by simp)) _) (.inr (by simp)) _) _⟩
def TankPost (w : World) (hs ls : List Int) (e : Ending) (w' : World) : Prop := ∃ vh vl, e = .returned (.agg #[vh, vl]) ∧ Ints w.heap.size w'.heap.size w' vh hs ∧ Ints w.heap.size w'.heap.size w' vl ls ∧ w.grownBy w' none
theorem tank_c (w : World) : Calls Tryd.prog 6 #[] w (TankPost w [0, 1000, 2000] [0, 5000, 12000]) := by
  go_enter Tryd.func6, Tryd.ntmps6
  go_wp2
  have hA := (Bk.new (w.alloc (.cells #[.slice (some ⟨w.heap.size + 1, 0, none⟩) 3 3, .slice (some ⟨w.heap.size + 1 + 1, 0, none⟩) 3 3] 29)) 3 #[.int .i64 0, .int .i64 1000, .int .i64 2000]).alloc (.cells #[.int .i64 0, .int .i64 5000, .int .i64 12000] 3)
  have hB := Bk.newAt ((w.alloc (.cells #[.slice (some ⟨w.heap.size + 1, 0, none⟩) 3 3, .slice (some ⟨w.heap.size + 1 + 1, 0, none⟩) 3 3] 29)).alloc (.cells #[.int .i64 0, .int .i64 1000, .int .i64 2000] 3)) 3 #[.int .i64 0, .int .i64 5000, .int .i64 12000] (n := w.heap.size + 1 + 1) (by simp)
  simp only [World.size_alloc] at hA
  exact bodyPost_ret (v := .agg #[.slice (some ⟨w.heap.size + 1, 0, none⟩) 3 3, .slice (some ⟨w.heap.size + 1 + 1, 0, none⟩) 3 3]) (by simp [results, Tryd.results6, go_sem]) rfl
    ⟨_, _, rfl, Sl.of_bk (l := [0, 1000, 2000]) hA rfl (fun _ => rfl) (by decide) (by omega) hA.lt, Sl.of_bk (l := [0, 5000, 12000]) hB rfl (fun _ => rfl) (by decide) (by omega) hB.lt, gb_alloc (gb_alloc (gb_alloc (gb_refl _ _) _) _) _⟩

/-! ### Losses -/
noncomputable def lossesPost (b : Bok) (w : World) (e : Ending) (w' : World) : Prop :=
  (checkE b ≠ 0 ∧ e = .returned (.tuple #[.slice none 0 0, .agg #[.int .i64 0, .int .i64 0], .int .i64 (checkE b)]) ∧ w.grownBy w' none) ∨
  (checkE b = 0 ∧ ∃ v, e = .returned (.tuple #[v, (lossT b).v, .int .i64 0]) ∧ Own spEnc 23 2 w.heap.size w' v (lossL b) ∧ w.grownBy w' none)
theorem check_bok {b : Bok} (h : checkE b = 0) : BokOk b := by
  unfold checkE at h
  by_cases hf : formedE b = 0
  · exact formed_bok hf
  · rw [if_neg hf] at h
    exact absurd h hf
theorem fLosses_c (l1 h1 l2 h2 : Nat) (va vm : Value) (b : Bok) (w : World) (ha : Accs l1 h1 w va b.accs) (hm : Mvs l2 h2 w vm b.mvs) (hn : nameOk b.accs) (b1 : h1 ≤ w.heap.size) (b2 : h2 ≤ w.heap.size) :
    Calls Tryd.prog 25 #[.agg #[va, vm]] w (lossesPost b w) := by
  obtain ⟨a, c, eva⟩ := ha.any
  obtain ⟨a', c', evm⟩ := hm.any
  subst eva evm
  have HD := Lib.hid (And.intro ha (And.intro hm hn))
  clear ha hm hn
  obtain ⟨W0, hW0⟩ : ∃ W0, ((w.alloc (.cells #[.slice a b.accs.length c, .slice a' b.mvs.length c'] 38)).alloc (.cells #[.int .i64 0, .int .i64 0] 23)) = W0 := ⟨_, rfl⟩
  have hB1 : Bk W0 w.heap.size 38 #[.slice a b.accs.length c, .slice a' b.mvs.length c'] := by rw [← hW0]; exact ((Bk.new w 38 #[.slice a b.accs.length c, .slice a' b.mvs.length c']).alloc (.cells #[.int .i64 0, .int .i64 0] 23))
  have hB2 : Bk W0 (w.heap.size + 1) 23 #[.int .i64 0, .int .i64 0] := by
    have hx_ := (Bk.new (w.alloc (.cells #[.slice a b.accs.length c, .slice a' b.mvs.length c'] 38)) 23 #[.int .i64 0, .int .i64 0])
    rw [← hW0]
    simpa using hx_
  have hgW0 : w.grownBy W0 none := hW0 ▸ gb_alloc (gb_alloc (gb_refl _ _) _) _
  have HW0 := Lib.hid hW0
  clear hW0
  go_enter Tryd.func25, Tryd.ntmps25
  go_wp2_with fail
  rw [HW0.out]
  refine (check_c l1 h1 l2 h2 _ _ b W0 (HD.out.1.gb hgW0 (by simp)) (HD.out.2.1.gb hgW0 (by simp)) HD.out.2.2 (by have := hgW0.size; omega) (by have := hgW0.size; omega)).mono ?_
  rintro e w1 ⟨rfl, hg1⟩
  clear HW0
  have hG1 := gb_trans hgW0 hg1
  replace hB1 := hB1.gb hg1 (by simp <;> omega)
  (try clear qhB1)
  have qhB1 := hB1.c2
  replace hB2 := hB2.gb hg1 (by simp <;> omega)
  (try clear qhB2)
  have qhB2 := hB2.c2
  clear hgW0 hg1
  have hl1 := hB1.lt
  have hl2 := hB2.lt
  by_cases hf : checkE b = 0
  · have hne : (checkE b != 0) = false := by simp [hf]
    have HF := Lib.hid hf
    clear hf
    go_wp2_with fail
    have hG1s := hG1.size
    refine (losses_c l1 h1 l2 h2 _ _ b w1 (HD.out.1.gb hG1 (by simp)) (HD.out.2.1.gb hG1 (by simp)) (check_bok HF.out) (by have := hG1.size; omega) (by have := hG1.size; omega)).mono ?_
    rintro e w2 ⟨v, rfl, ho, hg2⟩
    have hG2 := gb_trans hG1 hg2
    replace hB1 := hB1.gb hg2 (by simp <;> omega)
    (try clear qhB1)
    have qhB1 := hB1.c2
    replace hB2 := hB2.gb hg2 (by simp <;> omega)
    (try clear qhB2)
    have qhB2 := hB2.c2
    have hlz := hB2.lt
    have HO := Lib.hid ho
    clear ho hg2 hG1
    simp only [Sp.v]
    go_wp2_with fail
    go_region
    go_wp2_with fail
    have q4 := ((((hB2.set 0 (.int .i64 (lossT b).lo)).set 1 (.int .i64 (lossT b).hi)).set 0 (.int .i64 (lossT b).lo)).set 1 (.int .i64 (lossT b).hi)).c2
    have hob : ∀ m, v.ownBlock = some m → w1.heap.size ≤ m := fun m e => (HO.out.lt m e).1
    refine bodyPost_ret (v := .tuple #[v, .agg #[.int .i64 (lossT b).lo, .int .i64 (lossT b).hi], .int .i64 0]) (by simp [results, Tryd.results25, go_sem, q4]) rfl (.inr ⟨HF.out, v, rfl, ?_, ?_⟩)
    · refine Own.base (base := w1.heap.size) ?_ (by omega)
      exact (((((HO.out.far (fun m e => by have := hob m e; dsimp only; omega) _).far (fun m e => by have := hob m e; dsimp only; omega) _).far (fun m e => by have := hob m e; dsimp only; omega) _).far (fun m e => by have := hob m e; dsimp only; omega) _).drew)
    · exact gb_drew (gb_setCell (gb_setCell (gb_setCell (gb_setCell hG2 (.inr (by simp)) _) (.inr (by simp)) _) (.inr (by simp)) _) (.inr (by simp)) _)
  · have hne : (checkE b != 0) = true := by simp [hf]
    have q3 := ((hB2.set 0 (.int .i64 0)).set 1 (.int .i64 0)).c2
    have HF := Lib.hid hf
    clear hf
    go_wp2_with fail
    exact bodyPost_ret (v := .tuple #[.slice none 0 0, .agg #[.int .i64 0, .int .i64 0], .int .i64 (checkE b)]) (by simp [results, Tryd.results25, go_sem, q3]) rfl (.inl ⟨HF.out, rfl, gb_setCell (gb_setCell hG1 (.inr (by simp)) _) (.inr (by simp)) _⟩)
end Go.Proofs.YtcndphefomigeaaDoor
