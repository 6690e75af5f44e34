/- fuel: flows as a row of one's own; numbered blocks of one's own. -/
import Derived.Test.YtcndphefomigeaaDoorPCheck
import Derived.Test.YtcndphefomigeaaDoorPG10
import Derived.Test.YtcndphefomigeaaDoorPBun
import Derived.Test.YtcndphefomigeaaDoorPK1
set_option linter.unusedVariables false
set_option linter.unusedSimpArgs false
set_option linter.unnecessarySimpa false
namespace Go.Proofs.YtcndphefomigeaaDoor
open Go.RowKit Go.Shelf
set_option maxRecDepth 100000

/-- Blocks of one's own, the k-th holds v k. -/
def rnums (t : TypeId) (n : Nat) (bx : Nat → Nat) (v : Nat → Value) : Res :=
  ⟨true, fun x => ∃ k, k < n ∧ x = bx k, fun w => ∀ k, k < n → Bk w (bx k) t #[v k], fun _ _ _ hg hr h k hk => (h k hk).gb hg (fun e => hr _ e.symm ⟨k, hk, rfl⟩)⟩
def updN (bx : Nat → Nat) (n g : Nat) : Nat → Nat := fun k => if k = n then g else bx k
theorem updN_same (bx : Nat → Nat) (n g : Nat) : updN bx n g n = g := if_pos rfl
theorem updN_ne (bx : Nat → Nat) {n k : Nat} (g : Nat) (h : k < n) : updN bx n g k = bx k := if_neg (by omega)
section
variable {w0 A : World} {L : List Res} {t : TypeId} {n g : Nat} {bx : Nat → Nat} {v : Nat → Value}
theorem Bun.nums0 (t : TypeId) (bx : Nat → Nat) (v : Nat → Value) (h : Bun w0 L A) : Bun w0 (rnums t 0 bx v :: L) A :=
  h.add (rnums t 0 bx v) (gb_refl _ _) (fun k hk => absurd hk (Nat.not_lt_zero _)) fun g ⟨k, hk, _⟩ => absurd hk (Nat.not_lt_zero _)
theorem Bun.numsS (h : Bun w0 (rbox g t #[v n] :: rnums t n bx v :: L) A) : Bun w0 (rnums t (n + 1) (updN bx n g) v :: L) A := by
  have hd := h.dis
  rw [List.pairwise_cons] at hd
  have hd2 := hd.2
  rw [List.pairwise_cons] at hd2
  have c : ∀ x, (∃ k, k < n + 1 ∧ x = updN bx n g k) → x = g ∨ ∃ k, k < n ∧ x = bx k := fun x ⟨k, hk, e⟩ => by
    by_cases h1 : k = n
    · subst h1; rw [updN_same] at e; exact .inl e
    · rw [updN_ne _ _ (by omega)] at e; exact .inr ⟨k, by omega, e⟩
  refine ⟨fun r hr => ?_, fun r hr x hx => ?_, ?_, h.gb⟩
  · rcases List.mem_cons.1 hr with rfl | hr
    · intro k hk
      by_cases h1 : k = n
      · subst h1; rw [updN_same]; exact h.all _ (.head _)
      · rw [updN_ne _ _ (by omega)]; exact h.all _ (.tail _ (.head _)) k (by omega)
    · exact h.all r (.tail _ (.tail _ hr))
  · rcases List.mem_cons.1 hr with rfl | hr
    · rcases c x hx with h1 | h1
      · exact h.bd _ (.head _) x h1
      · exact h.bd _ (.tail _ (.head _)) x h1
    · exact h.bd r (.tail _ (.tail _ hr)) x hx
  · rw [List.pairwise_cons]
    refine ⟨fun r hr hm x hx => ?_, hd2.2⟩
    rcases c x hx with h1 | h1
    · exact hd.1 r (.tail _ hr) (.inl rfl) x h1
    · exact hd2.1 r hr (.inl rfl) x h1
end
/-- A flow: where its span lies, its kind (what is there at the start, at the end, a move), the block that its closures hang on. -/
structure FV where
  r : Nat
  o : Nat
  k : Nat
  x : Nat
def FV.into (f : FV) : Value := match f.k with
  | 0 => .func (.func 67) #[] #[.pointer (some ⟨f.x, 0, none⟩)]
  | 1 => .func (.func 68) #[] #[]
  | _ => .func (.func 69) #[] #[.pointer (some ⟨f.x, 0, none⟩)]
def FV.out (f : FV) : Value := match f.k with
  | 0 => .func (.func 68) #[] #[]
  | 1 => .func (.func 67) #[] #[.pointer (some ⟨f.x, 0, none⟩)]
  | _ => .func (.func 70) #[] #[.pointer (some ⟨f.x, 0, none⟩)]
def fvEnc (f : FV) : List Value := [.pointer (some ⟨f.r, f.o, none⟩), f.into, f.out]
theorem infoFl : (Tryd.prog.info? 121).map (fun i => (i.zero, i.size, i.bytes)) = some (some (.agg #[.pointer none, .nilFunc, .nilFunc]), 3, 24) := by kernel_rfl
theorem okFl : ElemOk Tryd.prog 117 121 3 24 fvEnc where
  under := Tryd.underlying117
  info := info5 infoFl rfl
  pos := by omega
  small := by omega
  len := fun _ => rfl
  one := fun x u hu => by
    obtain ⟨r, o, k, z⟩ := x
    simp only [fvEnc, List.mem_cons, List.not_mem_nil, or_false] at hu
    rcases hu with rfl | rfl | rfl
    · rfl
    · unfold FV.into; dsimp only; split <;> rfl
    · unfold FV.out; dsimp only; split <;> rfl
/-- The flows of a book: two for each account, one for each move. -/
structure FlB (ra rm : Nat) (bx bm : Nat → Nat) (l : List FV) (i j : Nat) : Prop where
  len : l.length = 2 * i + j
  op : ∀ k, k < i → l[2 * k]? = some ⟨ra, k * 6 + 2, 0, bx k⟩
  cl : ∀ k, k < i → l[2 * k + 1]? = some ⟨ra, k * 6 + 4, 1, bx k⟩
  mv : ∀ k, k < j → l[2 * i + k]? = some ⟨rm, k * 4 + 2, 2, bm k⟩
theorem flB_zero (ra rm : Nat) (bx bm : Nat → Nat) : FlB ra rm bx bm [] 0 0 := ⟨rfl, fun k h => absurd h (Nat.not_lt_zero _), fun k h => absurd h (Nat.not_lt_zero _), fun k h => absurd h (Nat.not_lt_zero _)⟩
theorem flB_acc {ra rm : Nat} {bx bm : Nat → Nat} {l : List FV} {i : Nat} (g : Nat) (h : FlB ra rm bx bm l i 0) : FlB ra rm (updN bx i g) bm (l ++ [⟨ra, i * 6 + 2, 0, g⟩, ⟨ra, i * 6 + 4, 1, g⟩]) (i + 1) 0 := by
  have hl := h.len
  refine ⟨by simp; omega, fun k hk => ?_, fun k hk => ?_, fun k hk => absurd hk (Nat.not_lt_zero _)⟩
  · by_cases e : k = i
    · subst e; rw [updN_same, List.getElem?_append_right (by omega), show 2 * k - l.length = 0 by omega]; rfl
    · rw [updN_ne _ _ (by omega), List.getElem?_append_left (by omega)]; exact h.op k (by omega)
  · by_cases e : k = i
    · subst e; rw [updN_same, List.getElem?_append_right (by omega), show 2 * k + 1 - l.length = 1 by omega]; rfl
    · rw [updN_ne _ _ (by omega), List.getElem?_append_left (by omega)]; exact h.cl k (by omega)
theorem flB_mv {ra rm : Nat} {bx bm : Nat → Nat} {l : List FV} {i j : Nat} (g : Nat) (h : FlB ra rm bx bm l i j) : FlB ra rm bx (updN bm j g) (l ++ [⟨rm, j * 4 + 2, 2, g⟩]) i (j + 1) := by
  have hl := h.len
  refine ⟨by simp; omega, fun k hk => ?_, fun k hk => ?_, fun k hk => ?_⟩
  · rw [List.getElem?_append_left (by omega)]; exact h.op k hk
  · rw [List.getElem?_append_left (by omega)]; exact h.cl k hk
  · by_cases e : k = j
    · subst e; rw [updN_same, List.getElem?_append_right (by omega), show 2 * i + k - l.length = 0 by omega]; rfl
    · rw [updN_ne _ _ (by omega), List.getElem?_append_left (by omega)]; exact h.mv k (by omega)
end Go.Proofs.YtcndphefomigeaaDoor
/- fuel: what a flow says of a set. -/
namespace Go.Proofs.YtcndphefomigeaaDoor
open Go.RowKit Go.Shelf
set_option maxRecDepth 100000

theorem has_z (i p : Nat) (z : Int) (w : World) (hp : Bk w p 3 #[.int .i64 i]) (hi : i < 256) (hz : 0 ≤ z ∧ z < 8) :
    Calls Tryd.prog 55 #[.int .i64 z, .pointer (some ⟨p, 0, none⟩)] w fun e w' => e = .returned (.bool (bitOf i z)) ∧ w = w' := by
  obtain ⟨k, rfl⟩ : ∃ k : Nat, z = (k : Int) := ⟨z.toNat, by omega⟩
  exact has_c i k p w (bitOf i k) hi (by omega) hp rfl
theorem has_zg (i p : Nat) (z : Int) (w : World) (hp : Bk w p 3 #[.int .i64 i]) (hi : i < 256) (hz : 0 ≤ z ∧ z < 8) : Calls Tryd.prog 55 #[.int .i64 z, .pointer (some ⟨p, 0, none⟩)] w (Ret (.bool (bitOf i z)) w) :=
  (has_z i p z w hp hi hz).mono fun _ _ h => ⟨h.1, h.2 ▸ gb_refl _ _⟩
theorem gm_at' {l : List Mv} {i : Nat} (h : i < l.length) : l[i]? = some (gm l i) := by rw [gm_get h]; exact List.getElem?_eq_getElem h
set_option maxHeartbeats 4000000 in
theorem flow1_c (p bx i : Nat) (g : Grp) (k : Int) (w : World) (hp : Bk w p 3 #[.int .i64 i]) (hi6 : i < 256) (hb : Bk w bx 3 #[.int .i64 k]) (hk : 0 ≤ k ∧ k < 8) :
    Calls Tryd.prog 67 #[.agg #[.func (.func 55) #[] #[.pointer (some ⟨p, 0, none⟩)], .int .i64 g.least, .int .i64 g.most, .bool g.ground, .bool g.rest], .pointer (some ⟨bx, 0, none⟩)] w (Ret (.bool (bitOf i k)) w) := by
  have F1 : Bun w [] w := Bun.nil _
  have F2 := F1.fix0 hp rfl
  clear F1
  clear hp
  have F3 := F2.fix0 hb rfl
  clear F2
  clear hb
  go_enter Tryd.func67, Tryd.ntmps67
  have b4 := Bk.bx1 (F3.at 0 rfl : Bk _ bx 3 #[.int .i64 k])
  go_wp2_with fail
  clear b4
  have F5 := F3.new 72 #[.func (.func 55) #[] #[.pointer (some ⟨p, 0, none⟩)], .int .i64 g.least, .int .i64 g.most, .bool g.ground, .bool g.rest] (n := w.heap.size) (by simp)
  clear F3
  refine (has_zg i p k _ (F5.at 2 rfl : Bk _ p 3 #[.int .i64 i]) hi6 (by omega)).mono ?_
  rintro e w8 ⟨rfl, hg6⟩
  have hg6s := hg6.size
  (try simp at hg6s)
  have F9 := F5.gn hg6
  clear F5
  clear hg6
  go_wp2_with fail
  go_ret
  exact ⟨rfl, F9.gb⟩

set_option maxHeartbeats 4000000 in
theorem flow2_c (p bx i r oo lo hi c j : Nat) (g : Grp) (l : List Mv) (w : World) (hp : Bk w p 3 #[.int .i64 i]) (hi6 : i < 256) (hb : Bk w bx 135 #[.pointer (some ⟨r, oo + j * 4, none⟩)]) (hl : Sl mvEnc 4 lo hi w (.slice (some ⟨r, oo, none⟩) l.length c) l) (h2 : hi ≤ w.heap.size) (hj : j < l.length) (hk : (0 ≤ (gm l j).fr ∧ (gm l j).fr < 8) ∧ 0 ≤ (gm l j).to ∧ (gm l j).to < 8) :
    Calls Tryd.prog 69 #[.agg #[.func (.func 55) #[] #[.pointer (some ⟨p, 0, none⟩)], .int .i64 g.least, .int .i64 g.most, .bool g.ground, .bool g.rest], .pointer (some ⟨bx, 0, none⟩)] w (Ret (.bool (bitOf i (gm l j).to && !bitOf i (gm l j).fr)) w) := by
  have F1 : Bun w [] w := Bun.nil _
  have F2 := F1.fix0 hp rfl
  clear F1
  clear hp
  have F3 := F2.fix0 hb rfl
  clear F2
  clear hb
  have F4 := F3.sl0 hl h2 rfl
  clear F3
  clear hl
  have hz_ : Hid (l[j]? = some (gm l j)) := Lib.hid (gm_at' hj)
  go_enter Tryd.func69, Tryd.ntmps69
  cases c5 : bitOf i ((gm l j).to)
  · skip
    have c5H := Lib.hid c5
    go_wp2_with fail
    have F6 := F4.new 72 #[.func (.func 55) #[] #[.pointer (some ⟨p, 0, none⟩)], .int .i64 g.least, .int .i64 g.most, .bool g.ground, .bool g.rest] (n := w.heap.size) (by simp)
    clear F4
    obtain ⟨w7, hx8, F10, hxs9⟩ := (show Bun w [rbox w.heap.size 72 #[.func (.func 55) #[] #[.pointer (some ⟨p, 0, none⟩)], .int .i64 g.least, .int .i64 g.most, .bool g.ground, .bool g.rest], rsl mvEnc 4 lo hi (.slice (some ⟨r, oo, none⟩) l.length c) l, rfix bx 135 #[.pointer (some ⟨r, oo + j * 4, none⟩)], rfix p 3 #[.int .i64 i]] _ from F6).name
    (try simp at hxs9)
    rw [hx8]
    clear hx8 F6
    have F11 := F10.drew
    clear F10
    refine ru_begin (fun W => W.cell? ⟨w.heap.size, 0, none⟩ = some (.func (.func 55) #[] #[.pointer (some ⟨p, 0, none⟩)]) ∧ W.cell? ⟨bx, 0, none⟩ = some (.pointer (some ⟨r, oo + j * 4, none⟩)) ∧ W.cell? ⟨r, oo + j * 4 + 1, none⟩ = some (.int .i64 (gm l j).to)) 17 (by kernel_rfl) ?_ ?_
    · exact ⟨F11.cl 0 0 rfl rfl, ((F11.at 2 rfl : Bk _ bx 135 #[.pointer (some ⟨r, oo + j * 4, none⟩)])).cell 0, (((F11.at 1 rfl : Sl mvEnc 4 lo hi _ (.slice (some ⟨r, oo, none⟩) l.length c) l)).cells hz_.out 1 _ rfl)⟩
    obtain ⟨wd13, hwd_⟩ : ∃ x : World, w7.drew = x := ⟨_, rfl⟩
    rw [hwd_] at F11 ⊢
    have wd13s : w7.heap.size ≤ wd13.heap.size := by rw [← hwd_]; exact Nat.le_refl _
    clear hwd_
    have hS12 := (And.intro (F11.cl 0 0 rfl rfl) (And.intro (((F11.at 2 rfl : Bk _ bx 135 #[.pointer (some ⟨r, oo + j * 4, none⟩)])).cell 0) ((((F11.at 1 rfl : Sl mvEnc 4 lo hi _ (.slice (some ⟨r, oo, none⟩) l.length c) l)).cells hz_.out 1 _ rfl))))
    refine ru_t 0 [] ?_
    refine ru_t 1 [] ?_
    refine ru_t 2 [] ?_
    refine ru_t 3 [] ?_
    refine ru_t 4 [] ?_
    refine ru_t 5 [] ?_
    (try simp only [Act.put, List.setIfInBounds_toArray, List.set_cons_zero, List.set_cons_succ])
    clear hS12
    refine ru_one 6 rfl (by kernel_rfl) (fun K hK => ?_)
    go_simp
    refine (has_zg i p ((gm l j).to) _ (F11.at 3 rfl : Bk _ p 3 #[.int .i64 i]) hi6 (by omega)).mono ?_
    rintro e w16 ⟨rfl, hg14⟩
    have hg14s := hg14.size
    (try simp at hg14s)
    have F17 := F11.gn hg14
    clear F11
    refine ru_back hK (by exact ⟨F17.cl 0 0 rfl rfl, ((F17.at 2 rfl : Bk _ bx 135 #[.pointer (some ⟨r, oo + j * 4, none⟩)])).cell 0, (((F17.at 1 rfl : Sl mvEnc 4 lo hi _ (.slice (some ⟨r, oo, none⟩) l.length c) l)).cells hz_.out 1 _ rfl)⟩) (fun hHeld => ?_)
    clear hK K
    (try simp only [Act.put, List.setIfInBounds_toArray, List.set_cons_zero, List.set_cons_succ])
    refine ru_p 7 ?_
    (try simp only [Act.put, List.setIfInBounds_toArray, List.set_cons_zero, List.set_cons_succ])
    refine ru_ps 8 ?_
    refine ru_ps 10 ?_
    (try simp only [Act.put, List.setIfInBounds_toArray, List.set_cons_zero, List.set_cons_succ])
    refine ru_ps 9 ?_
    refine ru_ps 11 ?_
    (try simp only [Act.put, List.setIfInBounds_toArray, List.set_cons_zero, List.set_cons_succ])
    refine ru_ps 12 ?_
    (try simp only [Act.put, List.setIfInBounds_toArray, List.set_cons_zero, List.set_cons_succ])
    refine ru_ps 13 ?_
    (try simp only [Act.put, List.setIfInBounds_toArray, List.set_cons_zero, List.set_cons_succ])
    refine ru_ps 14 ?_
    (try simp only [Act.put, List.setIfInBounds_toArray, List.set_cons_zero, List.set_cons_succ])
    refine ru_ps 15 ?_
    (try simp only [Act.put, List.setIfInBounds_toArray, List.set_cons_zero, List.set_cons_succ])
    refine ru_p 16 ?_
    (try simp only [Act.put, List.setIfInBounds_toArray, List.set_cons_zero, List.set_cons_succ])
    refine ru_one 17 rfl (by kernel_rfl) (fun K hK => ?_)
    go_simp
    refine ru_back_late hK (by kernel_rfl) ?_
    clear hK K
    (try simp only [Act.put, List.setIfInBounds_toArray, List.set_cons_zero, List.set_cons_succ])
    refine ru_done (by kernel_rfl) ?_
    obtain ⟨w18, hx19, F21, hxs20⟩ := (show Bun w [rsl mvEnc 4 lo hi (.slice (some ⟨r, oo, none⟩) l.length c) l, rfix bx 135 #[.pointer (some ⟨r, oo + j * 4, none⟩)], rfix p 3 #[.int .i64 i]] _ from (F17.drop 0 rfl)).name
    (try simp at hxs20)
    rw [hx19]
    clear hx19 F17
    go_wp2_with fail
    go_ret
    exact ⟨rfl, F21.gb⟩
  · skip
    have c5H := Lib.hid c5
    go_wp2_with fail
    have F22 := F4.new 72 #[.func (.func 55) #[] #[.pointer (some ⟨p, 0, none⟩)], .int .i64 g.least, .int .i64 g.most, .bool g.ground, .bool g.rest] (n := w.heap.size) (by simp)
    clear F4
    obtain ⟨w23, hx24, F26, hxs25⟩ := (show Bun w [rbox w.heap.size 72 #[.func (.func 55) #[] #[.pointer (some ⟨p, 0, none⟩)], .int .i64 g.least, .int .i64 g.most, .bool g.ground, .bool g.rest], rsl mvEnc 4 lo hi (.slice (some ⟨r, oo, none⟩) l.length c) l, rfix bx 135 #[.pointer (some ⟨r, oo + j * 4, none⟩)], rfix p 3 #[.int .i64 i]] _ from F22).name
    (try simp at hxs25)
    rw [hx24]
    clear hx24 F22
    have F27 := F26.drew
    clear F26
    refine ru_begin (fun W => W.cell? ⟨w.heap.size, 0, none⟩ = some (.func (.func 55) #[] #[.pointer (some ⟨p, 0, none⟩)]) ∧ W.cell? ⟨bx, 0, none⟩ = some (.pointer (some ⟨r, oo + j * 4, none⟩)) ∧ W.cell? ⟨r, oo + j * 4 + 1, none⟩ = some (.int .i64 (gm l j).to) ∧ W.cell? ⟨r, oo + j * 4, none⟩ = some (.int .i64 (gm l j).fr)) 17 (by kernel_rfl) ?_ ?_
    · exact ⟨F27.cl 0 0 rfl rfl, ((F27.at 2 rfl : Bk _ bx 135 #[.pointer (some ⟨r, oo + j * 4, none⟩)])).cell 0, (((F27.at 1 rfl : Sl mvEnc 4 lo hi _ (.slice (some ⟨r, oo, none⟩) l.length c) l)).cells hz_.out 1 _ rfl), (((F27.at 1 rfl : Sl mvEnc 4 lo hi _ (.slice (some ⟨r, oo, none⟩) l.length c) l)).cells hz_.out 0 _ rfl)⟩
    obtain ⟨wd29, hwd_⟩ : ∃ x : World, w23.drew = x := ⟨_, rfl⟩
    rw [hwd_] at F27 ⊢
    have wd29s : w23.heap.size ≤ wd29.heap.size := by rw [← hwd_]; exact Nat.le_refl _
    clear hwd_
    have hS28 := (And.intro (F27.cl 0 0 rfl rfl) (And.intro (((F27.at 2 rfl : Bk _ bx 135 #[.pointer (some ⟨r, oo + j * 4, none⟩)])).cell 0) (And.intro ((((F27.at 1 rfl : Sl mvEnc 4 lo hi _ (.slice (some ⟨r, oo, none⟩) l.length c) l)).cells hz_.out 1 _ rfl)) ((((F27.at 1 rfl : Sl mvEnc 4 lo hi _ (.slice (some ⟨r, oo, none⟩) l.length c) l)).cells hz_.out 0 _ rfl)))))
    refine ru_t 0 [] ?_
    refine ru_t 1 [] ?_
    refine ru_t 2 [] ?_
    refine ru_t 3 [] ?_
    refine ru_t 4 [] ?_
    refine ru_t 5 [] ?_
    (try simp only [Act.put, List.setIfInBounds_toArray, List.set_cons_zero, List.set_cons_succ])
    clear hS28
    refine ru_one 6 rfl (by kernel_rfl) (fun K hK => ?_)
    go_simp
    refine (has_zg i p ((gm l j).to) _ (F27.at 3 rfl : Bk _ p 3 #[.int .i64 i]) hi6 (by omega)).mono ?_
    rintro e w32 ⟨rfl, hg30⟩
    have hg30s := hg30.size
    (try simp at hg30s)
    have F33 := F27.gn hg30
    clear F27
    refine ru_back hK (by exact ⟨F33.cl 0 0 rfl rfl, ((F33.at 2 rfl : Bk _ bx 135 #[.pointer (some ⟨r, oo + j * 4, none⟩)])).cell 0, (((F33.at 1 rfl : Sl mvEnc 4 lo hi _ (.slice (some ⟨r, oo, none⟩) l.length c) l)).cells hz_.out 1 _ rfl), (((F33.at 1 rfl : Sl mvEnc 4 lo hi _ (.slice (some ⟨r, oo, none⟩) l.length c) l)).cells hz_.out 0 _ rfl)⟩) (fun hHeld => ?_)
    clear hK K
    (try simp only [Act.put, List.setIfInBounds_toArray, List.set_cons_zero, List.set_cons_succ])
    refine ru_p 7 ?_
    (try simp only [Act.put, List.setIfInBounds_toArray, List.set_cons_zero, List.set_cons_succ])
    refine ru_p 8 ?_
    (try simp only [Act.put, List.setIfInBounds_toArray, List.set_cons_zero, List.set_cons_succ])
    refine ru_t 9 [] ?_
    refine ru_t 10 [] ?_
    (try simp only [Act.put, List.setIfInBounds_toArray, List.set_cons_zero, List.set_cons_succ])
    refine ru_p 11 ?_
    (try simp only [Act.put, List.setIfInBounds_toArray, List.set_cons_zero, List.set_cons_succ])
    refine ru_p 12 ?_
    (try simp only [Act.put, List.setIfInBounds_toArray, List.set_cons_zero, List.set_cons_succ])
    refine ru_t 13 [] ?_
    (try simp only [Act.put, List.setIfInBounds_toArray, List.set_cons_zero, List.set_cons_succ])
    refine ru_one 14 rfl (by kernel_rfl) (fun K hK => ?_)
    go_simp
    refine (has_zg i p ((gm l j).fr) _ (F33.at 3 rfl : Bk _ p 3 #[.int .i64 i]) hi6 (by omega)).mono ?_
    rintro e w36 ⟨rfl, hg34⟩
    have hg34s := hg34.size
    (try simp at hg34s)
    have F37 := F33.gn hg34
    clear F33
    refine ru_back hK (by exact ⟨F37.cl 0 0 rfl rfl, ((F37.at 2 rfl : Bk _ bx 135 #[.pointer (some ⟨r, oo + j * 4, none⟩)])).cell 0, (((F37.at 1 rfl : Sl mvEnc 4 lo hi _ (.slice (some ⟨r, oo, none⟩) l.length c) l)).cells hz_.out 1 _ rfl), (((F37.at 1 rfl : Sl mvEnc 4 lo hi _ (.slice (some ⟨r, oo, none⟩) l.length c) l)).cells hz_.out 0 _ rfl)⟩) (fun hHeld => ?_)
    clear hK K
    (try simp only [Act.put, List.setIfInBounds_toArray, List.set_cons_zero, List.set_cons_succ])
    refine ru_p 15 ?_
    (try simp only [Act.put, List.setIfInBounds_toArray, List.set_cons_zero, List.set_cons_succ])
    refine ru_p 16 ?_
    (try simp only [Act.put, List.setIfInBounds_toArray, List.set_cons_zero, List.set_cons_succ])
    refine ru_one 17 rfl (by kernel_rfl) (fun K hK => ?_)
    go_simp
    refine ru_back_late hK (by kernel_rfl) ?_
    clear hK K
    (try simp only [Act.put, List.setIfInBounds_toArray, List.set_cons_zero, List.set_cons_succ])
    refine ru_done (by kernel_rfl) ?_
    obtain ⟨w38, hx39, F41, hxs40⟩ := (show Bun w [rsl mvEnc 4 lo hi (.slice (some ⟨r, oo, none⟩) l.length c) l, rfix bx 135 #[.pointer (some ⟨r, oo + j * 4, none⟩)], rfix p 3 #[.int .i64 i]] _ from (F37.drop 0 rfl)).name
    (try simp at hxs40)
    rw [hx39]
    clear hx39 F37
    go_wp2_with fail
    go_ret
    exact ⟨rfl, F41.gb⟩

set_option maxHeartbeats 4000000 in
theorem flow3_c (p bx i r oo lo hi c j : Nat) (g : Grp) (l : List Mv) (w : World) (hp : Bk w p 3 #[.int .i64 i]) (hi6 : i < 256) (hb : Bk w bx 135 #[.pointer (some ⟨r, oo + j * 4, none⟩)]) (hl : Sl mvEnc 4 lo hi w (.slice (some ⟨r, oo, none⟩) l.length c) l) (h2 : hi ≤ w.heap.size) (hj : j < l.length) (hk : (0 ≤ (gm l j).fr ∧ (gm l j).fr < 8) ∧ 0 ≤ (gm l j).to ∧ (gm l j).to < 8) :
    Calls Tryd.prog 70 #[.agg #[.func (.func 55) #[] #[.pointer (some ⟨p, 0, none⟩)], .int .i64 g.least, .int .i64 g.most, .bool g.ground, .bool g.rest], .pointer (some ⟨bx, 0, none⟩)] w (Ret (.bool (bitOf i (gm l j).fr && !bitOf i (gm l j).to)) w) := by
  have F1 : Bun w [] w := Bun.nil _
  have F2 := F1.fix0 hp rfl
  clear F1
  clear hp
  have F3 := F2.fix0 hb rfl
  clear F2
  clear hb
  have F4 := F3.sl0 hl h2 rfl
  clear F3
  clear hl
  have hz_ : Hid (l[j]? = some (gm l j)) := Lib.hid (gm_at' hj)
  go_enter Tryd.func70, Tryd.ntmps70
  cases c5 : bitOf i ((gm l j).fr)
  · skip
    have c5H := Lib.hid c5
    go_wp2_with fail
    have F6 := F4.new 72 #[.func (.func 55) #[] #[.pointer (some ⟨p, 0, none⟩)], .int .i64 g.least, .int .i64 g.most, .bool g.ground, .bool g.rest] (n := w.heap.size) (by simp)
    clear F4
    obtain ⟨w7, hx8, F10, hxs9⟩ := (show Bun w [rbox w.heap.size 72 #[.func (.func 55) #[] #[.pointer (some ⟨p, 0, none⟩)], .int .i64 g.least, .int .i64 g.most, .bool g.ground, .bool g.rest], rsl mvEnc 4 lo hi (.slice (some ⟨r, oo, none⟩) l.length c) l, rfix bx 135 #[.pointer (some ⟨r, oo + j * 4, none⟩)], rfix p 3 #[.int .i64 i]] _ from F6).name
    (try simp at hxs9)
    rw [hx8]
    clear hx8 F6
    have F11 := F10.drew
    clear F10
    refine ru_begin (fun W => W.cell? ⟨w.heap.size, 0, none⟩ = some (.func (.func 55) #[] #[.pointer (some ⟨p, 0, none⟩)]) ∧ W.cell? ⟨bx, 0, none⟩ = some (.pointer (some ⟨r, oo + j * 4, none⟩)) ∧ W.cell? ⟨r, oo + j * 4, none⟩ = some (.int .i64 (gm l j).fr)) 17 (by kernel_rfl) ?_ ?_
    · exact ⟨F11.cl 0 0 rfl rfl, ((F11.at 2 rfl : Bk _ bx 135 #[.pointer (some ⟨r, oo + j * 4, none⟩)])).cell 0, (((F11.at 1 rfl : Sl mvEnc 4 lo hi _ (.slice (some ⟨r, oo, none⟩) l.length c) l)).cells hz_.out 0 _ rfl)⟩
    obtain ⟨wd13, hwd_⟩ : ∃ x : World, w7.drew = x := ⟨_, rfl⟩
    rw [hwd_] at F11 ⊢
    have wd13s : w7.heap.size ≤ wd13.heap.size := by rw [← hwd_]; exact Nat.le_refl _
    clear hwd_
    have hS12 := (And.intro (F11.cl 0 0 rfl rfl) (And.intro (((F11.at 2 rfl : Bk _ bx 135 #[.pointer (some ⟨r, oo + j * 4, none⟩)])).cell 0) ((((F11.at 1 rfl : Sl mvEnc 4 lo hi _ (.slice (some ⟨r, oo, none⟩) l.length c) l)).cells hz_.out 0 _ rfl))))
    refine ru_t 0 [] ?_
    refine ru_t 1 [] ?_
    refine ru_t 2 [] ?_
    refine ru_t 3 [] ?_
    refine ru_t 4 [] ?_
    refine ru_t 5 [] ?_
    (try simp only [Act.put, List.setIfInBounds_toArray, List.set_cons_zero, List.set_cons_succ])
    clear hS12
    refine ru_one 6 rfl (by kernel_rfl) (fun K hK => ?_)
    go_simp
    refine (has_zg i p ((gm l j).fr) _ (F11.at 3 rfl : Bk _ p 3 #[.int .i64 i]) hi6 (by omega)).mono ?_
    rintro e w16 ⟨rfl, hg14⟩
    have hg14s := hg14.size
    (try simp at hg14s)
    have F17 := F11.gn hg14
    clear F11
    refine ru_back hK (by exact ⟨F17.cl 0 0 rfl rfl, ((F17.at 2 rfl : Bk _ bx 135 #[.pointer (some ⟨r, oo + j * 4, none⟩)])).cell 0, (((F17.at 1 rfl : Sl mvEnc 4 lo hi _ (.slice (some ⟨r, oo, none⟩) l.length c) l)).cells hz_.out 0 _ rfl)⟩) (fun hHeld => ?_)
    clear hK K
    (try simp only [Act.put, List.setIfInBounds_toArray, List.set_cons_zero, List.set_cons_succ])
    refine ru_p 7 ?_
    (try simp only [Act.put, List.setIfInBounds_toArray, List.set_cons_zero, List.set_cons_succ])
    refine ru_ps 8 ?_
    refine ru_ps 10 ?_
    (try simp only [Act.put, List.setIfInBounds_toArray, List.set_cons_zero, List.set_cons_succ])
    refine ru_ps 9 ?_
    refine ru_ps 11 ?_
    (try simp only [Act.put, List.setIfInBounds_toArray, List.set_cons_zero, List.set_cons_succ])
    refine ru_ps 12 ?_
    (try simp only [Act.put, List.setIfInBounds_toArray, List.set_cons_zero, List.set_cons_succ])
    refine ru_ps 13 ?_
    (try simp only [Act.put, List.setIfInBounds_toArray, List.set_cons_zero, List.set_cons_succ])
    refine ru_ps 14 ?_
    (try simp only [Act.put, List.setIfInBounds_toArray, List.set_cons_zero, List.set_cons_succ])
    refine ru_ps 15 ?_
    (try simp only [Act.put, List.setIfInBounds_toArray, List.set_cons_zero, List.set_cons_succ])
    refine ru_p 16 ?_
    (try simp only [Act.put, List.setIfInBounds_toArray, List.set_cons_zero, List.set_cons_succ])
    refine ru_one 17 rfl (by kernel_rfl) (fun K hK => ?_)
    go_simp
    refine ru_back_late hK (by kernel_rfl) ?_
    clear hK K
    (try simp only [Act.put, List.setIfInBounds_toArray, List.set_cons_zero, List.set_cons_succ])
    refine ru_done (by kernel_rfl) ?_
    obtain ⟨w18, hx19, F21, hxs20⟩ := (show Bun w [rsl mvEnc 4 lo hi (.slice (some ⟨r, oo, none⟩) l.length c) l, rfix bx 135 #[.pointer (some ⟨r, oo + j * 4, none⟩)], rfix p 3 #[.int .i64 i]] _ from (F17.drop 0 rfl)).name
    (try simp at hxs20)
    rw [hx19]
    clear hx19 F17
    go_wp2_with fail
    go_ret
    exact ⟨rfl, F21.gb⟩
  · skip
    have c5H := Lib.hid c5
    go_wp2_with fail
    have F22 := F4.new 72 #[.func (.func 55) #[] #[.pointer (some ⟨p, 0, none⟩)], .int .i64 g.least, .int .i64 g.most, .bool g.ground, .bool g.rest] (n := w.heap.size) (by simp)
    clear F4
    obtain ⟨w23, hx24, F26, hxs25⟩ := (show Bun w [rbox w.heap.size 72 #[.func (.func 55) #[] #[.pointer (some ⟨p, 0, none⟩)], .int .i64 g.least, .int .i64 g.most, .bool g.ground, .bool g.rest], rsl mvEnc 4 lo hi (.slice (some ⟨r, oo, none⟩) l.length c) l, rfix bx 135 #[.pointer (some ⟨r, oo + j * 4, none⟩)], rfix p 3 #[.int .i64 i]] _ from F22).name
    (try simp at hxs25)
    rw [hx24]
    clear hx24 F22
    have F27 := F26.drew
    clear F26
    refine ru_begin (fun W => W.cell? ⟨w.heap.size, 0, none⟩ = some (.func (.func 55) #[] #[.pointer (some ⟨p, 0, none⟩)]) ∧ W.cell? ⟨bx, 0, none⟩ = some (.pointer (some ⟨r, oo + j * 4, none⟩)) ∧ W.cell? ⟨r, oo + j * 4, none⟩ = some (.int .i64 (gm l j).fr) ∧ W.cell? ⟨r, oo + j * 4 + 1, none⟩ = some (.int .i64 (gm l j).to)) 17 (by kernel_rfl) ?_ ?_
    · exact ⟨F27.cl 0 0 rfl rfl, ((F27.at 2 rfl : Bk _ bx 135 #[.pointer (some ⟨r, oo + j * 4, none⟩)])).cell 0, (((F27.at 1 rfl : Sl mvEnc 4 lo hi _ (.slice (some ⟨r, oo, none⟩) l.length c) l)).cells hz_.out 0 _ rfl), (((F27.at 1 rfl : Sl mvEnc 4 lo hi _ (.slice (some ⟨r, oo, none⟩) l.length c) l)).cells hz_.out 1 _ rfl)⟩
    obtain ⟨wd29, hwd_⟩ : ∃ x : World, w23.drew = x := ⟨_, rfl⟩
    rw [hwd_] at F27 ⊢
    have wd29s : w23.heap.size ≤ wd29.heap.size := by rw [← hwd_]; exact Nat.le_refl _
    clear hwd_
    have hS28 := (And.intro (F27.cl 0 0 rfl rfl) (And.intro (((F27.at 2 rfl : Bk _ bx 135 #[.pointer (some ⟨r, oo + j * 4, none⟩)])).cell 0) (And.intro ((((F27.at 1 rfl : Sl mvEnc 4 lo hi _ (.slice (some ⟨r, oo, none⟩) l.length c) l)).cells hz_.out 0 _ rfl)) ((((F27.at 1 rfl : Sl mvEnc 4 lo hi _ (.slice (some ⟨r, oo, none⟩) l.length c) l)).cells hz_.out 1 _ rfl)))))
    refine ru_t 0 [] ?_
    refine ru_t 1 [] ?_
    refine ru_t 2 [] ?_
    refine ru_t 3 [] ?_
    refine ru_t 4 [] ?_
    refine ru_t 5 [] ?_
    (try simp only [Act.put, List.setIfInBounds_toArray, List.set_cons_zero, List.set_cons_succ])
    clear hS28
    refine ru_one 6 rfl (by kernel_rfl) (fun K hK => ?_)
    go_simp
    refine (has_zg i p ((gm l j).fr) _ (F27.at 3 rfl : Bk _ p 3 #[.int .i64 i]) hi6 (by omega)).mono ?_
    rintro e w32 ⟨rfl, hg30⟩
    have hg30s := hg30.size
    (try simp at hg30s)
    have F33 := F27.gn hg30
    clear F27
    refine ru_back hK (by exact ⟨F33.cl 0 0 rfl rfl, ((F33.at 2 rfl : Bk _ bx 135 #[.pointer (some ⟨r, oo + j * 4, none⟩)])).cell 0, (((F33.at 1 rfl : Sl mvEnc 4 lo hi _ (.slice (some ⟨r, oo, none⟩) l.length c) l)).cells hz_.out 0 _ rfl), (((F33.at 1 rfl : Sl mvEnc 4 lo hi _ (.slice (some ⟨r, oo, none⟩) l.length c) l)).cells hz_.out 1 _ rfl)⟩) (fun hHeld => ?_)
    clear hK K
    (try simp only [Act.put, List.setIfInBounds_toArray, List.set_cons_zero, List.set_cons_succ])
    refine ru_p 7 ?_
    (try simp only [Act.put, List.setIfInBounds_toArray, List.set_cons_zero, List.set_cons_succ])
    refine ru_p 8 ?_
    (try simp only [Act.put, List.setIfInBounds_toArray, List.set_cons_zero, List.set_cons_succ])
    refine ru_t 9 [] ?_
    refine ru_t 10 [] ?_
    (try simp only [Act.put, List.setIfInBounds_toArray, List.set_cons_zero, List.set_cons_succ])
    refine ru_p 11 ?_
    (try simp only [Act.put, List.setIfInBounds_toArray, List.set_cons_zero, List.set_cons_succ])
    refine ru_p 12 ?_
    (try simp only [Act.put, List.setIfInBounds_toArray, List.set_cons_zero, List.set_cons_succ])
    refine ru_t 13 [] ?_
    (try simp only [Act.put, List.setIfInBounds_toArray, List.set_cons_zero, List.set_cons_succ])
    refine ru_one 14 rfl (by kernel_rfl) (fun K hK => ?_)
    go_simp
    refine (has_zg i p ((gm l j).to) _ (F33.at 3 rfl : Bk _ p 3 #[.int .i64 i]) hi6 (by omega)).mono ?_
    rintro e w36 ⟨rfl, hg34⟩
    have hg34s := hg34.size
    (try simp at hg34s)
    have F37 := F33.gn hg34
    clear F33
    refine ru_back hK (by exact ⟨F37.cl 0 0 rfl rfl, ((F37.at 2 rfl : Bk _ bx 135 #[.pointer (some ⟨r, oo + j * 4, none⟩)])).cell 0, (((F37.at 1 rfl : Sl mvEnc 4 lo hi _ (.slice (some ⟨r, oo, none⟩) l.length c) l)).cells hz_.out 0 _ rfl), (((F37.at 1 rfl : Sl mvEnc 4 lo hi _ (.slice (some ⟨r, oo, none⟩) l.length c) l)).cells hz_.out 1 _ rfl)⟩) (fun hHeld => ?_)
    clear hK K
    (try simp only [Act.put, List.setIfInBounds_toArray, List.set_cons_zero, List.set_cons_succ])
    refine ru_p 15 ?_
    (try simp only [Act.put, List.setIfInBounds_toArray, List.set_cons_zero, List.set_cons_succ])
    refine ru_p 16 ?_
    (try simp only [Act.put, List.setIfInBounds_toArray, List.set_cons_zero, List.set_cons_succ])
    refine ru_one 17 rfl (by kernel_rfl) (fun K hK => ?_)
    go_simp
    refine ru_back_late hK (by kernel_rfl) ?_
    clear hK K
    (try simp only [Act.put, List.setIfInBounds_toArray, List.set_cons_zero, List.set_cons_succ])
    refine ru_done (by kernel_rfl) ?_
    obtain ⟨w38, hx39, F41, hxs40⟩ := (show Bun w [rsl mvEnc 4 lo hi (.slice (some ⟨r, oo, none⟩) l.length c) l, rfix bx 135 #[.pointer (some ⟨r, oo + j * 4, none⟩)], rfix p 3 #[.int .i64 i]] _ from (F37.drop 0 rfl)).name
    (try simp at hxs40)
    rw [hx39]
    clear hx39 F37
    go_wp2_with fail
    go_ret
    exact ⟨rfl, F41.gb⟩

set_option maxHeartbeats 4000000 in
theorem no_c (p : Nat) (g : Grp) (w : World)  :
    Calls Tryd.prog 68 #[.agg #[.func (.func 55) #[] #[.pointer (some ⟨p, 0, none⟩)], .int .i64 g.least, .int .i64 g.most, .bool g.ground, .bool g.rest]] w (Ret (.bool false) w) := by
  have F1 : Bun w [] w := Bun.nil _
  go_enter Tryd.func68, Tryd.ntmps68
  go_wp2_with fail
  have F2 := F1.new 72 #[.func (.func 55) #[] #[.pointer (some ⟨p, 0, none⟩)], .int .i64 g.least, .int .i64 g.most, .bool g.ground, .bool g.rest] (n := w.heap.size) (by simp)
  clear F1
  go_ret
  exact ⟨rfl, F2.gb⟩

end Go.Proofs.YtcndphefomigeaaDoor
/- fuel: the flows of a book. -/
namespace Go.Proofs.YtcndphefomigeaaDoor
open Go.RowKit Go.Shelf
set_option maxRecDepth 100000

theorem Bun.rowN {α : Type} (enc : α → List Value) (e : TypeId) (sz : Nat) {w0 A : World} {L : List Res} (h : Bun w0 L A) : Bun w0 (rown enc e sz w0.heap.size (.slice none 0 0) [] :: L) A :=
  h.add (rown enc e sz w0.heap.size (.slice none 0 0) []) (gb_refl _ _) (Own.nil _ _ _ _ _) fun g e => by cases e
/-- What flows hands back. -/
def FlowsP (ra rm n m : Nat) (w : World) (e : Ending) (w' : World) : Prop := ∃ (a : Option Addr) (c : Nat) (l : List FV) (bx bm : Nat → Nat), e = .returned (.slice a l.length c) ∧ FlB ra rm bx bm l n m ∧
  Bun w [rown fvEnc 121 3 w.heap.size (.slice a l.length c) l, rnums 3 n bx (fun k => .int .i64 (k : Int)), rnums 135 m bm (fun k => .pointer (some ⟨rm, k * 4, none⟩))] w'
theorem flows_post {ra rm n m i j : Nat} {bx bm : Nat → Nat} {l : List FV} {v : Value} {w w' : World} (hi : i = n) (hj : j = m) (h : FlB ra rm bx bm l n j)
    (hB : Bun w [rown fvEnc 121 3 w.heap.size v l, rnums 3 i bx (fun k => .int .i64 (k : Int)), rnums 135 j bm (fun k => .pointer (some ⟨rm, k * 4, none⟩))] w') : FlowsP ra rm n m w (.returned v) w' := by
  subst hi hj
  obtain ⟨a, c, rfl⟩ := (Own.sl (hB.at 0 rfl : Own fvEnc 121 3 w.heap.size w' v l) (fun _ => rfl)).any
  exact ⟨a, c, l, bx, bm, rfl, h, hB⟩
set_option maxHeartbeats 16000000 in
theorem flows_c (ra rm n m c1 c2 : Nat) (am : Option Addr) (w : World) (hn : n ≤ 8) (hm : m ≤ 31) (ham : m = 0 ∨ am = some ⟨rm, 0, none⟩) :
    Calls Tryd.prog 57 #[.agg #[.slice (some ⟨ra, 0, none⟩) n c1, .slice am m c2]] w (FlowsP ra rm n m w) := by
  have F1 : Bun w [] w := Bun.nil _
  have HAM := Lib.hid ham
  clear ham
  go_enter Tryd.func57, Tryd.ntmps57
  go_wp2_with fail
  have F2 := F1.new 38 #[.slice (some ⟨ra, 0, none⟩) n c1, .slice am m c2] (n := w.heap.size) (by simp)
  clear F1
  have F3 := F2.rowN fvEnc 121 3
  clear F2
  have F4 := F3.nums0 3 (fun _ => 0) (fun k => .int .i64 (k : Int))
  clear F3
  (skip)
  obtain ⟨HI5_, HI50⟩ : ∃ I : (Nat → Value) → List Deferred → World → Prop, I = (fun t ds wr => ∃ (i : Nat) (vo : Value) (l : List FV) (bx : Nat → Nat), t 1 = .pointer (some ⟨w.heap.size, 0, none⟩) ∧ t 3 = vo ∧ t 12 = .int .i64 (n : Int) ∧ t 13 = .int .i64 (i : Int) ∧ i ≤ n ∧ FlB ra rm bx (fun _ => 0) l i 0 ∧ ds = [] ∧ w.heap.size ≤ wr.heap.size ∧ Bun w [rnums 3 i bx (fun k => .int .i64 (k : Int)), rown fvEnc 121 3 w.heap.size vo l, rbox w.heap.size 38 #[.slice (some ⟨ra, 0, none⟩) n c1, .slice am m c2]] wr) := ⟨_, rfl⟩
  have HI5 := Lib.hid HI50
  clear HI50
  refine wp_loopS 61 rfl HI5_ (fun t wr => n - (intOf (t 13)).toNat) ?atStart1 ?round1
  case round1 =>
    intro t ds wr hHid
    rw [HI5.out] at hHid
    obtain ⟨i, vo, l, bx, e1, e3, e12, e13, hrel⟩ := hHid
    have e : ((List.range 61).map t).toArray = #[t 0, t 1, t 2, t 3, t 4, t 5, t 6, t 7, t 8, t 9, t 10, t 11, t 12, t 13, t 14, t 15, t 16, t 17, t 18, t 19, t 20, t 21, t 22, t 23, t 24, t 25, t 26, t 27, t 28, t 29, t 30, t 31, t 32, t 33, t 34, t 35, t 36, t 37, t 38, t 39, t 40, t 41, t 42, t 43, t 44, t 45, t 46, t 47, t 48, t 49, t 50, t 51, t 52, t 53, t 54, t 55, t 56, t 57, t 58, t 59, t 60] := rfl
    (try dsimp only at e)
    rw [e1, e3, e12, e13] at e
    rw [e]
    simp only [e13]
    clear e e1 e3 e12 e13
    obtain ⟨hi0, hfl, rfl, hs7, hF6⟩ := hrel
    clear F4
    obtain ⟨w8, rfl⟩ : ∃ x_ : World, x_ = wr := ⟨_, rfl⟩
    have hll_ : l.length ≤ 60 := by have := hfl.len; omega
    have HFL := Lib.hid hfl
    clear hfl
    by_cases c9 : (i : Int) < (n : Int)
    · skip
      have c9H := Lib.hid c9
      have b10 := hF6.bx2 2 rfl
      go_wp2_with fail
      clear b10
      have F11 := hF6.new 3 #[.int .i64 (i : Int)] (n := w8.heap.size) (by simp)
      clear hF6
      obtain ⟨w12, hx13, F15, hxs14⟩ := (show Bun w [rbox w8.heap.size 3 #[.int .i64 (i : Int)], rnums 3 i bx (fun k => .int .i64 (k : Int)), rown fvEnc 121 3 w.heap.size vo l, rbox w.heap.size 38 #[.slice (some ⟨ra, 0, none⟩) n c1, .slice am m c2]] _ from F11).name
      (try simp at hxs14)
      rw [hx13]
      clear hx13 F11
      have F16 := F15.drew
      clear F15
      refine ru_begin (fun W => True) 8 (by kernel_rfl) ?_ ?_
      · exact trivial
      obtain ⟨wd18, hwd_⟩ : ∃ x : World, w12.drew = x := ⟨_, rfl⟩
      rw [hwd_] at F16 ⊢
      have wd18s : w12.heap.size ≤ wd18.heap.size := by rw [← hwd_]; exact Nat.le_refl _
      clear hwd_
      have hS17 := trivial
      refine ru_t 0 [] ?_
      refine ru_t 1 [] ?_
      refine ru_t 2 [] ?_
      refine ru_t 3 [] ?_
      refine ru_t 4 [] ?_
      refine ru_t 5 [] ?_
      refine ru_t 6 [] ?_
      (try simp only [Act.put, List.setIfInBounds_toArray, List.set_cons_zero, List.set_cons_succ])
      clear hS17
      refine ru_one 7 rfl (by kernel_rfl) (fun K hK => ?_)
      go_simp
      have F19 := F16.new 134 #[.pointer none, .pointer none] (n := wd18.heap.size) (by simp)
      clear F16
      refine ru_back hK (by exact trivial) (fun hHeld => ?_)
      clear hK K
      (try simp only [Act.put, List.setIfInBounds_toArray, List.set_cons_zero, List.set_cons_succ])
      refine ru_one 8 rfl (by kernel_rfl) (fun K hK => ?_)
      obtain ⟨w20, hx21, F23, hxs22⟩ := (show Bun w [rbox wd18.heap.size 134 #[.pointer none, .pointer none], rbox w8.heap.size 3 #[.int .i64 (i : Int)], rnums 3 i bx (fun k => .int .i64 (k : Int)), rown fvEnc 121 3 w.heap.size vo l, rbox w.heap.size 38 #[.slice (some ⟨ra, 0, none⟩) n c1, .slice am m c2]] _ from F19).name
      (try simp at hxs22)
      rw [hx21]
      clear hx21 F19
      have kb_ := F23.bx2 0 rfl
      go_simp
      clear kb_
      have F24 := F23.pt2 (.pointer (some ⟨ra, i * 6 + 2, none⟩)) (.pointer (some ⟨ra, i * 6 + 4, none⟩))
      clear F23
      refine ru_back_late hK (by kernel_rfl) ?_
      clear hK K
      (try simp only [Act.put, List.setIfInBounds_toArray, List.set_cons_zero, List.set_cons_succ])
      refine ru_done (by kernel_rfl) ?_
      obtain ⟨w25, hx26, F28, hxs27⟩ := (show Bun w [rbox wd18.heap.size 134 #[.pointer (some ⟨ra, i * 6 + 2, none⟩), .pointer (some ⟨ra, i * 6 + 4, none⟩)], rbox w8.heap.size 3 #[.int .i64 (i : Int)], rnums 3 i bx (fun k => .int .i64 (k : Int)), rown fvEnc 121 3 w.heap.size vo l, rbox w.heap.size 38 #[.slice (some ⟨ra, 0, none⟩) n c1, .slice am m c2]] _ from F24).name
      (try simp at hxs27)
      rw [hx26]
      clear hx26 F24
      have b29 := F28.bx2 0 rfl
      go_wp2_with (at_builtin; refine wpList_app _ okFl rfl _ _ rfl w.heap.size vo l [⟨ra, i * 6 + 2, 0, w8.heap.size⟩, ⟨ra, i * 6 + 4, 1, w8.heap.size⟩] rfl (by exact ((F28.at 3 rfl : Own fvEnc 121 3 w.heap.size _ vo l)).alloc _) ⟨_, 0, none⟩ 2 2 rfl rfl (by decide) (news_of (Bk.newAt _ _ _ (by simp))) (l.length + 2) (rfl) (by omega) (by first | omega | (simp; omega)) _ rfl ?_; intro g30 cap31 w32 hp33; refine Hid.out ?_)
      refine Lib.hid ?_
      have hp33s := hp33.gb.size
      (try simp at hp33s)
      clear b29
      have F34 := ((F28.alloc (.cells #[.pointer (some ⟨ra, i * 6 + 2, none⟩), .func (.func 67) #[] #[.pointer (some ⟨w8.heap.size, 0, none⟩)], .func (.func 68) #[] #[], .pointer (some ⟨ra, i * 6 + 4, none⟩), .func (.func 68) #[] #[], .func (.func 67) #[] #[.pointer (some ⟨w8.heap.size, 0, none⟩)]] 121)).front 3 rfl rfl).app hp33 (by simp)
      clear F28
      go_wp2_with fail
      have F35 := Bun.numsS (n := i) (v := (fun k => .int .i64 (k : Int))) ((F34.front 3 rfl rfl).front 3 rfl rfl)
      clear F34
      (skip)
      have F36 : Bun w [rnums 3 (i + 1) (updN bx i w8.heap.size) (fun k => .int .i64 (k : Int)), rown fvEnc 121 3 w.heap.size (.slice (some ⟨g30, 0, none⟩) (l.length + 2) cap31) (l ++ [⟨ra, i * 6 + 2, 0, w8.heap.size⟩, ⟨ra, i * 6 + 4, 1, w8.heap.size⟩]), rbox w.heap.size 38 #[.slice (some ⟨ra, 0, none⟩) n c1, .slice am m c2]] _ := F35.pick [0, 1, 3] (by decide) rfl
      clear F35
      (first | refine ⟨by kernel_rfl, ?_, ?_⟩ | refine ⟨rfl, ?_, ?_⟩ | refine ⟨?_, ?_⟩)
      · rw [HI5.out]; exact ⟨i + 1, _, _, _, (by first | kernel_rfl | rfl), (by first | kernel_rfl | rfl), (by first | kernel_rfl | rfl), (by show Value.int .i64 ((i : Int) + 1) = _; simp), (by omega), flB_acc _ HFL.out, (by first | rfl | simp), (by first | omega | (simp; done) | (simp; omega)), F36⟩
      · simp [slot, intOf]; omega
    · skip
      have c9H := Lib.hid c9
      have c9a : decide ((i : Int) < (n : Int)) = false := dec_f c9
      have b37 := hF6.bx2 2 rfl
      go_wp2_with fail
      clear b37
      have F38 := hF6.nums0 135 (fun _ => 0) (fun k => .pointer (some ⟨rm, k * 4, none⟩))
      clear hF6
      (skip)
      obtain ⟨HI39_, HI390⟩ : ∃ I : (Nat → Value) → List Deferred → World → Prop, I = (fun t ds wr => ∃ (j : Nat) (vo : Value) (l : List FV) (bm : Nat → Nat), t 1 = .pointer (some ⟨w.heap.size, 0, none⟩) ∧ t 3 = vo ∧ t 42 = .int .i64 (m : Int) ∧ t 43 = .int .i64 (j : Int) ∧ j ≤ m ∧ FlB ra rm bx bm l n j ∧ ds = [] ∧ w8.heap.size ≤ wr.heap.size ∧ Bun w [rnums 135 j bm (fun k => .pointer (some ⟨rm, k * 4, none⟩)), rnums 3 i bx (fun k => .int .i64 (k : Int)), rown fvEnc 121 3 w.heap.size vo l, rbox w.heap.size 38 #[.slice (some ⟨ra, 0, none⟩) n c1, .slice am m c2]] wr) := ⟨_, rfl⟩
      have HI39 := Lib.hid HI390
      clear HI390
      refine wp_loopS 61 rfl HI39_ (fun t wr => m - (intOf (t 43)).toNat) ?atStart2 ?round2
      case round2 =>
        intro t ds wr hHid
        rw [HI39.out] at hHid
        obtain ⟨j, vo, l, bm, e1, e3, e42, e43, hrel⟩ := hHid
        have e : ((List.range 61).map t).toArray = #[t 0, t 1, t 2, t 3, t 4, t 5, t 6, t 7, t 8, t 9, t 10, t 11, t 12, t 13, t 14, t 15, t 16, t 17, t 18, t 19, t 20, t 21, t 22, t 23, t 24, t 25, t 26, t 27, t 28, t 29, t 30, t 31, t 32, t 33, t 34, t 35, t 36, t 37, t 38, t 39, t 40, t 41, t 42, t 43, t 44, t 45, t 46, t 47, t 48, t 49, t 50, t 51, t 52, t 53, t 54, t 55, t 56, t 57, t 58, t 59, t 60] := rfl
        (try dsimp only at e)
        rw [e1, e3, e42, e43] at e
        rw [e]
        simp only [e43]
        clear e e1 e3 e42 e43
        obtain ⟨hj0, hfl, rfl, hs41, hF40⟩ := hrel
        clear F38
        obtain ⟨w42, rfl⟩ : ∃ x_ : World, x_ = wr := ⟨_, rfl⟩
        have hll_ : l.length ≤ 60 := by have := hfl.len; omega
        have HFL := Lib.hid hfl
        clear hfl
        by_cases c43 : (j : Int) < (m : Int)
        · skip
          have c43H := Lib.hid c43
          obtain rfl : am = some ⟨rm, 0, none⟩ := HAM.out.resolve_left (by omega)
          have b44 := hF40.bx2 3 rfl
          have F45 := hF40.new 135 #[.pointer (some ⟨rm, j * 4, none⟩)] (n := w42.heap.size) (by simp)
          clear hF40
          go_wp2_with (at_builtin; refine wpList_app _ okFl rfl _ _ rfl w.heap.size vo l [⟨rm, j * 4 + 2, 2, w42.heap.size⟩] rfl (by exact ((F45.at 3 rfl : Own fvEnc 121 3 w.heap.size _ vo l)).alloc _) ⟨_, 0, none⟩ 1 1 rfl rfl (by decide) (news_of (Bk.newAt _ _ _ (by simp))) (l.length + 1) (rfl) (by omega) (by first | omega | (simp; omega)) _ rfl ?_; intro g46 cap47 w48 hp49; refine Hid.out ?_)
          refine Lib.hid ?_
          have hp49s := hp49.gb.size
          (try simp at hp49s)
          clear b44
          have F50 := ((F45.alloc (.cells #[.pointer (some ⟨rm, j * 4 + 2, none⟩), .func (.func 69) #[] #[.pointer (some ⟨w42.heap.size, 0, none⟩)], .func (.func 70) #[] #[.pointer (some ⟨w42.heap.size, 0, none⟩)]] 121)).front 3 rfl rfl).app hp49 (by simp)
          clear F45
          go_wp2_with fail
          have F51 := Bun.numsS (n := j) (v := (fun k => .pointer (some ⟨rm, k * 4, none⟩))) ((F50.front 2 rfl rfl).front 2 rfl rfl)
          clear F50
          (skip)
          have F52 : Bun w [rnums 135 (j + 1) (updN bm j w42.heap.size) (fun k => .pointer (some ⟨rm, k * 4, none⟩)), rnums 3 i bx (fun k => .int .i64 (k : Int)), rown fvEnc 121 3 w.heap.size (.slice (some ⟨g46, 0, none⟩) (l.length + 1) cap47) (l ++ [⟨rm, j * 4 + 2, 2, w42.heap.size⟩]), rbox w.heap.size 38 #[.slice (some ⟨ra, 0, none⟩) n c1, .slice (some ⟨rm, 0, none⟩) m c2]] _ := F51.pick [0, 2, 1, 3] (by decide) rfl
          clear F51
          (first | refine ⟨by kernel_rfl, ?_, ?_⟩ | refine ⟨rfl, ?_, ?_⟩ | refine ⟨?_, ?_⟩)
          · rw [HI39.out]; exact ⟨j + 1, _, _, _, (by first | kernel_rfl | rfl), (by first | kernel_rfl | rfl), (by first | kernel_rfl | rfl), (by show Value.int .i64 ((j : Int) + 1) = _; simp), (by omega), flB_mv _ HFL.out, (by first | rfl | simp), (by first | omega | (simp; done) | (simp; omega)), F52⟩
          · simp [slot, intOf]; omega
        · skip
          have c43H := Lib.hid c43
          have c43a : decide ((j : Int) < (m : Int)) = false := dec_f c43
          go_wp2_with fail
          exact bodyPost_ret (v := vo) (by simp [results, Tryd.results57, go_sem]) rfl ((flows_post (by omega) (by omega) HFL.out (hF40.pick [2, 1, 0] (by decide) rfl)))
      case atStart2 =>
        rw [HI39.out]
        exact ⟨0, _, _, _, (by first | kernel_rfl | rfl), rfl, (by first | kernel_rfl | rfl), rfl, Nat.zero_le _, (show FlB _ _ _ _ _ n 0 by rw [show n = i by omega]; exact HFL.out), rfl, (by first | exact Nat.le_refl _ | omega | (simp; done) | (simp; omega)), F38⟩
  case atStart1 =>
    rw [HI5.out]
    exact ⟨0, _, [], _, (by first | kernel_rfl | rfl), rfl, (by first | kernel_rfl | rfl), rfl, Nat.zero_le _, flB_zero _ _ _ _, rfl, (by first | exact Nat.le_refl _ | omega | (simp; done) | (simp; omega)), F4⟩

end Go.Proofs.YtcndphefomigeaaDoor
/- A range over a function whose elements each have a block of their own, walked with what is in hand: all that is in hand lies below the loop. -/
namespace Go.Proofs.YtcndphefomigeaaDoor
open Go.RowKit Go.Shelf

def LowL (s : Nat) (L : List Res) : Prop := ∀ r ∈ L, ∀ g, r.X g → g < s
theorem LowL.cong {s : Nat} {L L' : List Res} (h : LowL s L) (e : L'.map Res.X = L.map Res.X) : LowL s L' := fun r hr g hx => by
  have : r.X ∈ L.map Res.X := e ▸ List.mem_map_of_mem hr
  obtain ⟨r', hr', e'⟩ := List.mem_map.1 this
  exact h r' hr' g (by rw [e']; exact hx)
section
variable {w0 A B : World} {L : List Res} {s : Nat}
theorem Bun.low (h : Bun w0 L A) : LowL A.heap.size L := fun r hr g hx => (h.bd r hr g hx).1
theorem Bun.gbFrom (h : Bun w0 L A) (hl : LowL s L) (hw : w0.heap.size ≤ s) {r : Option Nat} (hg : A.grownBy B r) (hr : ∀ g, r = some g → s ≤ g) : Bun w0 L B :=
  ⟨fun x hx => x.st A B r hg (fun g e hxg => by have := hl x hx g hxg; have := hr g e; omega) (h.all x hx), fun x hx g hxg => ⟨Nat.lt_of_lt_of_le (h.bd x hx g hxg).1 hg.size, (h.bd x hx g hxg).2⟩, h.dis, gb_trans' h.gb hg fun g e => .inr (Nat.le_trans hw (hr g e))⟩
theorem Bun.ranged {p : Nat} {t : TypeId} {cs : Array Value} (h : Bun w0 L A) (hl : LowL s L) (hw : w0.heap.size ≤ s) (h1 : s + 2 ≤ A.heap.size) (hp : s + 2 ≤ p) (hb : Bk A p t cs) : Bun w0 (rkeep s (s + 2) A :: rfix p t cs :: L) A := by
  refine ⟨fun r hr => ?_, fun r hr g hx => ?_, ?_, h.gb⟩
  · rcases List.mem_cons.1 hr with rfl | hr
    · exact ⟨h1, fun _ _ _ => rfl⟩
    · rcases List.mem_cons.1 hr with rfl | hr
      · exact hb
      · exact h.all r hr
  · rcases List.mem_cons.1 hr with rfl | hr
    · have e1 : s ≤ g := hx.1
      have e2 : g < s + 2 := hx.2
      exact ⟨by omega, fun _ => by omega⟩
    · rcases List.mem_cons.1 hr with rfl | hr
      · cases hx; exact ⟨hb.lt, fun e => by cases e⟩
      · exact h.bd r hr g hx
  · rw [List.pairwise_cons, List.pairwise_cons]
    refine ⟨fun x hx _ g hg1 hg2 => ?_, fun x hx _ g hg1 hg2 => ?_, h.dis⟩
    · have e1 : s ≤ g := hg1.1
      have e2 : g < s + 2 := hg1.2
      rcases List.mem_cons.1 hx with rfl | hx
      · have : g = p := hg2
        omega
      · have := hl x hx g hg2
        omega
    · have : g = p := hg1
      have := hl x hx g hg2
      omega
theorem Bun.marked (h : Bun w0 L A) (hl : LowL s L) (hw : w0.heap.size ≤ s) (hk : A.heap[s]? = some (.deferred (some []))) : Bun w0 (rkeep s (s + 1) A :: L) A := by
  have hlt : s < A.heap.size := (Array.getElem?_eq_some_iff.1 hk).1
  refine ⟨fun r hr => ?_, fun r hr g hx => ?_, ?_, h.gb⟩
  · rcases List.mem_cons.1 hr with rfl | hr
    · exact ⟨hlt, fun _ _ _ => rfl⟩
    · exact h.all r hr
  · rcases List.mem_cons.1 hr with rfl | hr
    · have e1 : s ≤ g := hx.1
      have e2 : g < s + 1 := hx.2
      exact ⟨by omega, fun _ => by omega⟩
    · exact h.bd r hr g hx
  · rw [List.pairwise_cons]
    refine ⟨fun x hx _ g hg1 hg2 => ?_, h.dis⟩
    have e1 : s ≤ g := hg1.1
    have := hl x hx g hg2
    have e2 : g < s + 1 := hg1.2
    omega
end
theorem KeepR.d {s : Nat} {A B : World} (h : KeepR s (s + 2) A B) : KeepD s A B := ⟨h.2 s (by omega) (by omega), h.2 (s + 1) (by omega) (by omega)⟩
theorem groups_b (va vm : Value) (w : World) (hva : ∃ a n c, va = .slice a n c) (hvm : ∃ a n c, vm = .slice a n c) :
    Calls Tryd.prog 28 #[.agg #[va, vm]] w fun e w' => ∃ bx, e = .returned (.func (.func 54) #[] #[.pointer (some ⟨bx, 0, none⟩)]) ∧ w.heap.size ≤ bx ∧ Bk w' bx 38 #[va, vm] ∧ w.grownBy w' none :=
  (groups_c va vm w hva hvm).mono fun e w' h => by
    obtain ⟨he, hw⟩ := h
    subst hw
    exact ⟨_, he, Nat.le_refl _, Bk.new _ _ _, gb_alloc (gb_refl _ _) _⟩
end Go.Proofs.YtcndphefomigeaaDoor
