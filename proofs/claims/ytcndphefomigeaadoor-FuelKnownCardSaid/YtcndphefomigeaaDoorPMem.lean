/- Slices in memory, told as lists. -/
import Derived.Test.YtcndphefomigeaaDoorPBase
import Derived.Maps.AppendAt
set_option linter.unusedVariables false
set_option linter.unusedSimpArgs false
set_option linter.unnecessarySimpa false
namespace Go.Proofs.YtcndphefomigeaaDoor
open Go.RowKit

/-- The slice value v reads as the list l; each element lies in sz cells, as enc says; its array lies in a block from lo on, below hi. -/
def Sl {α : Type} (enc : α → List Value) (sz lo hi : Nat) (w : World) (v : Value) (l : List α) : Prop :=
  l.length ≤ maxLen ∧ ∃ a c, v = .slice a l.length c ∧
    (l = [] ∨ ∃ b off, a = some ⟨b, off, none⟩ ∧ lo ≤ b ∧ b < hi ∧ ∀ i x, l[i]? = some x → ∀ j u, (enc x)[j]? = some u → w.cell? ⟨b, off + i * sz + j, none⟩ = some u)

section
variable {α : Type} {enc : α → List Value} {sz lo hi : Nat} {w w' : World} {v : Value} {l : List α}
theorem Sl.len (h : Sl enc sz lo hi w v l) : l.length ≤ maxLen := h.1
theorem Sl.keep (h : Sl enc sz lo hi w v l) (hk : ∀ b o, lo ≤ b → b < hi → ∀ u, w.cell? ⟨b, o, none⟩ = some u → w'.cell? ⟨b, o, none⟩ = some u) : Sl enc sz lo hi w' v l := by
  obtain ⟨hm, a, c, hv, h⟩ := h
  refine ⟨hm, a, c, hv, ?_⟩
  rcases h with h | ⟨b, off, ha, h1, h2, h3⟩
  · exact .inl h
  · exact .inr ⟨b, off, ha, h1, h2, fun i x hi j u hj => hk b _ h1 h2 u (h3 i x hi j u hj)⟩
theorem Sl.gb {r : Option Nat} (h : Sl enc sz lo hi w v l) (hg : w.grownBy w' r) (hr : ∀ g, r = some g → g < lo ∨ hi ≤ g) : Sl enc sz lo hi w' v l :=
  h.keep fun b o h1 h2 u hu => gbc hg (by
    intro e
    have := hr b e.symm
    omega) hu
theorem Sl.below {B : Nat} (h : Sl enc sz lo hi w v l) (hb : Below B w w') (hB : hi ≤ B) : Sl enc sz lo hi w' v l :=
  h.keep fun b o _ h2 u hu => (hb.cell (p := ⟨b, o, none⟩) (Nat.lt_of_lt_of_le h2 hB)).trans hu
theorem Sl.alloc (h : Sl enc sz lo hi w v l) (x : Obj) : Sl enc sz lo hi (w.alloc x) v l := h.keep fun b o _ _ u hu => alc x hu
theorem Sl.drew (h : Sl enc sz lo hi w v l) : Sl enc sz lo hi w.drew v l := h
theorem Sl.drewN (h : Sl enc sz lo hi w v l) (n : Nat) : Sl enc sz lo hi (w.drewN n) v l := h
theorem Sl.far (h : Sl enc sz lo hi w v l) {p : Addr} (hp : p.block < lo ∨ hi ≤ p.block) (u : Value) : Sl enc sz lo hi (w.setCell p u) v l :=
  h.keep fun b o h1 h2 x hx => (World.cell?_setCell_other w p ⟨b, o, none⟩ u (fun e => by
    subst e
    simp only at hp
    omega)).trans hx
theorem Sl.wide {lo' hi' : Nat} (h : Sl enc sz lo hi w v l) (h1 : lo' ≤ lo) (h2 : hi ≤ hi') : Sl enc sz lo' hi' w v l := by
  obtain ⟨hm, a, c, hv, h⟩ := h
  refine ⟨hm, a, c, hv, ?_⟩
  rcases h with h | ⟨b, off, ha, h3, h4, h5⟩
  · exact .inl h
  · exact .inr ⟨b, off, ha, by omega, by omega, h5⟩
/-- The value of a slice: its address where it has an element. -/
theorem Sl.form (h : Sl enc sz lo hi w v l) (hne : 0 < l.length) : ∃ b off c, v = .slice (some ⟨b, off, none⟩) l.length c ∧ lo ≤ b ∧ b < hi ∧
    ∀ i (hi' : i < l.length) j u, (enc l[i])[j]? = some u → w.cell? ⟨b, off + i * sz + j, none⟩ = some u := by
  obtain ⟨_, a, c, hv, h⟩ := h
  rcases h with rfl | ⟨b, off, rfl, h1, h2, h3⟩
  · simp at hne
  · exact ⟨b, off, c, hv, h1, h2, fun i hi' j u hj => h3 i l[i] (List.getElem?_eq_getElem hi') j u hj⟩
theorem Sl.nil_ (h : Sl enc sz lo hi w v l) (hne : l.length = 0) : ∃ a c, v = .slice a 0 c ∧ l = [] := by
  obtain ⟨_, a, c, hv, _⟩ := h
  rw [hne] at hv
  exact ⟨a, c, hv, List.eq_nil_of_length_eq_zero hne⟩
theorem Sl.any (h : Sl enc sz lo hi w v l) : ∃ a c, v = .slice a l.length c := by
  obtain ⟨_, a, c, hv, _⟩ := h
  exact ⟨a, c, hv⟩
theorem Sl.of_nil (a : Option Addr) (c : Nat) : Sl enc sz lo hi w (.slice a 0 c) [] := ⟨Nat.zero_le _, a, c, rfl, .inl rfl⟩
end

def intEnc (z : Int) : List Value := [.int .i64 z]
/-- A slice of ints. -/
abbrev Ints (lo hi : Nat) (w : World) (v : Value) (l : List Int) : Prop := Sl intEnc 1 lo hi w v l
theorem Ints.form' {lo hi : Nat} {w : World} {v : Value} {l : List Int} (h : Ints lo hi w v l) (hne : 0 < l.length) : ∃ b off c, v = .slice (some ⟨b, off, none⟩) l.length c ∧ lo ≤ b ∧ b < hi ∧
    ∀ i (hi' : i < l.length), w.cell? ⟨b, off + i, none⟩ = some (.int .i64 l[i]) := by
  obtain ⟨b, off, c, hv, h1, h2, h3⟩ := h.form hne
  refine ⟨b, off, c, hv, h1, h2, fun i hi' => ?_⟩
  have := h3 i hi' 0 _ rfl
  simpa using this

/-- Element i of a list of ints, 0 beyond it. -/
def gi (l : List Int) (i : Nat) : Int := l.getD i 0
theorem gi_get {l : List Int} {i : Nat} (h : i < l.length) : gi l i = l[i] := by simp [gi, h]
/-- The cells of a slice of ints that is not empty. -/
theorem Ints.at {lo hi : Nat} {w : World} {v : Value} {l : List Int} (h : Ints lo hi w v l) (hne : 0 < l.length) : ∃ b off c, v = .slice (some ⟨b, off, none⟩) l.length c ∧ lo ≤ b ∧ b < hi ∧
    ∀ i, i < l.length → w.cell? ⟨b, off + i, none⟩ = some (.int .i64 (gi l i)) := by
  obtain ⟨b, off, c, hv, h1, h2, h3⟩ := Ints.form' h hne
  exact ⟨b, off, c, hv, h1, h2, fun i hi' => by rw [gi_get hi']; exact h3 i hi'⟩

structure Sp where
  lo : Int
  hi : Int
  deriving DecidableEq
def Sp.v (s : Sp) : Value := .agg #[.int .i64 s.lo, .int .i64 s.hi]
def spEnc (s : Sp) : List Value := [.int .i64 s.lo, .int .i64 s.hi]
/-- A slice of spans. -/
abbrev Sps (lo hi : Nat) (w : World) (v : Value) (l : List Sp) : Prop := Sl spEnc 2 lo hi w v l
theorem Sps.form' {lo hi : Nat} {w : World} {v : Value} {l : List Sp} (h : Sps lo hi w v l) (hne : 0 < l.length) : ∃ b off c, v = .slice (some ⟨b, off, none⟩) l.length c ∧ lo ≤ b ∧ b < hi ∧
    ∀ i (hi' : i < l.length), w.cell? ⟨b, off + i * 2, none⟩ = some (.int .i64 l[i].lo) ∧ w.cell? ⟨b, off + i * 2 + 1, none⟩ = some (.int .i64 l[i].hi) := by
  obtain ⟨b, off, c, hv, h1, h2, h3⟩ := h.form hne
  exact ⟨b, off, c, hv, h1, h2, fun i hi' => ⟨h3 i hi' 0 _ rfl, h3 i hi' 1 _ rfl⟩⟩

/-- A call hands back just v; of what was there nothing has turned. -/
def Ret (v : Value) (w : World) (e : Ending) (w' : World) : Prop := e = .returned v ∧ w.grownBy w' none
/-- A row that the call owns reads as a list. -/
theorem Sl.of_own {α : Type} {enc : α → List Value} {sz : Nat} {w : World} {v : Value} {l : List α} {base : Nat} {e : TypeId} (h : w.ownsRow base e sz v l.length (l.flatMap enc)) (hsz : ∀ x, (enc x).length = sz) :
    Sl enc sz base w.heap.size w v l := by
  have hlt := h.lt
  have hc := @World.ownsRow.cells
  obtain ⟨h0, h1⟩ := h
  rcases h1 with ⟨rfl, hn⟩ | ⟨g, cap, cur, rfl, hb, hh, hnc, hcm, hcs, htk⟩
  · obtain rfl : l = [] := List.eq_nil_of_length_eq_zero hn
    exact Sl.of_nil _ _
  · refine ⟨by omega, _, cap, rfl, .inr ⟨g, 0, rfl, hb, (hlt g rfl).2, fun i x hi j u hj => ?_⟩⟩
    have key : ∀ (l : List α) (i : Nat) (x : α), l[i]? = some x → ∀ j u, (enc x)[j]? = some u → (l.flatMap enc)[i * sz + j]? = some u := by
      intro l
      induction l with
      | nil => intro i x h; simp at h
      | cons y l ih =>
        intro i x hi j u hj
        have hjl : j < sz := by have := (List.getElem?_eq_some_iff.1 hj).1; rw [hsz] at this; exact this
        rw [List.flatMap_cons]
        cases i with
        | zero =>
          simp at hi
          subst hi
          rw [List.getElem?_append_left (by rw [hsz]; omega)]
          simpa using hj
        | succ i =>
          rw [List.getElem?_append_right (by rw [hsz, Nat.succ_mul]; omega), hsz]
          have : (i + 1) * sz + j - sz = i * sz + j := by rw [Nat.succ_mul]; omega
          rw [this]
          exact ih i x (by simpa using hi) j u hj
    have hk := key l i x hi j u hj
    rw [← htk] at hk
    have hk2 : cur.toList[i * sz + j]? = some u := by
      rw [List.getElem?_take] at hk
      split at hk
      · exact hk
      · cases hk
    rw [Nat.zero_add]
    simp only [World.cell?, hh]
    simpa using hk2
end Go.Proofs.YtcndphefomigeaaDoor
