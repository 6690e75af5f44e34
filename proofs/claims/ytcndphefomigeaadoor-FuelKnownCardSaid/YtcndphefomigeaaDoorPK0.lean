/- fuel and its reference: which names an account may have. -/
import Derived.Test.YtcndphefomigeaaDoorPFuel1
import Derived.Laws.RangeAny
import Derived.Test.YtcndphefomigeaaDoorPBase
import Derived.Maps.OwnOps
import Derived.Maps.Views
import Derived.StringKeys
set_option linter.unusedVariables false
set_option linter.unusedSimpArgs false
set_option linter.unnecessarySimpa false
namespace Go.Proofs.YtcndphefomigeaaDoor
open Go.RowKit

def smallB (c : UInt8) : Bool := decide (97 ≤ c.toNat ∧ c.toNat ≤ 122)
/-- 1 to 8 small letters. -/
def namedB (s : ByteArray) : Bool := s.data.toList.all smallB && inB s.size 1 8
theorem named_bad {s : ByteArray} {i : Nat} (h : i < s.size) (hb : ¬ (97 ≤ (s[i]'h).toNat ∧ (s[i]'h).toNat ≤ 122)) : namedB s = false := by
  have : s.data.toList.all smallB = false := by
    rw [List.all_eq_false]
    refine ⟨s[i]'h, ?_, by simp [smallB]; omega⟩
    exact Array.mem_toList_iff.2 (Array.getElem_mem (xs := s.data) (i := i) h)
  simp [namedB, this]
theorem named_all {s : ByteArray} (h : ∀ i (hi : i < s.size), 97 ≤ (s[i]'hi).toNat ∧ (s[i]'hi).toNat ≤ 122) : namedB s = inB s.size 1 8 := by
  have : s.data.toList.all smallB = true := by
    rw [List.all_eq_true]
    intro c hc
    obtain ⟨i, hi, rfl⟩ := List.getElem_of_mem hc
    have hi' : i < s.size := by simpa using hi
    have := h i hi'
    simp only [smallB, decide_eq_true_eq]
    exact this
  simp [namedB, this]

set_option maxHeartbeats 400000 in
theorem named_c (s : ByteArray) (hs : s.size ≤ maxLen) (w : World) : Calls Tryd.prog 53 #[.string s] w (Ret (.bool (namedB s)) w) := by
  unfold maxLen at hs
  go_enter Tryd.func53, Tryd.ntmps53
  go_wp2
  go_loopw [2] (fun r wr => ∃ pos : Nat, pos ≤ s.size ∧ wr = w.iter s pos ∧ r = .bool false ∧ ∀ i (hi : i < s.size), i < pos → 97 ≤ (s[i]'hi).toNat ∧ (s[i]'hi).toNat ≤ 122) (fun _ wr => s.size - wr.iterPos w.heap.size)
  case atStart => exact ⟨0, Nat.zero_le _, rfl, rfl, fun i hi h => by omega⟩
  case round =>
    obtain ⟨pos, hp0, rfl, rfl, hall⟩ := hrel
    have HA := Lib.hid hall
    clear hall
    by_cases hp : pos < s.size
    · have hnx : ∀ ty, (Instr.next (.pointer (some ⟨w.heap.size, 0, none⟩)) true ty).run Tryd.prog (w.iter s pos) = _ := fun ty => run_next_any w s pos ty hp
      by_cases ha : (s[pos]'hp).toNat < 128
      · rw [decode_ascii s pos hp ha] at hnx
        by_cases hb : 97 ≤ (s[pos]'hp).toNat ∧ (s[pos]'hp).toNat ≤ 122
        · obtain ⟨b1, b2⟩ := hb
          have c1 : ¬ ((s[pos]'hp).toNat : Int) < 97 := by omega
          have c2 : ¬ (122 : Int) < ((s[pos]'hp).toNat : Int) := by omega
          go_wp2
          go_roundw
          case rel => exact ⟨pos + 1, by omega, rfl, rfl, fun i hi h => by
              rcases Nat.lt_succ_iff_lt_or_eq.1 h with h | rfl
              · exact HA.out i hi h
              · exact ⟨b1, b2⟩⟩
          case measure => simp; omega
        · have Hx := Lib.hid (named_bad hp hb)
          by_cases c1 : ((s[pos]'hp).toNat : Int) < 97
          · go_wp2
            go_ret
            exact ⟨by rw [Hx.out]; rfl, gb_alloc (gb_refl _ _) _⟩
          · have c2 : (122 : Int) < ((s[pos]'hp).toNat : Int) := by omega
            go_wp2
            go_ret
            exact ⟨by rw [Hx.out]; rfl, gb_alloc (gb_refl _ _) _⟩
      · have hd := decode_high s pos hp (by omega)
        have Hx := Lib.hid (named_bad hp (fun h => by omega))
        have c1 : ¬ ((Utf8.decode s pos).1 : Int) < 97 := by omega
        have c2 : (122 : Int) < ((Utf8.decode s pos).1 : Int) := by omega
        go_wp2
        go_ret
        exact ⟨by rw [Hx.out]; rfl, gb_alloc (gb_refl _ _) _⟩
    · have hnx : ∀ ty, (Instr.next (.pointer (some ⟨w.heap.size, 0, none⟩)) true ty).run Tryd.prog (w.iter s pos) = _ := fun ty => run_next_end w s pos ty hp
      have Hx := Lib.hid (named_all (s := s) fun i hi => HA.out i hi (by omega))
      go_wp2_with (go_at_call 49; refine (in_c _ _ _ _).mono ?_; rintro e w' ⟨rfl, rfl⟩)
      go_ret
      exact ⟨by rw [Hx.out]; rfl, gb_alloc (gb_refl _ _) _⟩
end Go.Proofs.YtcndphefomigeaaDoor
/- A set of names, kept in a map from strings to truths that the call made. -/
namespace Go.Proofs.YtcndphefomigeaaDoor
open Go.RowKit Go.Maps Go.WideMaps
set_option maxRecDepth 100000

theorem namesLaw : Keyed Tryd.prog 9 := string_keyed Tryd.underlying9
/-- Block b is a map that has just the names of a list. -/
def NameSet (w : World) (b k : Nat) (names : List ByteArray) : Prop :=
  ∃ D : DataW Unit, w.ownsMap Tryd.prog 9 (plainElem Tryd.prog 4) b k D ∧ IsMap D ∧
    ∀ s : List UInt8, D.atKey (.string s) (.lit (.bool false)) = .lit (.bool (decide (∃ n ∈ names, n.data.toList = s)))
def hasName (names : List ByteArray) (s : ByteArray) : Bool := decide (∃ n ∈ names, n.data.toList = s.data.toList)
section
variable {w w' : World} {b k : Nat} {names : List ByteArray}
theorem NameSet.made (w : World) : NameSet (w.alloc (.map #[] 0)) w.heap.size 0 [] :=
  ⟨.map [], World.ownsMap_made _ _ _ _, isMap_empty, fun s => by simp [DataW.atKey]⟩
theorem NameSet.lt (h : NameSet w b k names) : b < w.heap.size := by obtain ⟨D, h, _⟩ := h; exact World.ownsMap.lt h
theorem NameSet.gb {r : Option Nat} (h : NameSet w b k names) (hg : w.grownBy w' r) (hr : some b ≠ r) : NameSet w' b k names := by
  obtain ⟨D, h, h1, h2⟩ := h
  exact ⟨D, World.ownsMap.kept h hg hr, h1, h2⟩
theorem NameSet.alloc (h : NameSet w b k names) (o : Obj) : NameSet (w.alloc o) b k names := h.gb (gb_alloc (gb_refl _ none) o) (by simp)
theorem NameSet.look (h : NameSet w b k names) (s : ByteArray) (hs : s.size ≤ maxLen) : (Instr.lookup 112 (.map (some b)) (.string s) false).run Tryd.prog w = .ok (.bool (hasName names s)) w := by
  obtain ⟨D, h, h1, h2⟩ := h
  have hz : (zeroValue 4).run Tryd.prog w = .ok (.bool false) w := by kernel_rfl
  obtain ⟨v, ps, hrun, hv⟩ := World.ownsMap.lookup h namesLaw Tryd.underlying112 hz (plainElem_bool Tryd.underlying4 false) (keyOf_string_mk Tryd.underlying9 hs)
  rw [h2] at hv
  unfold plainElem at hv
  rw [Tryd.underlying4] at hv
  cases v with
  | bool x =>
    simp only [Option.some.injEq, Prod.mk.injEq, DataW.lit.injEq, Lit.bool.injEq] at hv
    rw [hrun, hv.1]
    rfl
  | _ => simp at hv
theorem NameSet.put (h : NameSet w b k names) (hk : k < 1000) (s : ByteArray) (hs : s.size ≤ maxLen) : ∃ w', (Instr.mapUpdate 112 (.map (some b)) (.string s) (.bool true)).run Tryd.prog w = .ok () w' ∧ NameSet w' b (k + 1) (names ++ [s]) ∧ w.grownBy w' (some b) := by
  obtain ⟨D, h, h1, h2⟩ := h
  obtain ⟨w', hrun, ho, hg⟩ := World.ownsMap.update h namesLaw Tryd.underlying112 (by simp only [maxLen]; omega) (keyOf_string_mk Tryd.underlying9 hs) (plainElem_bool Tryd.underlying4 true)
  refine ⟨w', hrun, ⟨_, ho, IsMap.put h1 _ _, fun t => ?_⟩, hg⟩
  by_cases e : t = s.data.toList
  · subst e
    rw [atKey_put_same h1 (k := .string s.data.toList) trivial]
    have e : decide (∃ n ∈ names ++ [s], n.data.toList = s.data.toList) = true := by
      rw [decide_eq_true_iff]
      exact ⟨s, by simp, rfl⟩
    rw [e]
  · rw [atKey_put_other (fun h => e (by injection h)), h2]
    have e2 : decide (∃ n ∈ names, n.data.toList = t) = decide (∃ n ∈ names ++ [s], n.data.toList = t) := by
      rw [decide_eq_decide]
      simp only [List.mem_append, List.mem_singleton]
      constructor
      · rintro ⟨n, hn, h⟩
        exact ⟨n, .inl hn, h⟩
      · rintro ⟨n, hn | hn, h⟩
        · exact ⟨n, hn, h⟩
        · subst hn
          exact absurd h.symm e
    rw [e2]
end
end Go.Proofs.YtcndphefomigeaaDoor
/- Books of accounts and moves, and the error of a book. -/
namespace Go.Proofs.YtcndphefomigeaaDoor
open Go.RowKit

structure Acc where
  name : ByteArray
  kind : Int
  op : Sp
  cl : Sp
structure Mv where
  fr : Int
  to : Int
  li : Sp
structure Bok where
  accs : List Acc
  mvs : List Mv
def accEnc (a : Acc) : List Value := [.string a.name, .int .i64 a.kind, .int .i64 a.op.lo, .int .i64 a.op.hi, .int .i64 a.cl.lo, .int .i64 a.cl.hi]
def mvEnc (m : Mv) : List Value := [.int .i64 m.fr, .int .i64 m.to, .int .i64 m.li.lo, .int .i64 m.li.hi]
abbrev Accs (lo hi : Nat) (w : World) (v : Value) (l : List Acc) : Prop := Sl accEnc 6 lo hi w v l
abbrev Mvs (lo hi : Nat) (w : World) (v : Value) (l : List Mv) : Prop := Sl mvEnc 4 lo hi w v l
/-- The names of a book are short enough to be strings. -/
def nameOk (l : List Acc) : Prop := ∀ a ∈ l, a.name.size ≤ maxLen

def acc0 : Acc := ⟨ByteArray.empty, 0, ⟨0, 0⟩, ⟨0, 0⟩⟩
def mv0 : Mv := ⟨0, 0, ⟨0, 0⟩⟩
def ga (l : List Acc) (i : Nat) : Acc := l.getD i acc0
def gm (l : List Mv) (i : Nat) : Mv := l.getD i mv0
theorem ga_get {l : List Acc} {i : Nat} (h : i < l.length) : ga l i = l[i] := by simp [ga, h]
theorem gm_get {l : List Mv} {i : Nat} (h : i < l.length) : gm l i = l[i] := by simp [gm, h]
theorem nameOk.at {l : List Acc} (h : nameOk l) {i : Nat} (hi : i < l.length) : (ga l i).name.size ≤ maxLen := h _ (by rw [ga_get hi]; exact List.getElem_mem hi)

section
variable {lo hi : Nat} {w : World} {v : Value}
/-- The cells of account i. -/
def AccCell (w : World) (b o : Nat) (a : Acc) : Prop := w.cell? ⟨b, o, none⟩ = some (.string a.name) ∧ w.cell? ⟨b, o + 1, none⟩ = some (.int .i64 a.kind) ∧ w.cell? ⟨b, o + 2, none⟩ = some (.int .i64 a.op.lo) ∧
  w.cell? ⟨b, o + 3, none⟩ = some (.int .i64 a.op.hi) ∧ w.cell? ⟨b, o + 4, none⟩ = some (.int .i64 a.cl.lo) ∧ w.cell? ⟨b, o + 5, none⟩ = some (.int .i64 a.cl.hi)
def MvCell (w : World) (b o : Nat) (m : Mv) : Prop := w.cell? ⟨b, o, none⟩ = some (.int .i64 m.fr) ∧ w.cell? ⟨b, o + 1, none⟩ = some (.int .i64 m.to) ∧ w.cell? ⟨b, o + 2, none⟩ = some (.int .i64 m.li.lo) ∧
  w.cell? ⟨b, o + 3, none⟩ = some (.int .i64 m.li.hi)
theorem AccCell.gb {w w' : World} {b o : Nat} {a : Acc} {r : Option Nat} (h : AccCell w b o a) (hg : w.grownBy w' r) (hr : some b ≠ r) : AccCell w' b o a := by
  obtain ⟨h1, h2, h3, h4, h5, h6⟩ := h
  exact ⟨gbc hg hr h1, gbc hg hr h2, gbc hg hr h3, gbc hg hr h4, gbc hg hr h5, gbc hg hr h6⟩
theorem MvCell.gb {w w' : World} {b o : Nat} {m : Mv} {r : Option Nat} (h : MvCell w b o m) (hg : w.grownBy w' r) (hr : some b ≠ r) : MvCell w' b o m := by
  obtain ⟨h1, h2, h3, h4⟩ := h
  exact ⟨gbc hg hr h1, gbc hg hr h2, gbc hg hr h3, gbc hg hr h4⟩
theorem Accs.at {l : List Acc} (h : Accs lo hi w v l) (hne : 0 < l.length) : ∃ b off c, v = .slice (some ⟨b, off, none⟩) l.length c ∧ lo ≤ b ∧ b < hi ∧
    ∀ i, i < l.length → AccCell w b (off + i * 6) (ga l i) := by
  obtain ⟨b, off, c, hv, h1, h2, h3⟩ := Sl.form h hne
  exact ⟨b, off, c, hv, h1, h2, fun i hi' => by
    rw [ga_get hi']
    exact ⟨h3 i hi' 0 _ rfl, h3 i hi' 1 _ rfl, h3 i hi' 2 _ rfl, h3 i hi' 3 _ rfl, h3 i hi' 4 _ rfl, h3 i hi' 5 _ rfl⟩⟩
theorem Mvs.at {l : List Mv} (h : Mvs lo hi w v l) (hne : 0 < l.length) : ∃ b off c, v = .slice (some ⟨b, off, none⟩) l.length c ∧ lo ≤ b ∧ b < hi ∧
    ∀ i, i < l.length → MvCell w b (off + i * 4) (gm l i) := by
  obtain ⟨b, off, c, hv, h1, h2, h3⟩ := Sl.form h hne
  exact ⟨b, off, c, hv, h1, h2, fun i hi' => by
    rw [gm_get hi']
    exact ⟨h3 i hi' 0 _ rfl, h3 i hi' 1 _ rfl, h3 i hi' 2 _ rfl, h3 i hi' 3 _ rfl⟩⟩
end

theorem Accs.cell {lo hi : Nat} {w : World} {x ox n c : Nat} {l : List Acc} (h : Accs lo hi w (.slice (some ⟨x, ox, none⟩) n c) l) {i : Nat} (hi' : i < l.length) : AccCell w x (ox + i * 6) (ga l i) := by
  obtain ⟨x', ox', c', ev, _, _, H⟩ := Accs.at h (by omega)
  injection ev with e1 _ e2
  injection e1 with e1
  injection e1 with e3 e4
  subst e3 e4
  exact H i hi'
theorem Mvs.cell {lo hi : Nat} {w : World} {x ox n c : Nat} {l : List Mv} (h : Mvs lo hi w (.slice (some ⟨x, ox, none⟩) n c) l) {i : Nat} (hi' : i < l.length) : MvCell w x (ox + i * 4) (gm l i) := by
  obtain ⟨x', ox', c', ev, _, _, H⟩ := Mvs.at h (by omega)
  injection ev with e1 _ e2
  injection e1 with e1
  injection e1 with e3 e4
  subst e3 e4
  exact H i hi'

/-! ### the error of a book -/
def spE (s : Sp) : Int := spanErr s.lo s.hi 0 1000000000
def accErr (seen : List ByteArray) (a : Acc) : Int :=
  if namedB a.name = true then (if hasName seen a.name = true then 9 else if inB a.kind 1 2 = true then (if spE a.op = 0 then spE a.cl else spE a.op) else 4) else 3
def names (l : List Acc) (i : Nat) : List ByteArray := (l.take i).map (·.name)
theorem names_succ {l : List Acc} {i : Nat} (h : i < l.length) : names l (i + 1) = names l i ++ [(ga l i).name] := by
  unfold names
  rw [List.take_add_one, List.getElem?_eq_getElem h, ga_get h, List.map_append]
  rfl
def accsErr (l : List Acc) : Nat → Nat → Int
  | 0, _ => 0
  | f + 1, i => if accErr (names l i) (ga l i) = 0 then accsErr l f (i + 1) else accErr (names l i) (ga l i)
def mvErr (n : Int) (m : Mv) : Int :=
  if (inB m.fr 0 (n - 1) && inB m.to 0 (n - 1)) = true then (if m.fr = m.to then 3 else spE m.li) else 7
def mvsErr (n : Int) (l : List Mv) : Nat → Nat → Int
  | 0, _ => 0
  | f + 1, i => if mvErr n (gm l i) = 0 then mvsErr n l f (i + 1) else mvErr n (gm l i)
/-- The error of accounts alone. -/
def accsE (l : List Acc) : Int := if l.length = 0 then 6 else if 8 < l.length then 8 else accsErr l l.length 0
def mvsE (n : Nat) (l : List Mv) : Int := if 30 < l.length then 8 else mvsErr n l l.length 0
/-- The error of a book, but for whether it has a truth. -/
def formedE (b : Bok) : Int := if accsE b.accs = 0 then mvsE b.accs.length b.mvs else accsE b.accs
theorem accsErr_step {l : List Acc} {f i : Nat} (h : accErr (names l i) (ga l i) = 0) : accsErr l (f + 1) i = accsErr l f (i + 1) := by rw [accsErr, if_pos h]
theorem accsErr_stop {l : List Acc} {f i : Nat} (h : accErr (names l i) (ga l i) ≠ 0) : accsErr l (f + 1) i = accErr (names l i) (ga l i) := by rw [accsErr, if_neg h]
theorem mvsErr_step {n : Int} {l : List Mv} {f i : Nat} (h : mvErr n (gm l i) = 0) : mvsErr n l (f + 1) i = mvsErr n l f (i + 1) := by rw [mvsErr, if_pos h]
theorem mvsErr_stop {n : Int} {l : List Mv} {f i : Nat} (h : mvErr n (gm l i) ≠ 0) : mvsErr n l (f + 1) i = mvErr n (gm l i) := by rw [mvsErr, if_neg h]
/-- What a book without an error is. -/
structure AccOk (a : Acc) : Prop where
  named : namedB a.name = true
  kind : a.kind = 1 ∨ a.kind = 2
  op : 0 ≤ a.op.lo ∧ a.op.lo ≤ a.op.hi ∧ a.op.hi ≤ 1000000000
  cl : 0 ≤ a.cl.lo ∧ a.cl.lo ≤ a.cl.hi ∧ a.cl.hi ≤ 1000000000
structure MvOk (n : Nat) (m : Mv) : Prop where
  fr : 0 ≤ m.fr ∧ m.fr < n
  to : 0 ≤ m.to ∧ m.to < n
  ne : m.fr ≠ m.to
  li : 0 ≤ m.li.lo ∧ m.li.lo ≤ m.li.hi ∧ m.li.hi ≤ 1000000000
theorem accErr_ok {seen : List ByteArray} {a : Acc} (h : accErr seen a = 0) : AccOk a := by
  unfold accErr at h
  split at h
  · rename_i h1
    split at h
    · cases h
    · split at h
      · rename_i h3
        have hk := inB_yes h3
        split at h
        · rename_i h4
          exact ⟨h1, by omega, spanErr_ok h4, spanErr_ok h⟩
        · rename_i h4
          exact absurd h h4
      · cases h
  · cases h
theorem mvErr_ok {n : Nat} {m : Mv} (h : mvErr n m = 0) : MvOk n m := by
  unfold mvErr at h
  split at h
  · rename_i h1
    rw [Bool.and_eq_true] at h1
    have h2 := inB_yes h1.1
    have h3 := inB_yes h1.2
    split at h
    · cases h
    · rename_i h4
      exact ⟨by omega, by omega, h4, spanErr_ok h⟩
  · cases h
theorem accsErr_ok {l : List Acc} : ∀ f k, accsErr l f k = 0 → ∀ i, k ≤ i → i < k + f → AccOk (ga l i) := by
  intro f
  induction f with
  | zero => intro k _ i h1 h2; omega
  | succ f ih =>
    intro k hk i h1 h2
    unfold accsErr at hk
    split at hk
    · rename_i h
      rcases Nat.eq_or_lt_of_le h1 with rfl | h3
      · exact accErr_ok h
      · exact ih (k + 1) hk i h3 (by omega)
    · rename_i h
      exact absurd hk h
theorem mvsErr_ok {n : Nat} {l : List Mv} : ∀ f k, mvsErr n l f k = 0 → ∀ i, k ≤ i → i < k + f → MvOk n (gm l i) := by
  intro f
  induction f with
  | zero => intro k _ i h1 h2; omega
  | succ f ih =>
    intro k hk i h1 h2
    unfold mvsErr at hk
    split at hk
    · rename_i h
      rcases Nat.eq_or_lt_of_le h1 with rfl | h3
      · exact mvErr_ok h
      · exact ih (k + 1) hk i h3 (by omega)
    · rename_i h
      exact absurd hk h
theorem formed_ok {b : Bok} (h : formedE b = 0) : (0 < b.accs.length ∧ b.accs.length ≤ 8 ∧ b.mvs.length ≤ 30) ∧ (∀ i, i < b.accs.length → AccOk (ga b.accs i)) ∧ ∀ i, i < b.mvs.length → MvOk b.accs.length (gm b.mvs i) := by
  unfold formedE at h
  by_cases h1 : accsE b.accs = 0
  · rw [if_pos h1] at h
    unfold accsE at h1
    unfold mvsE at h
    split at h1
    · cases h1
    · split at h1
      · cases h1
      · split at h
        · cases h
        · exact ⟨⟨by omega, by omega, by omega⟩, fun i hi => accsErr_ok _ _ h1 i (Nat.zero_le _) (by omega), fun i hi => mvsErr_ok _ _ h i (Nat.zero_le _) (by omega)⟩
  · rw [if_neg h1] at h
    exact absurd h h1
end Go.Proofs.YtcndphefomigeaaDoor
