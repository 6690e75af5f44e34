/- A set of names, kept in a map from strings to truths that the call made. -/
import Derived.Test.YtfifldbinnkdmaaBase
import Derived.Maps.OwnOps
import Derived.Maps.Views
import Derived.StringKeys
set_option linter.unusedVariables false
set_option linter.unusedSimpArgs false
set_option linter.unnecessarySimpa false
namespace Go.Proofs.Ytfifldbinnkdmaa
open Go.RowKit Go.Maps Go.WideMaps
set_option maxRecDepth 100000

theorem namesLaw : Keyed Try.prog 9 := string_keyed Try.underlying9
/-- Block b is a map that has just the names of a list. -/
def NameSet (w : World) (b k : Nat) (names : List ByteArray) : Prop :=
  ∃ D : DataW Unit, w.ownsMap Try.prog 9 (plainElem Try.prog 4) b k D ∧ IsMap D ∧
    ∀ s : List UInt8, D.atKey (.string s) (.lit (.bool false)) = .lit (.bool (decide (∃ n ∈ names, n.data.toList = s)))
def hasName (names : List ByteArray) (s : ByteArray) : Bool := decide (∃ n ∈ names, n.data.toList = s.data.toList)
section
variable {w w' : World} {b k : Nat} {names : List ByteArray}
theorem NameSet.made (w : World) : NameSet (w.alloc (.map #[] 0)) w.heap.size 0 [] :=
  ⟨.map [], World.ownsMap_made _ _ _ _, isMap_empty, fun s => by simp [DataW.atKey]⟩
theorem NameSet.lt (h : NameSet w b k names) : b < w.heap.size := by obtain ⟨D, h, _⟩ := h; exact World.ownsMap.lt h
theorem NameSet.gb {r : Option Nat} (h : NameSet w b k names) (hg : w.grownBy w' r) (hr : some b ≠ r) : NameSet w' b k names := by
  obtain ⟨D, h, h1, h2⟩ := h
  exact ⟨D, World.ownsMap.kept h hg hr, h1, h2⟩
theorem NameSet.alloc (h : NameSet w b k names) (o : Obj) : NameSet (w.alloc o) b k names := h.gb (gb_alloc (gb_refl _ none) o) (by simp)
theorem NameSet.look (h : NameSet w b k names) (s : ByteArray) (hs : s.size ≤ maxLen) : (Instr.lookup 144 (.map (some b)) (.string s) false).run Try.prog w = .ok (.bool (hasName names s)) w := by
  obtain ⟨D, h, h1, h2⟩ := h
  have hz : (zeroValue 4).run Try.prog w = .ok (.bool false) w := by kernel_rfl
  obtain ⟨v, ps, hrun, hv⟩ := World.ownsMap.lookup h namesLaw Try.underlying144 hz (plainElem_bool Try.underlying4 false) (keyOf_string_mk Try.underlying9 hs)
  rw [h2] at hv
  unfold plainElem at hv
  rw [Try.underlying4] at hv
  cases v with
  | bool x =>
    simp only [Option.some.injEq, Prod.mk.injEq, DataW.lit.injEq, Lit.bool.injEq] at hv
    rw [hrun, hv.1]
    rfl
  | _ => simp at hv
theorem NameSet.put (h : NameSet w b k names) (hk : k < 1000) (s : ByteArray) (hs : s.size ≤ maxLen) : ∃ w', (Instr.mapUpdate 144 (.map (some b)) (.string s) (.bool true)).run Try.prog w = .ok () w' ∧ NameSet w' b (k + 1) (names ++ [s]) ∧ w.grownBy w' (some b) := by
  obtain ⟨D, h, h1, h2⟩ := h
  obtain ⟨w', hrun, ho, hg⟩ := World.ownsMap.update h namesLaw Try.underlying144 (by simp only [maxLen]; omega) (keyOf_string_mk Try.underlying9 hs) (plainElem_bool Try.underlying4 true)
  refine ⟨w', hrun, ⟨_, ho, IsMap.put h1 _ _, fun t => ?_⟩, hg⟩
  by_cases e : t = s.data.toList
  · subst e
    rw [atKey_put_same h1 (k := .string s.data.toList) trivial]
    have e : decide (∃ n ∈ names ++ [s], n.data.toList = s.data.toList) = true := by
      rw [decide_eq_true_iff]
      exact ⟨s, by simp, rfl⟩
    rw [e]
  · rw [atKey_put_other (fun h => e (by injection h)), h2]
    have e2 : decide (∃ n ∈ names, n.data.toList = t) = decide (∃ n ∈ names ++ [s], n.data.toList = t) := by
      rw [decide_eq_decide]
      simp only [List.mem_append, List.mem_singleton]
      constructor
      · rintro ⟨n, hn, h⟩
        exact ⟨n, .inl hn, h⟩
      · rintro ⟨n, hn | hn, h⟩
        · exact ⟨n, hn, h⟩
        · subst hn
          exact absurd h.symm e
    rw [e2]
end
end Go.Proofs.Ytfifldbinnkdmaa
