/- fuel and its reference: which names an account may have. -/
import Derived.Test.YtfifldbinnkdmaaFuel1
import Derived.Laws.RangeAny
set_option linter.unusedVariables false
set_option linter.unusedSimpArgs false
set_option linter.unnecessarySimpa false
namespace Go.Proofs.Ytfifldbinnkdmaa
open Go.RowKit

def smallB (c : UInt8) : Bool := decide (97 ≤ c.toNat ∧ c.toNat ≤ 122)
/-- 1 to 8 small letters. -/
def namedB (s : ByteArray) : Bool := s.data.toList.all smallB && inB s.size 1 8
theorem named_bad {s : ByteArray} {i : Nat} (h : i < s.size) (hb : ¬ (97 ≤ (s[i]'h).toNat ∧ (s[i]'h).toNat ≤ 122)) : namedB s = false := by
  have : s.data.toList.all smallB = false := by
    rw [List.all_eq_false]
    refine ⟨s[i]'h, ?_, by simp [smallB]; omega⟩
    exact Array.mem_toList_iff.2 (Array.getElem_mem (xs := s.data) (i := i) h)
  simp [namedB, this]
theorem named_all {s : ByteArray} (h : ∀ i (hi : i < s.size), 97 ≤ (s[i]'hi).toNat ∧ (s[i]'hi).toNat ≤ 122) : namedB s = inB s.size 1 8 := by
  have : s.data.toList.all smallB = true := by
    rw [List.all_eq_true]
    intro c hc
    obtain ⟨i, hi, rfl⟩ := List.getElem_of_mem hc
    have hi' : i < s.size := by simpa using hi
    have := h i hi'
    simp only [smallB, decide_eq_true_eq]
    exact this
  simp [namedB, this]

set_option maxHeartbeats 400000 in
theorem named_c (s : ByteArray) (hs : s.size ≤ maxLen) (w : World) : Calls Try.prog 107 #[.string s] w (Ret (.bool (namedB s)) w) := by
  unfold maxLen at hs
  go_enter Try.func107, Try.ntmps107
  go_wp2
  go_loopw [2] (fun r wr => ∃ pos : Nat, pos ≤ s.size ∧ wr = w.iter s pos ∧ r = .bool false ∧ ∀ i (hi : i < s.size), i < pos → 97 ≤ (s[i]'hi).toNat ∧ (s[i]'hi).toNat ≤ 122) (fun _ wr => s.size - wr.iterPos w.heap.size)
  case atStart => exact ⟨0, Nat.zero_le _, rfl, rfl, fun i hi h => by omega⟩
  case round =>
    obtain ⟨pos, hp0, rfl, rfl, hall⟩ := hrel
    have HA := Lib.hid hall
    clear hall
    by_cases hp : pos < s.size
    · have hnx : ∀ ty, (Instr.next (.pointer (some ⟨w.heap.size, 0, none⟩)) true ty).run Try.prog (w.iter s pos) = _ := fun ty => run_next_any w s pos ty hp
      by_cases ha : (s[pos]'hp).toNat < 128
      · rw [decode_ascii s pos hp ha] at hnx
        by_cases hb : 97 ≤ (s[pos]'hp).toNat ∧ (s[pos]'hp).toNat ≤ 122
        · obtain ⟨b1, b2⟩ := hb
          have c1 : ¬ ((s[pos]'hp).toNat : Int) < 97 := by omega
          have c2 : ¬ (122 : Int) < ((s[pos]'hp).toNat : Int) := by omega
          go_wp2
          go_roundw
          case rel => exact ⟨pos + 1, by omega, rfl, rfl, fun i hi h => by
              rcases Nat.lt_succ_iff_lt_or_eq.1 h with h | rfl
              · exact HA.out i hi h
              · exact ⟨b1, b2⟩⟩
          case measure => simp; omega
        · have Hx := Lib.hid (named_bad hp hb)
          by_cases c1 : ((s[pos]'hp).toNat : Int) < 97
          · go_wp2
            go_ret
            exact ⟨by rw [Hx.out]; rfl, gb_alloc (gb_refl _ _) _⟩
          · have c2 : (122 : Int) < ((s[pos]'hp).toNat : Int) := by omega
            go_wp2
            go_ret
            exact ⟨by rw [Hx.out]; rfl, gb_alloc (gb_refl _ _) _⟩
      · have hd := decode_high s pos hp (by omega)
        have Hx := Lib.hid (named_bad hp (fun h => by omega))
        have c1 : ¬ ((Utf8.decode s pos).1 : Int) < 97 := by omega
        have c2 : (122 : Int) < ((Utf8.decode s pos).1 : Int) := by omega
        go_wp2
        go_ret
        exact ⟨by rw [Hx.out]; rfl, gb_alloc (gb_refl _ _) _⟩
    · have hnx : ∀ ty, (Instr.next (.pointer (some ⟨w.heap.size, 0, none⟩)) true ty).run Try.prog (w.iter s pos) = _ := fun ty => run_next_end w s pos ty hp
      have Hx := Lib.hid (named_all (s := s) fun i hi => HA.out i hi (by omega))
      go_wp2_with (go_at_call 83; refine (in_c _ _ _ _).mono ?_; rintro e w' ⟨rfl, rfl⟩)
      go_ret
      exact ⟨by rw [Hx.out]; rfl, gb_alloc (gb_refl _ _) _⟩
end Go.Proofs.Ytfifldbinnkdmaa
