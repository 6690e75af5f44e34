/- frost: days one after the other. -/
import Derived.Test.YthblaiefalbomaaF37
import Derived.Test.YthblaiefalbomaaF28
import Derived.Test.YthblaiefalbomaaSlc
set_option linter.unusedVariables false
set_option linter.unusedSimpArgs false
set_option linter.unnecessarySimpa false
namespace Go.Proofs.Ythblaiefalbomaa
open Go.RowKit
set_option maxRecDepth 100000

theorem allE_take {l : Fro} {x : Ice} {dl : List Wea} (k : Nat) (h1 : froErr l = 0) (h2 : iceErr x = 0) (h3 : ∀ d ∈ dl, weaErr d = 0) (h4 : dl.length ≤ 400) : allE l x (dl.take k) = 0 := allE_of h1 h2 (fun d hd => h3 d (List.mem_of_mem_take hd)) (by rw [List.length_take]; omega)
theorem allE_drop {l : Fro} {x : Ice} {dl : List Wea} (k : Nat) (h1 : froErr l = 0) (h2 : iceErr x = 0) (h3 : ∀ d ∈ dl, weaErr d = 0) (h4 : dl.length ≤ 400) : allE l x (dl.drop k) = 0 := allE_of h1 h2 (fun d hd => h3 d (List.mem_of_mem_drop hd)) (by rw [List.length_drop]; omega)
theorem stI_take {l : Fro} {x : Ice} {dl : List Wea} {k j : Nat} (h : j ≤ k) : stI l x (dl.take k) j = stI l x dl j := by
  unfold stI
  rw [List.take_take, Nat.min_eq_left h]
theorem stI_drop {l : Fro} {x : Ice} {dl : List Wea} {k j : Nat} : stI l (stI l x dl k) (dl.drop k) j = stI l x dl (k + j) := by
  unfold stI
  rw [← List.foldl_append, List.take_add]
theorem runN_take {l : Fro} {x : Ice} {dl : List Wea} {k n : Nat} (h : k ≤ n) : runN l x (dl.take k) k = (runN l x dl n).take k := by
  refine List.ext_getElem? fun i => ?_
  by_cases hi : i < k
  · rw [runN_get hi, List.getElem?_take, if_pos hi, runN_get (by omega), stI_take (by omega)]
  · rw [List.getElem?_eq_none (by rw [runN_len]; omega), List.getElem?_eq_none (by rw [List.length_take, runN_len]; omega)]
theorem runN_drop {l : Fro} {x : Ice} {dl : List Wea} {k n : Nat} (h : k ≤ n) : runN l (stI l x dl k) (dl.drop k) (n - k) = (runN l x dl n).drop k := by
  refine List.ext_getElem? fun i => ?_
  by_cases hi : i < n - k
  · rw [runN_get hi, List.getElem?_drop, runN_get (by omega), stI_drop, Nat.add_assoc]
  · rw [List.getElem?_eq_none (by rw [runN_len]; omega), List.getElem?_eq_none (by rw [List.length_drop, runN_len]; omega)]
end Go.Proofs.Ythblaiefalbomaa
