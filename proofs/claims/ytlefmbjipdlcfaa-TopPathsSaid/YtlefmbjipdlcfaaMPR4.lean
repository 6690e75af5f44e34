/- build: how great the lengths can get while nodes are passed; rows as they are filled. Plain maths. -/
import Derived.Test.YtlefmbjipdlcfaaMPR3
set_option linter.unusedVariables false
set_option linter.unusedSimpArgs false
set_option linter.unnecessarySimpa false
namespace Go.Proofs.Ytlefmbjipdlcfaa
set_option maxRecDepth 100000
structure ZB (n : Nat) (c : Int) (M : MatI) : Prop where
 shp : Shp n M
 zero : ∀ i, i < n -> mget M i i = 0
 bd : ∀ i j, i < n -> j < n -> -1 <= mget M i j /\ mget M i j <= c
structure PhB (n m : Nat) (c : Int) (M0 M : MatI) : Prop where
 zb : ZB n (c + c) M
 col : ∀ i, i < n -> mget M i m = mget M0 i m
 row : ∀ j, j < n -> mget M m j = mget M0 m j
theorem PhB.step {n m : Nat} {c : Int} {M0 M : MatI} (h0 : ZB n c M0) (h : PhB n m c M0 M) (hm : m < n) {i k : Nat} (hi : i < n) (hk : k < n) : PhB n m c M0 (stepM M m i k) := by
 unfold stepM
 split
 ·
  rename_i hc
  obtain ⟨h1, h2, h3⟩ := hc
  have e1 := h.col i hi
  have e2 := h.row k hk
  have b1 := h0.bd i m hi hm
  have b2 := h0.bd m k hm hk
  have zm := h.zb.zero m hm
  have hkm : k ≠ m := by rintro rfl; omega
  have him : i ≠ m := by rintro rfl; omega
  have hik : i ≠ k := by
   rintro rfl
   have := h.zb.zero i hi
   omega
  have e := mget_set h.zb.shp hi hk (mget M i m + mget M m k)
  refine ⟨⟨h.zb.shp.set hi _, fun a ha => ?_, fun a b ha hb => ?_⟩, fun a ha => ?_, fun b hb => ?_⟩
  · rw [e, if_neg (by omega)]; exact h.zb.zero a ha
  ·
   rw [e]
   split
   · omega
   · exact h.zb.bd a b ha hb
  · rw [e, if_neg (by omega)]; exact h.col a ha
  · rw [e, if_neg (by omega)]; exact h.row b hb
 · exact h
theorem PhB.start {n m : Nat} {c : Int} {M0 : MatI} (h0 : ZB n c M0) (hc : 0 <= c) : PhB n m c M0 M0 :=
 ⟨⟨h0.shp, h0.zero, fun i j hi hj => by have := h0.bd i j hi hj; omega⟩, fun _ _ => rfl, fun _ _ => rfl⟩
theorem PhB.fwK {n m : Nat} {c : Int} {M0 M : MatI} (h0 : ZB n c M0) (h : PhB n m c M0 M) (hm : m < n) {i : Nat} (hi : i < n) : ∀ k, k <= n -> PhB n m c M0 (fwK M m i k)
 | 0, _ => h
 | k + 1, hk => (PhB.fwK h0 h hm hi k (by omega)).step h0 hm hi (by omega)
theorem PhB.fwI {n m : Nat} {c : Int} {M0 : MatI} (h0 : ZB n c M0) (hc : 0 <= c) (hm : m < n) : ∀ i, i <= n -> PhB n m c M0 (fwI n M0 m i)
 | 0, _ => PhB.start h0 hc
 | i + 1, hi => PhB.fwK h0 (PhB.fwI h0 hc hm i (by omega)) hm (by omega) n (Nat.le_refl _)
theorem ZB.fwM {n : Nat} {c : Int} {M0 : MatI} (h0 : ZB n c M0) (hc : 0 <= c) : ∀ m, m <= n -> ZB n (c * 2 ^ m) (fwM n M0 m)
 | 0, _ => by rw [Int.pow_zero, Int.mul_one]; exact h0
 | m + 1, hm => by
  have h1 := ZB.fwM h0 hc m (by omega)
  have h2 := (PhB.fwI h1 (Int.mul_nonneg hc (Int.pow_nonneg (by decide))) (show m < n by omega) n (Nat.le_refl _)).zb
  have e : c * 2 ^ (m + 1) = c * 2 ^ m + c * 2 ^ m := by rw [Int.pow_succ, ← Int.mul_assoc]; omega
  rw [e]
  exact h2
section
variable {ls : List Lg} {u : Lg -> Bool} {n : Nat}
def legK (u : Lg -> Bool) (ls : List Lg) (n k : Nat) : MatI := (ls.take k).foldl (legM u) (mat0 n n)
theorem legK_zero : legK u ls n 0 = mat0 n n := rfl
theorem legK_next {k : Nat} {l : Lg} (h : ls[k]? = some l) : legK u ls n (k + 1) = legM u (legK u ls n k) l := by
 unfold legK
 obtain ⟨hk, rfl⟩ := List.getElem?_eq_some_iff.1 h
 rw [List.take_succ_eq_append_getElem hk, List.foldl_append]
 rfl
theorem legK_I (hls : ∀ l ∈ ls, LgOk n l) (k : Nat) : LegI ls (ls.take k) u n (legK u ls n k) := by
 have h := legI_all (u := u) hls (ls.take k) [] (mat0 n n) (fun l hl => List.mem_of_mem_take hl) LegI.start
 rwa [List.nil_append] at h
theorem legM_bd (hls : ∀ l ∈ ls, LgOk n l) {M : MatI} (hs : Shp n M) (hb : ∀ i j, i < n -> j < n -> -1 <= mget M i j /\ mget M i j <= 1000000) {l : Lg} (hl : l ∈ ls) : ∀ i j, i < n -> j < n -> -1 <= mget (legM u M l) i j /\ mget (legM u M l) i j <= 1000000 := by
 intro i j hi hj
 have h1 := (hls l hl).a; have h2 := (hls l hl).b; have h4 := (hls l hl).long
 unfold legM
 split
 ·
  rw [mget_set (hs.set (by omega) _) (by omega) (by omega), mget_set hs (by omega) (by omega)]
  split
  · omega
  split
  · omega
  · exact hb i j hi hj
 · exact hb i j hi hj
theorem legK_bd (hls : ∀ l ∈ ls, LgOk n l) : ∀ k, k <= ls.length -> ∀ i j, i < n -> j < n -> -1 <= mget (legK u ls n k) i j /\ mget (legK u ls n k) i j <= 1000000
 | 0, _, i, j, hi, hj => by rw [legK_zero, mat0_get hi hj]; split <;> omega
 | k + 1, hk, i, j, hi, hj => by
  have hl : ls[k]? = some ls[k] := List.getElem?_eq_getElem (by omega)
  rw [legK_next hl]
  exact legM_bd hls (legK_I hls k).shp (legK_bd hls k (by omega)) (List.mem_of_getElem? hl) i j hi hj
theorem legK_zb (hls : ∀ l ∈ ls, LgOk n l) : ZB n 1000000 (legK u ls n ls.length) := ⟨(legK_I hls _).shp, (legK_I hls _).zero, legK_bd hls _ (Nat.le_refl _)⟩
theorem legK_len : lenM ls u n = fwM n (legK u ls n ls.length) n := by unfold lenM legK; rw [List.take_length]
theorem zb_great {M : MatI} (h : ZB n 1000000 M) (hn : n <= 20) {m : Nat} (hm : m <= n) {i j : Nat} (hi : i < n) (hj : j < n) : Shp n (fwM n M m) /\ -1 <= mget (fwM n M m) i j /\ mget (fwM n M m) i j <= 1048576000000 := by
 have h1 := ZB.fwM h (by decide) m hm
 have h2 := h1.bd i j hi hj
 have h3 : (2 : Int) ^ m <= 2 ^ 20 := by
  have : (2 : Nat) ^ m <= 2 ^ 20 := Nat.pow_le_pow_right (by decide) (by omega)
  exact_mod_cast this
 have h4 : (1000000 : Int) * 2 ^ m <= 1000000 * 2 ^ 20 := Int.mul_le_mul_of_nonneg_left h3 (by decide)
 have h5 : (1000000 : Int) * 2 ^ 20 = 1048576000000 := by decide
 exact ⟨h1.shp, h2.1, by omega⟩
end
end Go.Proofs.Ytlefmbjipdlcfaa
