/- build: days that are flooded one by one: what Thicken reckons. -/
import Derived.Test.YtkclabflkocbaaaRKF3
set_option linter.unusedVariables false
set_option linter.unusedSimpArgs false
set_option linter.unnecessarySimpa false
namespace Go.Proofs.Ytkclabflkocbaaa
open Go.RowKit
set_option maxRecDepth 100000
noncomputable def thkS (l : Fro) (x : Ice) (dl : List Wea) (m : Int) : Nat -> List Wea
 | 0 => dl
 | k + 1 => setW (thkS l x dl m k) k (max 0 (floodI l x ((thkS l x dl m k).take (k + 1)) ((k : Int) + 1) m))
noncomputable def thkN (l : Fro) (x : Ice) (dl : List Wea) (m : Int) (k : Nat) : Int := max 0 (floodI l x ((thkS l x dl m k).take (k + 1)) ((k : Int) + 1) m)
noncomputable def thkL (l : Fro) (x : Ice) (dl : List Wea) (m : Int) (n : Nat) : List Int := (List.range n).map (thkN l x dl m)
noncomputable def thkE (l : Fro) (x : Ice) (dl : List Wea) (need m : Int) : Int := if ¬ allE l x dl = 0 then allE l x dl else if need < 0 ∨ 5000 < need ∨ m < 0 ∨ 200 < m then 2 else 0
noncomputable def thkW (l : Fro) (x : Ice) (dl : List Wea) (need m : Int) : List Int := if thkE l x dl need m = 0 then thkL l x dl m dl.length else []
noncomputable def thkD (l : Fro) (x : Ice) (dl : List Wea) (need m : Int) : Int := if thkE l x dl need m = 0 then readyS l x (thkS l x dl m dl.length) need else 0
theorem thkL_len (l : Fro) (x : Ice) (dl : List Wea) (m : Int) (n : Nat) : (thkL l x dl m n).length = n := by simp [thkL]
theorem thkL_succ (l : Fro) (x : Ice) (dl : List Wea) (m : Int) (n : Nat) : thkL l x dl m (n + 1) = thkL l x dl m n ++ [thkN l x dl m n] := by simp [thkL, List.range_succ]
theorem thkL_get (l : Fro) (x : Ice) (dl : List Wea) (m : Int) {k n : Nat} (h : k < n) : (thkL l x dl m n)[k]? = some (thkN l x dl m k) := by simp [thkL, h]
theorem thkS_len (l : Fro) (x : Ice) (dl : List Wea) (m : Int) : ∀ k, (thkS l x dl m k).length = dl.length
 | 0 => rfl
 | k + 1 => by rw [thkS, setW_len, thkS_len l x dl m k]
theorem thkS_succ (l : Fro) (x : Ice) (dl : List Wea) (m : Int) (k : Nat) : thkS l x dl m (k + 1) = setW (thkS l x dl m k) k (thkN l x dl m k) := rfl
structure ThF (l : Fro) (x : Ice) (dl : List Wea) (m : Int) : Prop where
 fl : froErr l = 0
 ic : iceErr x = 0
 ok : ∀ d ∈ dl, weaErr d = 0
 n : dl.length <= 400
 m : 0 <= m /\ m <= 200
theorem weaErr_w {d : Wea} {n : Int} (h : weaErr d = 0) (hn : 0 <= n /\ n <= 200) : weaErr ⟨d.cold, d.fall, n, d.clear⟩ = 0 := by
 unfold weaErr at h ⊢
 split at h
 · contradiction
 rename_i h6
 split at h
 · contradiction
 rename_i h7
 rw [if_neg h6, if_neg h7, if_neg (by simp only; omega)]
theorem daysErr_all : ∀ {ds : List Wea}, daysErr ds = 0 -> ∀ d ∈ ds, weaErr d = 0
 | [], _, d, hd => by cases hd
 | c :: cs, h, d, hd => by
  unfold daysErr at h
  split at h
  · contradiction
  rename_i h3
  rcases List.mem_cons.1 hd with rfl | hd
  · exact Classical.not_not.1 h3
  · exact daysErr_all h d hd
theorem allE_weas {l : Fro} {x : Ice} {ds : List Wea} (h : allE l x ds = 0) : froErr l = 0 /\ iceErr x = 0 /\ (∀ d ∈ ds, weaErr d = 0) /\ ds.length <= 400 := by
 unfold allE at h
 split at h
 · contradiction
 rename_i h1
 split at h
 · contradiction
 rename_i h2
 unfold daysE at h
 split at h
 · cases h
 · exact ⟨Classical.not_not.1 h1, Classical.not_not.1 h2, daysErr_all h, by omega⟩
theorem ThF.of {l : Fro} {x : Ice} {dl : List Wea} {m : Int} (h : allE l x dl = 0) (hm : 0 <= m /\ m <= 200) : ThF l x dl m :=
 have h1 := allE_weas h
 ⟨h1.1, h1.2.1, h1.2.2.1, h1.2.2.2, hm⟩
theorem flood_at {l : Fro} {x : Ice} {dl : List Wea} {m : Int} {k : Nat} (hE : allE l x (dl.take (k + 1)) = 0) (hk : k < dl.length) (hm : 0 <= m /\ m <= 200) : floodE l x (dl.take (k + 1)) ((k : Int) + 1) m = 0 /\ FloodF l x (dl.take (k + 1)) k m (floodI l x (dl.take (k + 1)) ((k : Int) + 1) m) := by
 have hl : (dl.take (k + 1)).length = k + 1 := by rw [List.length_take]; omega
 have he : floodE l x (dl.take (k + 1)) ((k : Int) + 1) m = 0 := by rw [floodE, if_neg (not_not_intro hE), if_neg (by rw [hl]; omega)]
 refine ⟨he, ?_⟩
 have h := floodF (l := l) (x := x) (dl := dl.take (k + 1)) (m := k) (most := m) hm.1
 rw [floodI, if_pos he, show ((k : Int) + 1 - 1).toNat = k by omega]
 exact h
theorem thkS_ok {l : Fro} {x : Ice} {dl : List Wea} {m : Int} (h : ThF l x dl m) : ∀ k, k <= dl.length -> ∀ d ∈ thkS l x dl m k, weaErr d = 0
 | 0, _ => h.ok
 | k + 1, hk => fun d hd => by
  have ih := thkS_ok h k (by omega)
  have hE : allE l x ((thkS l x dl m k).take (k + 1)) = 0 := allE_take _ h.fl h.ic ih (by rw [thkS_len]; exact h.n)
  have hF := (flood_at hE (by rw [thkS_len]; omega) h.m).2.1
  have hm := h.m
  rcases setW_mem hd with hd | ⟨z, hz, rfl⟩
  · exact ih d hd
  · exact weaErr_w (ih z hz) (by omega)
theorem thkS_allE {l : Fro} {x : Ice} {dl : List Wea} {m : Int} (h : ThF l x dl m) {k : Nat} (hk : k <= dl.length) : allE l x (thkS l x dl m k) = 0 := allE_of h.fl h.ic (thkS_ok h k hk) (by rw [thkS_len]; exact h.n)
theorem thkS_takeE {l : Fro} {x : Ice} {dl : List Wea} {m : Int} (h : ThF l x dl m) {k : Nat} (hk : k <= dl.length) (j : Nat) : allE l x ((thkS l x dl m k).take j) = 0 := allE_take _ h.fl h.ic (thkS_ok h k hk) (by rw [thkS_len]; exact h.n)
theorem thkS_flood {l : Fro} {x : Ice} {dl : List Wea} {m : Int} (h : ThF l x dl m) {k : Nat} (hk : k < dl.length) : floodE l x ((thkS l x dl m k).take (k + 1)) ((k : Int) + 1) m = 0 /\ FloodF l x ((thkS l x dl m k).take (k + 1)) k m (floodI l x ((thkS l x dl m k).take (k + 1)) ((k : Int) + 1) m) := flood_at (thkS_takeE h (by omega) _) (by rw [thkS_len]; exact hk) h.m
theorem thkN_bd {l : Fro} {x : Ice} {dl : List Wea} {m : Int} (h : ThF l x dl m) {k : Nat} (hk : k < dl.length) : 0 <= thkN l x dl m k /\ thkN l x dl m k <= m := by
 have h1 := (thkS_flood h hk).2.1
 have hm := h.m
 unfold thkN
 omega
theorem setW_get_ne {dl : List Wea} {k j : Nat} {n : Int} (h : j ≠ k) : (setW dl k n)[j]? = dl[j]? := by
 unfold setW
 split
 · rw [List.getElem?_set_ne (fun e => h e.symm)]
 · rfl
theorem thkS_first (l : Fro) (x : Ice) (dl : List Wea) (m : Int) {j : Nat} : ∀ n k, k <= n -> j < k -> (thkS l x dl m n)[j]? = (thkS l x dl m k)[j]?
 | 0, k, h, h2 => by omega
 | n + 1, k, h, h2 => by
  by_cases e : k = n + 1
  · rw [e]
  · rw [thkS, setW_get_ne (by omega), thkS_first l x dl m n k (by omega) h2]
theorem thkS_take (l : Fro) (x : Ice) (dl : List Wea) (m : Int) {n k : Nat} (h : k <= n) : (thkS l x dl m n).take k = (thkS l x dl m k).take k := by
 refine List.ext_getElem? fun i => ?_
 by_cases hi : i < k
 · rw [List.getElem?_take, List.getElem?_take, if_pos hi, if_pos hi, thkS_first l x dl m n k h hi]
 · rw [List.getElem?_eq_none (by rw [List.length_take]; omega), List.getElem?_eq_none (by rw [List.length_take]; omega)]
theorem setW_take {dl : List Wea} {k j : Nat} {n : Int} (h : k < j) : (setW dl k n).take j = setW (dl.take j) k n := by
 unfold setW
 rw [List.getElem?_take, if_pos h]
 split
 · rw [List.take_set]
 · rfl
theorem aft_dry {l : Fro} {x : Ice} {d : Wea} (hL : LawOk l) (hd : WeaOk d) (hw : d.water = 0) (hx : x.we.hi = 0) : (aft l x d).we.hi = 0 := by
 have hc : (cvd l x d).we.hi = 0 := by rw [cvd, if_neg (by omega)]; exact hx
 have hf : ∀ c : Sp, 0 <= c.lo -> (frz l (cvd l x d) c).we.hi = 0 := by
  intro c h0
  have h1 : 0 <= fewC l (cvd l x d) c := by
   unfold fewC dn
   exact Int.ediv_nonneg (Int.mul_nonneg h0 (thr_ok hL _).1) (by omega)
  have h2 : 0 <= fewC l (cvd l x d) c / l.la := Int.ediv_nonneg h1 (by have := hL.la; omega)
  show max 0 ((cvd l x d).we.hi - fewC l (cvd l x d) c / l.la) = 0
  rw [hc]
  omega
 have hcold := hd.cold
 unfold aft
 split
 · exact hf _ (by omega)
 split
 · exact hc
 have h1 := hf ⟨0, d.cold.hi⟩ (Int.le_refl _)
 show max (frz l (cvd l x d) ⟨0, d.cold.hi⟩).we.hi (cvd l x d).we.hi = 0
 rw [h1, hc]
 rfl
theorem thkS_dry {l : Fro} {x : Ice} {dl : List Wea} {m : Int} (h : ThF l x dl m) (hx : x.we.hi = 0) : ∀ k, k <= dl.length -> (stI l x (thkS l x dl m dl.length) k).we.hi = 0
 | 0, _ => hx
 | k + 1, hk => by
  have ih := thkS_dry h hx k (by omega)
  have hF := (thkS_flood h (k := k) (by omega)).2
  have hlen : (thkS l x dl m k).length = dl.length := thkS_len l x dl m k
  obtain ⟨d, hd⟩ : ∃ d, (thkS l x dl m k)[k]? = some d := ⟨_, List.getElem?_eq_getElem (by omega)⟩
  have hS : setW (thkS l x dl m k) k (thkN l x dl m k) = (thkS l x dl m k).set k ⟨d.cold, d.fall, thkN l x dl m k, d.clear⟩ := by rw [setW, hd]
  rw [← stI_take (k := k + 1) (Nat.le_refl _), thkS_take l x dl m hk]
  by_cases h0 : 0 <= floodI l x ((thkS l x dl m k).take (k + 1)) ((k : Int) + 1) m
  ·
   have h1 := hF.2.1 h0
   have h2 : floodI l x ((thkS l x dl m k).take (k + 1)) ((k : Int) + 1) m = thkN l x dl m k := by unfold thkN; omega
   rw [h2, ← setW_take (by omega), ← thkS_succ] at h1
   unfold dryB at h1
   rw [List.length_take, thkS_len, Nat.min_eq_left hk] at h1
   exact of_decide_eq_true h1
  have h2 : thkN l x dl m k = 0 := by unfold thkN; omega
  have hg : (thkS l x dl m (k + 1))[k]? = some ⟨d.cold, d.fall, 0, d.clear⟩ := by
   rw [thkS_succ, hS, h2, List.getElem?_set_self (by omega)]
  rw [stI_take (Nat.le_refl _), stI_succ hg]
  refine aft_dry (lawOk h.fl) ?_ rfl ?_
  · exact weaOk (weaErr_w (thkS_ok h k (by omega) d (List.mem_of_getElem? hd)) (by omega))
  have e1 : stI l x (thkS l x dl m (k + 1)) k = stI l x (thkS l x dl m dl.length) k := by
   rw [← stI_take (dl := thkS l x dl m (k + 1)) (k := k) (Nat.le_refl _), ← stI_take (dl := thkS l x dl m dl.length) (k := k) (Nat.le_refl _), thkS_take l x dl m (n := k + 1) (k := k) (by omega), thkS_take l x dl m (n := dl.length) (k := k) (by omega)]
  rw [e1]
  exact ih
end Go.Proofs.Ytkclabflkocbaaa
