/- build: a row turned round. -/
import Derived.Test.YtokelpmngahnoaaYS6
import Derived.Test.YtokelpmngahnoaaYG0
set_option linter.unusedVariables false
set_option linter.unusedSimpArgs false
set_option linter.unnecessarySimpa false
namespace Go.Proofs.Ytokelpmngahnoaa
open Go.RowKit
set_option maxRecDepth 100000
attribute [local go_sem] Oper.semAt_some
def revI (l : List Int) (i : Nat) : List Int := (List.range l.length).map fun k => if k < i ∨ l.length - i <= k then l.getD (l.length - 1 - k) 0 else l.getD k 0
theorem revI_len (l : List Int) (i : Nat) : (revI l i).length = l.length := by simp [revI]
theorem revI_zero (l : List Int) : l = revI l 0 := by
 refine List.ext_getElem (by rw [revI_len]) fun k h1 h2 => ?_
 have h3 : ¬ (k < 0 ∨ l.length - 0 <= k) := by omega
 simp only [revI, List.getElem_map, List.getElem_range, if_neg h3, List.getD_eq_getElem?_getD, List.getElem?_eq_getElem h1, Option.getD_some]
def rvA (l : List Int) (k : Nat) : Int := l.getD k 0
theorem revI_mid {l : List Int} {i k : Nat} (h1 : i <= k) (h2 : k < l.length - i) : (revI l i)[k]? = some (rvA l k) := by
 have h3 : ¬ (k < i ∨ l.length - i <= k) := by omega
 have h4 : k < l.length := by omega
 unfold revI rvA
 rw [List.getElem?_map, List.getElem?_range h4]
 simp only [Option.map_some, if_neg h3]
theorem revI_next {l : List Int} {i j : Nat} (hj : j + 1 + i = l.length) (hi : i < j) : ((revI l i).set i (rvA l j)).set j (rvA l i) = revI l (i + 1) := by
 unfold rvA
 refine List.ext_getElem? fun k => ?_
 by_cases hk : k < l.length
 ·
  rw [List.getElem?_set, List.length_set, revI_len, List.getElem?_set, revI_len]
  have e : ∀ q, (revI l q)[k]? = some (if k < q ∨ l.length - q <= k then l.getD (l.length - 1 - k) 0 else l.getD k 0) := fun q => by simp [revI, hk]
  rw [e, e]
  by_cases h1 : j = k
  ·
   subst h1
   rw [if_pos rfl, if_pos hk, if_pos (by omega), show l.length - 1 - j = i by omega]
  rw [if_neg h1]
  by_cases h2 : i = k
  ·
   subst h2
   rw [if_pos rfl, if_pos hk, if_pos (by omega), show l.length - 1 - i = j by omega]
  rw [if_neg h2]
  by_cases h3 : k < i ∨ l.length - i <= k
  · rw [if_pos h3, if_pos (by omega)]
  · rw [if_neg h3, if_neg (by omega)]
 · rw [List.getElem?_eq_none (by rw [List.length_set, List.length_set, revI_len]; omega), List.getElem?_eq_none (by rw [revI_len]; omega)]
theorem revI_end {l : List Int} {i j : Nat} (hj : j + 1 + i = l.length) (hi : j <= i) : revI l i = l.reverse := by
 refine List.ext_getElem (by rw [revI_len, List.length_reverse]) fun k h1 h2 => ?_
 rw [revI_len] at h1
 simp only [revI, List.getElem_map, List.getElem_range, List.getElem_reverse]
 by_cases h3 : k < i ∨ l.length - i <= k
 ·
  rw [if_pos h3, List.getD_eq_getElem?_getD, List.getElem?_eq_getElem (by omega)]
  rfl
 rw [if_neg h3, List.getD_eq_getElem?_getD, List.getElem?_eq_getElem (by omega), Option.getD_some]
 congr 1
 omega
set_option maxHeartbeats 4000000 in
theorem reverse_c (w0 : World) (b0 g cap : Nat) (l : List Int) (LR : List Res) (w : World) (hB : Bun w0 [rown intEnc 3 1 b0 (.slice (some ⟨g, 0, none⟩) l.length cap) l, rall LR] w) (hl0 : 0 < l.length) (hl1 : l.length <= 1000) :
  Calls Try.prog 89 #[.slice (some ⟨g, 0, none⟩) l.length cap] w (fun e w' => e = .returned (.tuple #[]) /\ Bun w0 [rown intEnc 3 1 b0 (.slice (some ⟨g, 0, none⟩) l.length cap) l.reverse, rall LR] w') := by
 have hgl := (hB.ltAt 0 rfl _ rfl).1
 go_enter Try.func89, Try.ntmps89
 go_wp2_with fail
 have F0_ : Bun w0 [rown intEnc 3 1 b0 (.slice (some ⟨g, 0, none⟩) l.length cap) (revI l 0), rall LR] w := by rw [← revI_zero l]; exact hB
 (skip)
 obtain ⟨HI1_, HI10⟩ : ∃ I : RelT, I = (fun t ds wr => ∃ (i j : Nat), t 0 = .slice (some ⟨g, 0, none⟩) l.length cap /\ t 2 = .int .i64 (i : Int) /\ t 3 = .int .i64 (j : Int) /\ j + 1 + i = l.length /\ ds = [] /\ Bun w0 [rown intEnc 3 1 b0 (.slice (some ⟨g, 0, none⟩) l.length cap) (revI l i), rall LR] wr) := ⟨_, rfl⟩
 have HI1 := lhd HI10
 clear HI10
 refine wp_loopS 28 rfl HI1_ (fun t wr => l.length - (intOf (t 2)).toNat) ?atStart1 ?round1
 case round1 =>
  intro t ds wr hHid
  rw [HI1.out] at hHid
  obtain ⟨i, j, e0, e2, e3, hrel⟩ := hHid
  have e : ((List.range 28).map t).toArray = #[t 0, t 1, t 2, t 3, t 4, t 5, t 6, t 7, t 8, t 9, t 10, t 11, t 12, t 13, t 14, t 15, t 16, t 17, t 18, t 19, t 20, t 21, t 22, t 23, t 24, t 25, t 26, t 27] := rfl
  (try dsimp only at e)
  rw [e0, e2, e3] at e
  rw [e]
  simp only [e2]
  clear e e0 e2 e3
  obtain ⟨hj_, rfl, hF2⟩ := hrel
  clear F0_
  obtain ⟨w4, rfl⟩ : ∃ x_ : World, x_ = wr := ⟨_, rfl⟩
  by_cases c5 : (i : Int) < (j : Int)
  ·
   have c5H := lhd c5
   have hji : (j : Int) < (l.length : Int) := by omega
   have hii : (i : Int) < (l.length : Int) := by omega
   have hz6 : Hid ((revI l i)[i]? = some (rvA l i)) := lhd (revI_mid (Nat.le_refl _) (by omega))
   have hz7 : Hid ((revI l i)[j]? = some (rvA l j)) := lhd (revI_mid (by omega) (by omega))
   go_wp2_with fail
   have F8 := hF2.drew
   clear hF2
   refine ru_begin (fun W => W.cell? ⟨g, j, none⟩ = some (.int .i64 (rvA l j)) /\ W.cell? ⟨g, i, none⟩ = some (.int .i64 (rvA l i))) 13 (by kernel_rfl) ?_ ?_
   · exact ⟨(by simpa using (Own.sl (F8.at 0 rfl : Own intEnc 3 1 b0 _ (.slice (some ⟨g, 0, none⟩) l.length cap) (revI l i)) (fun _ => rfl)).cells hz7.out 0 _ rfl), (by simpa using (Own.sl (F8.at 0 rfl : Own intEnc 3 1 b0 _ (.slice (some ⟨g, 0, none⟩) l.length cap) (revI l i)) (fun _ => rfl)).cells hz6.out 0 _ rfl)⟩
   obtain ⟨wd10, hwd_⟩ : ∃ x : World, w4.drew = x := ⟨_, rfl⟩
   rw [hwd_] at F8 ⊢
   have wd10s : w4.heap.size <= wd10.heap.size := by rw [← hwd_]; exact Nat.le_refl _
   clear hwd_
   have hS9 := (And.intro ((by simpa using (Own.sl (F8.at 0 rfl : Own intEnc 3 1 b0 _ (.slice (some ⟨g, 0, none⟩) l.length cap) (revI l i)) (fun _ => rfl)).cells hz7.out 0 _ rfl)) ((by simpa using (Own.sl (F8.at 0 rfl : Own intEnc 3 1 b0 _ (.slice (some ⟨g, 0, none⟩) l.length cap) (revI l i)) (fun _ => rfl)).cells hz6.out 0 _ rfl)))
   refine ru_t 0 [] ?_
   refine ru_t 1 [] ?_
   refine ru_t 4 [] ?_
   refine ru_t 5 [] ?_
   refine ru_t 6 [] ?_
   refine ru_t 7 [] ?_
   refine ru_t 8 [11, 10] ?_
   refine ru_t 9 [11, 10] ?_
   refine ru_t 10 [11] ?_
   refine ru_t 11 [] ?_
   refine ru_t 12 [] ?_
   (try simp only [Act.put, lpA, lpB, lpC])
   refine ru_p 2 ?_
   refine ru_p 3 ?_
   (try simp only [Act.put, lpA, lpB, lpC])
   clear hS9
   refine ru_one 13 rfl (by kernel_rfl) (fun K hK => ?_)
   have kc_ : World.cell? _ ⟨g, i, none⟩ = some (.int .i64 (rvA l i)) := (by simpa using (Own.sl (F8.at 0 rfl : Own intEnc 3 1 b0 _ (.slice (some ⟨g, 0, none⟩) l.length cap) (revI l i)) (fun _ => rfl)).cells hz6.out 0 _ rfl)
   have kf_ : World.frozen? _ ⟨g, i, none⟩ = false := Own.live (F8.at 0 rfl : Own intEnc 3 1 b0 _ (.slice (some ⟨g, 0, none⟩) l.length cap) (revI l i)) _
   go_simp
   clear kc_ kf_
   have F11 := Bun.setOwn (sz := 1) (fun _ => rfl) F8 hz6.out (y := (rvA l j)) (j := 0) (u := (.int .i64 (rvA l j))) (k := i) (by decide) rfl (by omega)
   clear F8
   have hz12 : Hid (((revI l i).set i (rvA l j))[j]? = some (rvA l j)) := lhd ((List.getElem?_set_ne (by omega)).trans hz7.out)
   refine ru_back_late hK (by kernel_rfl) ?_
   clear hK K
   (try simp only [Act.put, lpA, lpB, lpC])
   refine ru_one 14 rfl (by kernel_rfl) (fun K hK => ?_)
   go_simp
   refine ru_back_late hK (by kernel_rfl) ?_
   clear hK K
   (try simp only [Act.put, lpA, lpB, lpC])
   refine ru_one 15 rfl (by kernel_rfl) (fun K hK => ?_)
   have kc_ : World.cell? _ ⟨g, j, none⟩ = some (.int .i64 (rvA l j)) := (by simpa using (Own.sl (F11.at 0 rfl : Own intEnc 3 1 b0 _ (.slice (some ⟨g, 0, none⟩) l.length cap) ((revI l i).set i (rvA l j))) (fun _ => rfl)).cells hz12.out 0 _ rfl)
   have kf_ : World.frozen? _ ⟨g, j, none⟩ = false := Own.live (F11.at 0 rfl : Own intEnc 3 1 b0 _ (.slice (some ⟨g, 0, none⟩) l.length cap) ((revI l i).set i (rvA l j))) _
   go_simp
   clear kc_ kf_
   have F13 := Bun.setOwn (sz := 1) (fun _ => rfl) F11 hz12.out (y := (rvA l i)) (j := 0) (u := (.int .i64 (rvA l i))) (k := j) (by decide) rfl (by omega)
   clear F11
   refine ru_back_late hK (by kernel_rfl) ?_
   clear hK K
   (try simp only [Act.put, lpA, lpB, lpC])
   refine ru_done (by kernel_rfl) ?_
   obtain ⟨w14, hx15, F17, hxs16⟩ := (show Bun w0 [rown intEnc 3 1 b0 (.slice (some ⟨g, 0, none⟩) l.length cap) (((revI l i).set i (rvA l j)).set j (rvA l i)), rall LR] _ from F13).name
   (try simp at hxs16)
   rw [hx15]
   clear hx15 F13
   go_wp2_with fail
   (first | refine ⟨rfl, ?_, ?_⟩ | refine ⟨?_, ?_⟩)
   · rw [HI1.out]; exact ⟨i + 1, j - 1, rfl, (by show Value.int .i64 ((i : Int) + 1) = _; simp), (by show Value.int .i64 ((j : Int) - 1) = _; rw [show ((j : Int) - 1) = ((j - 1 : Nat) : Int) by omega]), (by omega), (by first | rfl | simp), (by rw [← revI_next (show j + 1 + i = l.length by omega) (by omega)]; exact F17)⟩
   · simp [slot, intOf]; omega
  have c5H := lhd c5
  have c5a : decide ((i : Int) < (j : Int)) = false := dec_f c5
  go_wp2_with fail
  exact bodyPost_end (v := .tuple #[]) (by simp [results, Try.results89, go_sem]) rfl (⟨rfl, (by rw [← revI_end (show j + 1 + i = l.length by omega) (by omega)]; exact hF2)⟩)
 case atStart1 =>
  rw [HI1.out]
  exact ⟨0, l.length - 1, rfl, rfl, (by rw [show ((l.length - 1 : Nat) : Int) = (l.length : Int) - 1 by omega]; first | kernel_rfl | rfl), (by omega), rfl, F0_⟩
end Go.Proofs.Ytokelpmngahnoaa
