/- fuel: all numbers of a truth. -/
import Derived.Test.YtfifldbinnkdmaaLos
import Derived.Test.YtfifldbinnkdmaaJoin2
import Derived.Test.YtfifldbinnkdmaaK1
import Derived.Test.YtfifldbinnkdmaaBal
import Derived.Test.YtfifldbinnkdmaaKitB
set_option linter.unusedVariables false
set_option linter.unusedSimpArgs false
set_option linter.unnecessarySimpa false
namespace Go.Proofs.Ytfifldbinnkdmaa
open Go.RowKit Go.Shelf
set_option maxRecDepth 100000

/-- What accounts lose in a truth, the sum of it, and all numbers of the truth. -/
def numsL (b : Bok) (O C V : List Int) : List Int := lsM b O C V b.mvs.length ++ [sumN (fun k => gi (lsM b O C V b.mvs.length) k) b.accs.length] ++ O ++ C ++ V
theorem lsM_bdA {b : Bok} {O C V : List Int} (hb : BokOk b) (hA : ∀ i, i < b.accs.length → truA b O C i) (hM : ∀ q, q < b.mvs.length → truM b V q) : ∀ m, m ≤ b.mvs.length → ∀ j, j < b.accs.length → -(1000000000 * ((m : Int) + 1)) ≤ gi (lsM b O C V m) j ∧ gi (lsM b O C V m) j ≤ 1000000000 * ((m : Int) + 1)
  | 0, _, j, hj => by
    have h1 := hA j hj
    unfold truA at h1
    have h2 := (hb.acc j hj).op
    have h3 := (hb.acc j hj).cl
    rw [lsM, gi_lsA hj, if_pos hj]
    omega
  | m + 1, hm, j, hj => by
    have ih := fun q hq => lsM_bdA hb hA hM m (by omega) q hq
    have h1 := hb.mv m (by omega)
    have hf := h1.fr
    have ht := h1.to
    have hne := h1.ne
    have hli := h1.li
    have h2 := hM m (by omega)
    unfold truM at h2
    have hl := lsM_len b O C V m
    have i1 := ih j hj
    have i2 := ih (gm b.mvs m).fr.toNat (by omega)
    have i3 := ih (gm b.mvs m).to.toNat (by omega)
    rw [lsM, gi_addAt (by rw [addAt_len]; omega), gi_addAt (by omega), gi_addAt (by omega), if_neg (show (gm b.mvs m).to.toNat ≠ (gm b.mvs m).fr.toNat by omega)]
    by_cases c1 : j = (gm b.mvs m).to.toNat
    · rw [if_pos c1]; omega
    · rw [if_neg c1]
      by_cases c2 : j = (gm b.mvs m).fr.toNat
      · rw [if_pos c2]; omega
      · rw [if_neg c2]; omega
theorem own_low {α : Type} {enc : α → List Value} {e : TypeId} {sz k1 : Nat} {v : Value} {l : List α} {w w' : World} (hk : w.heap.size ≤ k1) (h : Bun w [rown enc e sz k1 v l] w') : Bun w [rown enc e sz w.heap.size v l] w' := by
  refine ⟨fun r hr => ?_, fun r hr => ?_, List.pairwise_singleton _ _, h.gb⟩
  · rw [List.mem_singleton] at hr
    subst hr
    have h0 : Own enc e sz k1 w' v l := h.at 0 rfl
    obtain ⟨a1, a2⟩ := h0
    refine ⟨a1, ?_⟩
    rcases a2 with a2 | ⟨g, cap, cur, hv, hg, h3⟩
    · exact .inl a2
    · exact .inr ⟨g, cap, cur, hv, Nat.le_trans hk hg, h3⟩
  · rw [List.mem_singleton] at hr
    subst hr
    intro x hx
    exact h.bd (rown enc e sz k1 v l) (List.mem_singleton.2 rfl) x hx
theorem sum_n (lo hi : Nat) (v : Value) (l : List Int) (w : World) (hl : Ints lo hi w v l) (h2 : hi ≤ w.heap.size) (hbd : ∀ k, k < l.length → -10000000000000 ≤ gi l k ∧ gi l k ≤ 10000000000000) (hc : l.length ≤ 100) (n : Nat) (hn : l.length = n) :
    Calls Try.prog 64 #[v] w (Ret (.int .i64 (sumN (fun k => gi l k) n)) w) := by
  subst hn
  exact sum_c lo hi v l w hl h2 hbd hc
set_option maxHeartbeats 16000000 in
theorem numbers_c (lo hi : Nat) (va vm : Value) (b : Bok) (l1 h1 l2 h2 l3 h3 : Nat) (vo vc vv : Value) (O C V : List Int) (w : World) (hb : HasB lo hi w va vm b) (hn : nameOk b.accs) (hh : hi ≤ w.heap.size) (ho : Ints l1 h1 w vo O) (q1 : h1 ≤ w.heap.size) (hc : Ints l2 h2 w vc C) (q2 : h2 ≤ w.heap.size) (hv : Ints l3 h3 w vv V) (q3 : h3 ≤ w.heap.size) (hok : BokOk b) (hln : O.length = b.accs.length ∧ C.length = b.accs.length ∧ V.length = b.mvs.length) (hta : ∀ q, q < b.accs.length → truA b O C q) (htm : ∀ q, q < b.mvs.length → truM b V q) :
    Calls Try.prog 53 #[.agg #[va, vm], .agg #[vo, vc, vv]] w (OwnIntsB (numsL b O C V) (numsL b O C V).length w) := by
  have F1 : Bun w [] w := Bun.nil _
  obtain ⟨hba, hbm⟩ := id hb
  clear hb
  have hm_ac := hba.len
  unfold maxLen at hm_ac
  obtain ⟨aa, ak, rfl⟩ := hba.any
  have F2 := F1.sl0 hba hh rfl
  clear F1
  clear hba
  have hm_mv := hbm.len
  unfold maxLen at hm_mv
  obtain ⟨ma, mk, rfl⟩ := hbm.any
  have F3 := F2.sl0 hbm hh rfl
  clear F2
  clear hbm
  have HN := Lib.hid hn
  clear hn
  have hm_to := ho.len
  unfold maxLen at hm_to
  obtain ⟨toa, tok, rfl⟩ := ho.any
  have F4 := F3.sl0 ho q1 rfl
  clear F3
  clear ho
  have hm_tc := hc.len
  unfold maxLen at hm_tc
  obtain ⟨tca, tck, rfl⟩ := hc.any
  have F5 := F4.sl0 hc q2 rfl
  clear F4
  clear hc
  have hm_tv := hv.len
  unfold maxLen at hm_tv
  obtain ⟨tva, tvk, rfl⟩ := hv.any
  have F6 := F5.sl0 hv q3 rfl
  clear F5
  clear hv
  have HOK := Lib.hid hok
  have hn0 := hok.n0
  have hn8 := hok.n8
  have hm31 := hok.m30
  have HTA := Lib.hid hta
  have HTM := Lib.hid htm
  have HLN := Lib.hid hln
  have hll : ((O.length ≤ b.accs.length ∧ b.accs.length ≤ O.length) ∧ C.length ≤ b.accs.length ∧ b.accs.length ≤ C.length) ∧ V.length ≤ b.mvs.length ∧ b.mvs.length ≤ V.length := by omega
  have hlm := lsM_len b O C V b.mvs.length
  have hlm2 : (lsM b O C V b.mvs.length).length ≤ b.accs.length ∧ b.accs.length ≤ (lsM b O C V b.mvs.length).length := by omega
  have HLM := Lib.hid hlm
  clear hok hta htm hln hlm
  go_enter Try.func53, Try.ntmps53
  go_wp2_with fail
  have F7 := F6.new 25 #[.slice aa b.accs.length ak, .slice ma b.mvs.length mk] (n := w.heap.size) (by simp)
  clear F6
  have F8 := F7.new 32 #[.slice toa O.length tok, .slice tca C.length tck, .slice tva V.length tvk] (n := (w.heap.size + 1)) (by simp)
  clear F7
  obtain ⟨w9, hx10, F12, hxs11⟩ := (show Bun w [rbox (w.heap.size + 1) 32 #[.slice toa O.length tok, .slice tca C.length tck, .slice tva V.length tvk], rbox w.heap.size 25 #[.slice aa b.accs.length ak, .slice ma b.mvs.length mk], rsl intEnc 1 l3 h3 (.slice tva V.length tvk) V, rsl intEnc 1 l2 h2 (.slice tca C.length tck) C, rsl intEnc 1 l1 h1 (.slice toa O.length tok) O, rsl mvEnc 4 lo hi (.slice ma b.mvs.length mk) b.mvs, rsl accEnc 6 lo hi (.slice aa b.accs.length ak) b.accs] _ from F8).name
  (try simp at hxs11)
  rw [hx10]
  clear hx10 F8
  refine (losing_q _ _ _ _ b _ _ _ _ _ _ _ _ _ O C V _ ⟨(F12.at 6 rfl : Sl accEnc 6 lo hi _ (.slice aa b.accs.length ak) b.accs), (F12.at 5 rfl : Sl mvEnc 4 lo hi _ (.slice ma b.mvs.length mk) b.mvs)⟩ HN.out (by first | omega | (simp; omega)) (F12.at 4 rfl : Sl intEnc 1 l1 h1 _ (.slice toa O.length tok) O) (by first | omega | (simp; omega)) (F12.at 3 rfl : Sl intEnc 1 l2 h2 _ (.slice tca C.length tck) C) (by first | omega | (simp; omega)) (F12.at 2 rfl : Sl intEnc 1 l3 h3 _ (.slice tva V.length tvk) V) (by first | omega | (simp; omega)) HOK.out HLN.out HTA.out HTM.out).mono ?_
  rintro e w13 ⟨la_, lc_, rfl, hB14⟩
  have hB14s := hB14.gb.size
  (try simp at hB14s)
  have F15 := F12.joinN (L2 := [rown intEnc 3 1 w9.heap.size (.slice la_ b.accs.length lc_) (lsM b O C V b.mvs.length)]) hB14 rfl
  clear F12
  clear hB14
  (try dsimp only [List.cons_append, List.nil_append] at F15)
  go_wp2_with fail
  have F16 := F15.drew
  clear F15
  refine ru_begin (fun W => W.cell? ⟨(w.heap.size + 1), 0, none⟩ = some (.slice toa O.length tok) ∧ W.cell? ⟨(w.heap.size + 1), 1, none⟩ = some (.slice tca C.length tck) ∧ W.cell? ⟨(w.heap.size + 1), 2, none⟩ = some (.slice tva V.length tvk)) 14 (by kernel_rfl) ?_ ?_
  · exact ⟨F16.cl 1 0 rfl rfl, F16.cl 1 1 rfl rfl, F16.cl 1 2 rfl rfl⟩
  obtain ⟨wd18, hwd_⟩ : ∃ x : World, w13.drew = x := ⟨_, rfl⟩
  rw [hwd_] at F16 ⊢
  have wd18s : w13.heap.size ≤ wd18.heap.size := by rw [← hwd_]; exact Nat.le_refl _
  clear hwd_
  have hS17 := (And.intro (F16.cl 1 0 rfl rfl) (And.intro (F16.cl 1 1 rfl rfl) (F16.cl 1 2 rfl rfl)))
  refine ru_t 0 [] ?_
  refine ru_t 1 [] ?_
  refine ru_t 5 [] ?_
  refine ru_t 6 [] ?_
  refine ru_t 8 [] ?_
  refine ru_t 9 [] ?_
  refine ru_t 11 [] ?_
  refine ru_t 12 [] ?_
  (try simp only [Act.put, List.setIfInBounds_toArray, List.set_cons_zero, List.set_cons_succ])
  clear hS17
  refine ru_one 2 rfl (by kernel_rfl) (fun K hK => ?_)
  go_simp
  refine (sum_n _ _ _ (lsM b O C V b.mvs.length) _ (Own.sl (F16.at 0 rfl : Own intEnc 3 1 w9.heap.size _ (.slice la_ b.accs.length lc_) (lsM b O C V b.mvs.length)) (fun _ => rfl)) (Nat.le_refl _) (fun k hk => by have h_ := lsM_bdA HOK.out HTA.out HTM.out b.mvs.length (Nat.le_refl _) k (by omega); omega) (by omega) _ HLM.out).mono ?_
  rintro e w21 ⟨rfl, hg19⟩
  have hg19s := hg19.size
  (try simp at hg19s)
  have F22 := F16.gn hg19
  clear F16
  refine ru_back hK (by exact ⟨F22.cl 1 0 rfl rfl, F22.cl 1 1 rfl rfl, F22.cl 1 2 rfl rfl⟩) (fun hHeld => ?_)
  clear hK K
  (try simp only [Act.put, List.setIfInBounds_toArray, List.set_cons_zero, List.set_cons_succ])
  refine ru_one 3 rfl (by kernel_rfl) (fun K hK => ?_)
  go_simp
  have F23 := F22.new 3 #[.int .i64 (sumN (fun k => gi (lsM b O C V b.mvs.length) k) b.accs.length)] (n := w21.heap.size) (by simp)
  clear F22
  refine ru_back hK (by exact ⟨F23.cl 2 0 rfl rfl, F23.cl 2 1 rfl rfl, F23.cl 2 2 rfl rfl⟩) (fun hHeld => ?_)
  clear hK K
  (try simp only [Act.put, List.setIfInBounds_toArray, List.set_cons_zero, List.set_cons_succ])
  refine ru_one 4 rfl (by kernel_rfl) (fun K hK => ?_)
  refine step_app _ okInt rfl _ _ rfl w9.heap.size (.slice la_ b.accs.length lc_) (lsM b O C V b.mvs.length) [(sumN (fun k => gi (lsM b O C V b.mvs.length) k) b.accs.length)] rfl (by exact (F23.at 1 rfl : Own intEnc 3 1 w9.heap.size _ (.slice la_ b.accs.length lc_) (lsM b O C V b.mvs.length))) ⟨_, 0, none⟩ 1 1 rfl rfl (by decide) (news_of (F23.at 0 rfl : Bk _ w21.heap.size 3 #[.int .i64 (sumN (fun k => gi (lsM b O C V b.mvs.length) k) b.accs.length)])) (b.accs.length + 1) (by rw [HLM.out]) (by omega) (by first | omega | (simp; omega)) _ rfl ?_
  intro g24 cap25 w26 hp27
  have hp27s := hp27.gb.size
  (try simp at hp27s)
  have F28 := (F23.front 1 rfl rfl).app hp27 (Nat.le_refl _)
  clear F23
  refine ru_back hK (by exact ⟨F28.cl 2 0 rfl rfl, F28.cl 2 1 rfl rfl, F28.cl 2 2 rfl rfl⟩) (fun hHeld => ?_)
  clear hK K
  (try simp only [Act.put, List.setIfInBounds_toArray, List.set_cons_zero, List.set_cons_succ])
  refine ru_one 7 rfl (by kernel_rfl) (fun K hK => ?_)
  have hlq_ : ((lsM b O C V b.mvs.length) ++ [(sumN (fun k => gi (lsM b O C V b.mvs.length) k) b.accs.length)]).length ≤ b.accs.length + 1 ∧ b.accs.length + 1 ≤ ((lsM b O C V b.mvs.length) ++ [(sumN (fun k => gi (lsM b O C V b.mvs.length) k) b.accs.length)]).length := by rw [List.length_append, HLM.out]; simp
  refine step_appS okInt rfl _ _ rfl w9.heap.size (.slice (some ⟨g24, 0, none⟩) (b.accs.length + 1) cap25) ((lsM b O C V b.mvs.length) ++ [(sumN (fun k => gi (lsM b O C V b.mvs.length) k) b.accs.length)]) rfl (F28) l1 h1 (.slice toa O.length tok) O rfl (F28.at 6 rfl) (by first | omega | (simp; omega)) (by first | omega | (simp; omega)) ?_
  intro vc30 w31 hB32 hs33
  (try simp at hs33)
  have F34 := hB32
  clear F28
  obtain ⟨NL35, hNL35_⟩ : ∃ z_, ((lsM b O C V b.mvs.length) ++ [(sumN (fun k => gi (lsM b O C V b.mvs.length) k) b.accs.length)]) ++ O = z_ := ⟨_, rfl⟩
  rw [hNL35_] at F34
  have hNL351 := congrArg List.length hNL35_
  rw [List.length_append] at hNL351
  have hNL352 : NL35.length ≤ ((lsM b O C V b.mvs.length) ++ [(sumN (fun k => gi (lsM b O C V b.mvs.length) k) b.accs.length)]).length + O.length ∧ ((lsM b O C V b.mvs.length) ++ [(sumN (fun k => gi (lsM b O C V b.mvs.length) k) b.accs.length)]).length + O.length ≤ NL35.length := by omega
  have HNL35 := Lib.hid hNL35_
  clear hNL35_ hNL351
  obtain ⟨ca36, cap37, e_⟩ := (Own.sl (F34.at 0 rfl : Own intEnc 3 1 w9.heap.size _ vc30 NL35) (fun _ => rfl)).any
  subst e_
  refine ru_back hK (by exact ⟨F34.cl 2 0 rfl rfl, F34.cl 2 1 rfl rfl, F34.cl 2 2 rfl rfl⟩) (fun hHeld => ?_)
  clear hK K
  (try simp only [Act.put, List.setIfInBounds_toArray, List.set_cons_zero, List.set_cons_succ])
  refine ru_one 10 rfl (by kernel_rfl) (fun K hK => ?_)
  refine step_appS okInt rfl _ _ rfl w9.heap.size (.slice ca36 NL35.length cap37) NL35 rfl (F34) l2 h2 (.slice tca C.length tck) C rfl (F34.at 5 rfl) (by first | omega | (simp; omega)) (by first | omega | (simp; omega)) ?_
  intro vc39 w40 hB41 hs42
  (try simp at hs42)
  have F43 := hB41
  clear F34
  obtain ⟨NL44, hNL44_⟩ : ∃ z_, NL35 ++ C = z_ := ⟨_, rfl⟩
  rw [hNL44_] at F43
  have hNL441 := congrArg List.length hNL44_
  rw [List.length_append] at hNL441
  have hNL442 : NL44.length ≤ NL35.length + C.length ∧ NL35.length + C.length ≤ NL44.length := by omega
  have HNL44 := Lib.hid hNL44_
  clear hNL44_ hNL441
  obtain ⟨ca45, cap46, e_⟩ := (Own.sl (F43.at 0 rfl : Own intEnc 3 1 w9.heap.size _ vc39 NL44) (fun _ => rfl)).any
  subst e_
  refine ru_back hK (by exact ⟨F43.cl 2 0 rfl rfl, F43.cl 2 1 rfl rfl, F43.cl 2 2 rfl rfl⟩) (fun hHeld => ?_)
  clear hK K
  (try simp only [Act.put, List.setIfInBounds_toArray, List.set_cons_zero, List.set_cons_succ])
  refine ru_one 13 rfl (by kernel_rfl) (fun K hK => ?_)
  refine step_appS okInt rfl _ _ rfl w9.heap.size (.slice ca45 NL44.length cap46) NL44 rfl (F43) l3 h3 (.slice tva V.length tvk) V rfl (F43.at 4 rfl) (by first | omega | (simp; omega)) (by first | omega | (simp; omega)) ?_
  intro vc48 w49 hB50 hs51
  (try simp at hs51)
  have F52 := hB50
  clear F43
  obtain ⟨NL53, hNL53_⟩ : ∃ z_, NL44 ++ V = z_ := ⟨_, rfl⟩
  rw [hNL53_] at F52
  have hNL531 := congrArg List.length hNL53_
  rw [List.length_append] at hNL531
  have hNL532 : NL53.length ≤ NL44.length + V.length ∧ NL44.length + V.length ≤ NL53.length := by omega
  have HNL53 := Lib.hid hNL53_
  clear hNL53_ hNL531
  obtain ⟨ca54, cap55, e_⟩ := (Own.sl (F52.at 0 rfl : Own intEnc 3 1 w9.heap.size _ vc48 NL53) (fun _ => rfl)).any
  subst e_
  refine ru_back hK (by exact ⟨F52.cl 2 0 rfl rfl, F52.cl 2 1 rfl rfl, F52.cl 2 2 rfl rfl⟩) (fun hHeld => ?_)
  clear hK K
  (try simp only [Act.put, List.setIfInBounds_toArray, List.set_cons_zero, List.set_cons_succ])
  refine ru_one 14 rfl (by kernel_rfl) (fun K hK => ?_)
  go_simp
  refine ru_back_late hK (by kernel_rfl) ?_
  clear hK K
  (try simp only [Act.put, List.setIfInBounds_toArray, List.set_cons_zero, List.set_cons_succ])
  refine ru_done (by kernel_rfl) ?_
  obtain ⟨w56, hx57, F59, hxs58⟩ := (show Bun w [rown intEnc 3 1 w9.heap.size (.slice ca54 NL53.length cap55) NL53, rsl intEnc 1 l3 h3 (.slice tva V.length tvk) V, rsl intEnc 1 l2 h2 (.slice tca C.length tck) C, rsl intEnc 1 l1 h1 (.slice toa O.length tok) O, rsl mvEnc 4 lo hi (.slice ma b.mvs.length mk) b.mvs, rsl accEnc 6 lo hi (.slice aa b.accs.length ak) b.accs] _ from (((F52.drop 1 rfl).drop 1 rfl).drop 1 rfl)).name
  (try simp at hxs58)
  rw [hx57]
  clear hx57 F52
  go_wp2_with fail
  have hE : NL53 = numsL b O C V := by rw [← HNL53.out, ← HNL44.out, ← HNL35.out]; rfl
  exact bodyPost_ret (v := .slice ca54 NL53.length cap55) (by simp [results, Try.results53, go_sem]) rfl (⟨_, _, by rw [← hE], by rw [← hE]; exact own_low (by omega) (F59.pick [0] (by decide) rfl)⟩)

end Go.Proofs.Ytfifldbinnkdmaa
