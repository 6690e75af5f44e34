/- How long litres last, by the program and by the reference. -/
import Derived.Test.YtcndphefomigeaaDoorPKB
import Derived.Test.YtcndphefomigeaaDoorPSp
set_option linter.unusedVariables false
set_option linter.unusedSimpArgs false
set_option linter.unnecessarySimpa false
namespace Go.Proofs.YtcndphefomigeaaDoor
open Go.RowKit
set_option maxRecDepth 100000

def clF (l : List Sp) : Nat → Nat → Int
  | 0, _ => 0
  | f + 1, i => if spanErr (sp l i).lo (sp l i).hi (-1000) 1000 = 0 then clF l f (i + 1) else spanErr (sp l i).lo (sp l i).hi (-1000) 1000
theorem clF_ok {l : List Sp} : ∀ f k, clF l f k = 0 → ∀ i, k ≤ i → i < k + f → -1000 ≤ (sp l i).lo ∧ (sp l i).lo ≤ (sp l i).hi ∧ (sp l i).hi ≤ 1000 := by
  intro f
  induction f with
  | zero => intro k _ i h1 h2; omega
  | succ f ih =>
    intro k hk i h1 h2
    unfold clF at hk
    split at hk
    · rename_i h
      rcases Nat.eq_or_lt_of_le h1 with rfl | h3
      · exact spanErr_ok h
      · exact ih (k + 1) hk i h3 (by omega)
    · rename_i h
      exact absurd hk h
def lastsE (s : Sp) (b : List Bn) (c : List Sp) : Int := if spE s = 0 then (if bnE b = 0 then (if 400 < c.length then 8 else clF c c.length 0) else bnE b) else spE s
/-- What is burned up to a day, and the days up to which litres last. -/
def dayS (b : List Bn) (c : List Sp) : Nat → Sp
  | 0 => ⟨0, 0⟩
  | k + 1 => ⟨(dayS b c k).lo + (brn b (sp c k)).lo, (dayS b c k).hi + (brn b (sp c k)).hi⟩
def dayO (s : Sp) (b : List Bn) (c : List Sp) : Nat → Sp
  | 0 => ⟨0, 0⟩
  | k + 1 => ⟨if (dayS b c (k + 1)).hi ≤ s.lo then (k + 1 : Nat) else (dayO s b c k).lo, if (dayS b c (k + 1)).lo ≤ s.hi then (k + 1 : Nat) else (dayO s b c k).hi⟩
def lastsV (s : Sp) (b : List Bn) (c : List Sp) : Value := if lastsE s b c = 0 then .tuple #[(dayO s b c c.length).v, .int .i64 0] else .tuple #[.agg #[.int .i64 0, .int .i64 0], .int .i64 (lastsE s b c)]
theorem lastsV_err {s : Sp} {b : List Bn} {c : List Sp} {e : Int} (h : lastsE s b c = e) (he : e ≠ 0) : lastsV s b c = .tuple #[.agg #[.int .i64 0, .int .i64 0], .int .i64 e] := by
  rw [lastsV, if_neg (by rw [h]; exact he), h]
theorem brn_bd {b : List Bn} (h : BnOk b) (c : Sp) (hc : c.lo ≤ c.hi) : (0 ≤ (brn b c).lo ∧ (brn b c).lo ≤ (brn b c).hi) ∧ (brn b c).hi ≤ 1000000000 := by
  have h1 := pl_lt (l := b) c.lo h.n0
  have h2 := pl_lt (l := b) c.hi h.n0
  have h3 : pl b c.lo ≤ pl b c.hi := pl_mono hc _
  exact brnF_bd h _ h1 (by omega)
theorem dayS_bd {b : List Bn} {c : List Sp} (h : BnOk b) (hc : ∀ i, i < c.length → (sp c i).lo ≤ (sp c i).hi) : ∀ k, k ≤ c.length → (0 ≤ (dayS b c k).lo ∧ (dayS b c k).lo ≤ (dayS b c k).hi) ∧ (dayS b c k).hi ≤ 1000000000 * k := by
  intro k
  induction k with
  | zero => intro _; simp [dayS]
  | succ k ih =>
    intro hk
    have a := ih (by omega)
    have d := brn_bd h (sp c k) (hc k (by omega))
    simp only [dayS]
    omega

set_option maxHeartbeats 4000000 in
theorem lasts_c (l1 h1 l2 h2 : Nat) (vb vc : Value) (s : Sp) (b : List Bn) (c : List Sp) (w : World) (hb : Bns l1 h1 w vb b) (hc : Sps l2 h2 w vc c) (hcap : CapOk vb) (b1 : h1 ≤ w.heap.size) (b2 : h2 ≤ w.heap.size) :
    Calls Tryd.prog 34 #[s.v, vb, vc] w (Ret (lastsV s b c) w) := by
  have hm := hc.len
  unfold maxLen at hm
  obtain ⟨a1, c1, e1⟩ := hb.any
  obtain ⟨a2, c2, e2⟩ := hc.any
  have hvb : ∃ a n c, vb = .slice a n c := ⟨_, _, _, e1⟩
  have HD := Lib.hid (And.intro hb hc)
  subst e2
  clear hb hc e1
  simp only [Sp.v]
  obtain ⟨W0, hW0⟩ : ∃ W0, ((w.alloc (.cells #[.int .i64 s.lo, .int .i64 s.hi] 23)).alloc (.cells #[.int .i64 0, .int .i64 0] 23)) = W0 := ⟨_, rfl⟩
  have hB1 : Bk W0 w.heap.size 23 #[.int .i64 s.lo, .int .i64 s.hi] := by rw [← hW0]; exact ((Bk.new w 23 #[.int .i64 s.lo, .int .i64 s.hi]).alloc (.cells #[.int .i64 0, .int .i64 0] 23))
  have hB2 : Bk W0 (w.heap.size + 1) 23 #[.int .i64 0, .int .i64 0] := by
    have hx_ := (Bk.new (w.alloc (.cells #[.int .i64 s.lo, .int .i64 s.hi] 23)) 23 #[.int .i64 0, .int .i64 0])
    rw [← hW0]
    simpa using hx_
  have hgW0 : w.grownBy W0 none := hW0 ▸ gb_alloc (gb_alloc (gb_refl _ _) _) _
  have HW0 := Lib.hid hW0
  clear hW0
  have HV := Lib.hid hvb
  clear hvb
  go_enter Tryd.func34, Tryd.ntmps34
  go_wp2_with fail
  rw [HW0.out]
  clear HW0
  refine (checkSpan_c _ _ _ _ _).mono ?_
  rintro e w1 ⟨rfl, hg1⟩
  have hG1 := gb_trans hgW0 hg1
  replace hB1 := hB1.gb hg1 (by simp <;> omega)
  (try clear qhB1)
  have qhB1 := hB1.c2
  replace hB2 := hB2.gb hg1 (by simp <;> omega)
  (try clear qhB2)
  have qhB2 := hB2.c2
  have hl2 := hB2.lt
  have hl1 := hB1.lt
  clear hg1 hgW0
  by_cases es : spE s = 0
  case neg =>
    have hne : (spanErr s.lo s.hi 0 1000000000 != 0) = true := by simpa [spE] using es
    have HE := Lib.hid (lastsV_err (s := s) (b := b) (c := c) (e := spanErr s.lo s.hi 0 1000000000) (by rw [lastsE, if_neg es]; rfl) es)
    have q3 := ((hB2.set 0 (.int .i64 0)).set 1 (.int .i64 0)).c2
    clear es
    go_wp2_with fail
    exact bodyPost_ret (v := .tuple #[.agg #[.int .i64 0, .int .i64 0], .int .i64 (spanErr s.lo s.hi 0 1000000000)]) (by simp [results, Tryd.results34, go_sem, q3]) rfl ⟨by rw [HE.out], gb_setCell (gb_setCell hG1 (.inr (by dsimp only; omega)) _) (.inr (by dsimp only; omega)) _⟩
  have hne : (spanErr s.lo s.hi 0 1000000000 != 0) = false := by simpa [spE] using es
  have hs := spanErr_ok es
  have ES := Lib.hid es
  clear es
  go_wp2_with fail
  refine (checkBurn_c l1 h1 _ b _ (HD.out.1.gb hG1 (fun _ e => by cases e))).mono ?_
  rintro e w2 ⟨rfl, hg2⟩
  have hG2 := gb_trans hG1 hg2
  replace hB1 := hB1.gb hg2 (by simp <;> omega)
  (try clear qhB1)
  have qhB1 := hB1.c2
  replace hB2 := hB2.gb hg2 (by simp <;> omega)
  (try clear qhB2)
  have qhB2 := hB2.c2
  replace hl2 := hB2.lt
  replace hl1 := hB1.lt
  clear hg2 hG1 hne
  by_cases eb : bnE b = 0
  case neg =>
    have hne : (bnE b != 0) = true := by simpa using eb
    have HE := Lib.hid (lastsV_err (s := s) (b := b) (c := c) (e := bnE b) (by rw [lastsE, if_pos ES.out, if_neg eb]) eb)
    have q3 := ((hB2.set 0 (.int .i64 0)).set 1 (.int .i64 0)).c2
    clear eb
    go_wp2_with fail
    exact bodyPost_ret (v := .tuple #[.agg #[.int .i64 0, .int .i64 0], .int .i64 (bnE b)]) (by simp [results, Tryd.results34, go_sem, q3]) rfl ⟨by rw [HE.out], gb_setCell (gb_setCell hG2 (.inr (by dsimp only; omega)) _) (.inr (by dsimp only; omega)) _⟩
  have hne : (bnE b != 0) = false := by simpa using eb
  have EB := Lib.hid eb
  clear eb
  by_cases ec : 400 < c.length
  · have HE := Lib.hid (lastsV_err (s := s) (b := b) (c := c) (e := 8) (by rw [lastsE, if_pos ES.out, if_pos EB.out, if_pos ec]) (by decide))
    have q3 := ((hB2.set 0 (.int .i64 0)).set 1 (.int .i64 0)).c2
    go_wp2_with fail
    exact bodyPost_ret (v := .tuple #[.agg #[.int .i64 0, .int .i64 0], .int .i64 8]) (by simp [results, Tryd.results34, go_sem, q3]) rfl ⟨by rw [HE.out], gb_setCell (gb_setCell hG2 (.inr (by dsimp only; omega)) _) (.inr (by dsimp only; omega)) _⟩
  have HE : Hid (lastsE s b c = clF c c.length 0) := Lib.hid (by rw [lastsE, if_pos ES.out, if_pos EB.out, if_neg ec])
  have ec' : c.length ≤ 400 := by omega
  have H2 := Lib.hid (And.intro hB1 (And.intro hB2 hG2))
  have hcl : ∀ i, i < c.length → ∃ x o, a2 = some ⟨x, o, none⟩ ∧ x < h2 ∧ w.cell? ⟨x, o + i * 2, none⟩ = some (.int .i64 (sp c i).lo) ∧ w.cell? ⟨x, o + i * 2 + 1, none⟩ = some (.int .i64 (sp c i).hi) := fun i hi => by
    obtain ⟨x, o, c', ev, _, q, hh⟩ := Sps.at HD.out.2 (by omega)
    injection ev with ev
    exact ⟨x, o, ev, q, hh i hi⟩
  have HCL := Lib.hid hcl
  clear hcl
  go_wp2_with fail
  go_loopw [36] (fun i wr => ∃ k : Nat, k ≤ c.length ∧ i = .int .i64 k ∧ clF c c.length 0 = clF c (c.length - k) k ∧ Bk wr w.heap.size 23 #[.int .i64 s.lo, .int .i64 s.hi] ∧ Bk wr (w.heap.size + 1) 23 #[.int .i64 0, .int .i64 0] ∧ w.grownBy wr none) (fun i _ => c.length - (intOf i).toNat)
  case atStart => exact ⟨0, Nat.zero_le _, rfl, rfl, H2.out.1, H2.out.2.1, H2.out.2.2⟩
  case round =>
    clear hB1 hB2 hG2 hne qhB1 qhB2
    obtain ⟨k, hk, rfl, hrem, hB1, hB2, hg⟩ := hrel
    have HR := Lib.hid hrem
    clear hrem
    have hl2 := hB2.lt
    have hl1 := hB1.lt
    by_cases hlt : k < c.length
    · obtain ⟨x, o, rfl, hxh, g1, g2⟩ := HCL.out k hlt
      replace g1 := gbc hg (by simp) g1
      replace g2 := gbc hg (by simp) g2
      have hxl := cell_lt g1
      obtain ⟨f, hf⟩ : ∃ f, c.length - k = f + 1 := ⟨c.length - k - 1, by omega⟩
      have hst : spanErr (sp c k).lo (sp c k).hi (-1000) 1000 = 0 → clF c c.length 0 = clF c (c.length - (k + 1)) (k + 1) := fun h => by
        rw [HR.out, hf, clF, if_pos h]
        congr 1
        omega
      have hsp : spanErr (sp c k).lo (sp c k).hi (-1000) 1000 ≠ 0 → lastsE s b c = spanErr (sp c k).lo (sp c k).hi (-1000) 1000 := fun h => by rw [HE.out, HR.out, hf, clF, if_neg h]
      have HST := Lib.hid (And.intro hst hsp)
      have HQ := Lib.hid (And.intro hB1 (And.intro hB2 hg))
      clear hf hst hsp hB1 hB2 hg HR
      by_cases e : spanErr (sp c k).lo (sp c k).hi (-1000) 1000 = 0
      · have hne : (spanErr (sp c k).lo (sp c k).hi (-1000) 1000 != 0) = false := by simpa using e
        have HN := Lib.hid (HST.out.1 e)
        clear e
        go_wp2_with (go_at_call 21; refine (checkSpan_c _ _ _ _ _).mono ?_; rintro e w3 ⟨rfl, hg3⟩)
        go_roundw
        case rel => exact ⟨k + 1, by omega, by go_num, HN.out, ((HQ.out.1.alloc (.cells #[.int .i64 (sp c k).lo, .int .i64 (sp c k).hi] 23)).gb hg3 (by simp)), ((HQ.out.2.1.alloc (.cells #[.int .i64 (sp c k).lo, .int .i64 (sp c k).hi] 23)).gb hg3 (by simp)), gb_trans (gb_alloc HQ.out.2.2 (.cells #[.int .i64 (sp c k).lo, .int .i64 (sp c k).hi] 23)) hg3⟩
        case measure => simp [intOf]; omega
      · have hne : (spanErr (sp c k).lo (sp c k).hi (-1000) 1000 != 0) = true := by simpa using e
        have HN := Lib.hid (lastsV_err (HST.out.2 e) e)
        clear e
        go_wp2_with fail
        refine (checkSpan_c _ _ _ _ _).mono ?_
        rintro e w3 ⟨rfl, hg3⟩
        have hB3 := ((HQ.out.2.1.alloc (.cells #[.int .i64 (sp c k).lo, .int .i64 (sp c k).hi] 23)).gb hg3 (by simp))
        have hl3 := hB3.lt
        have q3 := ((hB3.set 0 (.int .i64 0)).set 1 (.int .i64 0)).c2
        have q4 := hB3.c2
        go_wp2_with fail
        exact bodyPost_ret (v := .tuple #[.agg #[.int .i64 0, .int .i64 0], .int .i64 (spanErr (sp c k).lo (sp c k).hi (-1000) 1000)]) (by simp [results, Tryd.results34, go_sem, q3]) rfl ⟨by rw [HN.out], gb_setCell (gb_setCell (gb_trans (gb_alloc HQ.out.2.2 (.cells #[.int .i64 (sp c k).lo, .int .i64 (sp c k).hi] 23)) hg3) (.inr (by dsimp only; omega)) _) (.inr (by dsimp only; omega)) _⟩
    · have hE0 : lastsE s b c = 0 := by rw [HE.out, HR.out, show c.length - k = 0 by omega]; rfl
      have hok := bn_ok EB.out
      have hcs := clF_ok (l := c) c.length 0 (by rw [← HE.out]; exact hE0)
      have HV2 : Hid (lastsV s b c = .tuple #[(dayO s b c c.length).v, .int .i64 0]) := Lib.hid (by rw [lastsV, if_pos hE0])
      have HOK := Lib.hid (And.intro hok hcs)
      have H3 := Lib.hid (And.intro hB1 (And.intro hB2 hg))
      obtain ⟨wc, rfl⟩ : ∃ wc : World, wc = wr := ⟨_, rfl⟩
      clear hE0 hok hcs hB1 hB2 hg HR
      go_wp2_with fail
      have hO := (Bk.new wc 23 #[.int .i64 0, .int .i64 0]).alloc (.cells #[.int .i64 0, .int .i64 0] 23)
      have hS := Bk.newAt (wc.alloc (.cells #[.int .i64 0, .int .i64 0] 23)) 23 #[.int .i64 0, .int .i64 0] (n := wc.heap.size + 1) (by simp)
      go_loopw [49] (fun i wr => ∃ k : Nat, k ≤ c.length ∧ i = .int .i64 k ∧ Bk wr wc.heap.size 23 #[.int .i64 (dayO s b c k).lo, .int .i64 (dayO s b c k).hi] ∧ Bk wr (wc.heap.size + 1) 23 #[.int .i64 (dayS b c k).lo, .int .i64 (dayS b c k).hi] ∧ Bk wr w.heap.size 23 #[.int .i64 s.lo, .int .i64 s.hi] ∧ Bk wr (w.heap.size + 1) 23 #[.int .i64 0, .int .i64 0] ∧ w.grownBy wr none) (fun i _ => c.length - (intOf i).toNat)
      case atStart => exact ⟨0, Nat.zero_le _, rfl, hO, hS, (H3.out.1.alloc _).alloc _, (H3.out.2.1.alloc _).alloc _, gb_alloc (gb_alloc H3.out.2.2 _) _⟩
      case round =>
        clear hO hS hlt
        obtain ⟨j, hj, rfl, hO, hS, hB1, hB2, hg⟩ := hrel
        have qs := hg.size
        by_cases hlt : j < c.length
        · obtain ⟨x, o, rfl, hxh, g1, g2⟩ := HCL.out j hlt
          replace g1 := gbc hg (by simp) g1
          replace g2 := gbc hg (by simp) g2
          have hxl := cell_lt g1
          have hcj := HOK.out.2 j (Nat.zero_le _) (by omega)
          have bd := dayS_bd HOK.out.1 (fun i hi => (HOK.out.2 i (Nat.zero_le _) (by omega)).2.1) j hj
          have bx := brn_bd HOK.out.1 (sp c j) hcj.2.1
          have HS1 : Hid (dayS b c (j + 1) = ⟨(dayS b c j).lo + (brn b (sp c j)).lo, (dayS b c j).hi + (brn b (sp c j)).hi⟩) := Lib.hid rfl
          have HO1 : Hid (dayO s b c (j + 1) = ⟨if (dayS b c j).hi + (brn b (sp c j)).hi ≤ s.lo then ((j + 1 : Nat) : Int) else (dayO s b c j).lo, if (dayS b c j).lo + (brn b (sp c j)).lo ≤ s.hi then ((j + 1 : Nat) : Int) else (dayO s b c j).hi⟩) := Lib.hid rfl
          have HQ := Lib.hid (And.intro hO (And.intro hS (And.intro hB1 (And.intro hB2 hg))))
          clear hO hS hB1 hB2 hg
          obtain ⟨wo, rfl⟩ : ∃ wo : World, wo = wr := ⟨_, rfl⟩
          go_wp2_with fail
          refine (burnt_c l1 h1 _ b (sp c j) _ ((HD.out.1.gb HQ.out.2.2.2.2 (fun _ e => by cases e)).alloc _) HOK.out.1 hcap hcj.2.1 (by simp; omega)).mono ?_
          rintro e w4 ⟨rfl, hg4⟩
          generalize hX : brn b (sp c j) = X at *
          generalize dayS b c j = Y at *
          generalize dayO s b c j = Z at *
          simp only [Sp.v]
          have kO := ((HQ.out.1.alloc (.cells #[.int .i64 (sp c j).lo, .int .i64 (sp c j).hi] 23)).gb hg4 (by simp))
          have kS := ((HQ.out.2.1.alloc (.cells #[.int .i64 (sp c j).lo, .int .i64 (sp c j).hi] 23)).gb hg4 (by simp))
          have kB := ((HQ.out.2.2.1.alloc (.cells #[.int .i64 (sp c j).lo, .int .i64 (sp c j).hi] 23)).gb hg4 (by simp))
          have kR := ((HQ.out.2.2.2.1.alloc (.cells #[.int .i64 (sp c j).lo, .int .i64 (sp c j).hi] 23)).gb hg4 (by simp))
          have kg := gb_trans (gb_alloc HQ.out.2.2.2.2 (.cells #[.int .i64 (sp c j).lo, .int .i64 (sp c j).hi] 23)) hg4
          have qS := kS.c2
          have qB := kB.c2
          have qO := kO.c2
          have lO := kO.lt
          have lS := kS.lt
          have lB := kB.lt
          have HK := Lib.hid (And.intro kO (And.intro kS (And.intro kB (And.intro kR kg))))
          clear kO kS kB kR kg hg4
          by_cases t1 : Y.hi + X.hi ≤ s.lo
          · by_cases t2 : Y.lo + X.lo ≤ s.hi
            · skip
              go_wp2_with fail
              go_roundw
              case rel =>
                refine ⟨j + 1, by omega, by go_num, Bk.eq' (((((HK.out.1.far (by simp <;> omega) _).far (by simp <;> omega) _).set 0 _).set 1 _).alloc _) ?_, Bk.eq' (((((HK.out.2.1.set 0 _).set 1 _).far (by simp <;> omega) _).far (by simp <;> omega) _).alloc _) ?_, ((((HK.out.2.2.1.far (by simp <;> omega) _).far (by simp <;> omega) _).far (by simp <;> omega) _).far (by simp <;> omega) _).alloc _, ((((HK.out.2.2.2.1.far (by simp <;> omega) _).far (by simp <;> omega) _).far (by simp <;> omega) _).far (by simp <;> omega) _).alloc _, gb_alloc (gb_setCell (gb_setCell (gb_setCell (gb_setCell HK.out.2.2.2.2 (.inr (by dsimp only; omega)) _) (.inr (by dsimp only; omega)) _) (.inr (by dsimp only; omega)) _) (.inr (by dsimp only; omega)) _) _⟩
                · rw [HO1.out, if_pos t1, if_pos t2]; simp
                · rw [HS1.out]; try simp
              case measure => simp [intOf]; omega
            · exfalso; omega
          · by_cases t2 : Y.lo + X.lo ≤ s.hi
            · skip
              go_wp2_with fail
              go_roundw
              case rel =>
                refine ⟨j + 1, by omega, by go_num, Bk.eq' ((((HK.out.1.far (by simp <;> omega) _).far (by simp <;> omega) _).set 1 _).alloc _) ?_, Bk.eq' ((((HK.out.2.1.set 0 _).set 1 _).far (by simp <;> omega) _).alloc _) ?_, (((HK.out.2.2.1.far (by simp <;> omega) _).far (by simp <;> omega) _).far (by simp <;> omega) _).alloc _, (((HK.out.2.2.2.1.far (by simp <;> omega) _).far (by simp <;> omega) _).far (by simp <;> omega) _).alloc _, gb_alloc (gb_setCell (gb_setCell (gb_setCell HK.out.2.2.2.2 (.inr (by dsimp only; omega)) _) (.inr (by dsimp only; omega)) _) (.inr (by dsimp only; omega)) _) _⟩
                · rw [HO1.out, if_neg t1, if_pos t2]; simp
                · rw [HS1.out]; try simp
              case measure => simp [intOf]; omega
            · skip
              go_wp2_with fail
              go_roundw
              case rel =>
                refine ⟨j + 1, by omega, by go_num, Bk.eq' (((HK.out.1.far (by simp <;> omega) _).far (by simp <;> omega) _).alloc _) ?_, Bk.eq' (((HK.out.2.1.set 0 _).set 1 _).alloc _) ?_, ((HK.out.2.2.1.far (by simp <;> omega) _).far (by simp <;> omega) _).alloc _, ((HK.out.2.2.2.1.far (by simp <;> omega) _).far (by simp <;> omega) _).alloc _, gb_alloc (gb_setCell (gb_setCell HK.out.2.2.2.2 (.inr (by dsimp only; omega)) _) (.inr (by dsimp only; omega)) _) _⟩
                · rw [HO1.out, if_neg t1, if_neg t2]
                · rw [HS1.out]; try simp
              case measure => simp [intOf]; omega
        · obtain rfl : j = c.length := by omega
          have q3 := ((hB2.set 0 (.int .i64 (dayO s b c c.length).lo)).set 1 (.int .i64 (dayO s b c c.length).hi)).c2
          have q4 := hB2.c2
          have q5 := hO.c2
          have l3 := hB2.lt
          have l5 := hO.lt
          have Hg := Lib.hid hg
          clear hO hS hB1 hB2 hg
          go_wp2_with fail
          exact bodyPost_ret (v := .tuple #[.agg #[.int .i64 (dayO s b c c.length).lo, .int .i64 (dayO s b c c.length).hi], .int .i64 0]) (by simp [results, Tryd.results34, go_sem, q3]) rfl ⟨by rw [HV2.out]; try rfl, gb_setCell (gb_setCell Hg.out (.inr (by dsimp only; omega)) _) (.inr (by dsimp only; omega)) _⟩

end Go.Proofs.YtcndphefomigeaaDoor
