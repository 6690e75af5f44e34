/- fuel: the error of a book, but for whether it has a truth. -/
import Derived.Test.YtcndphefomigeaaDoorPK0
set_option linter.unusedVariables false
set_option linter.unusedSimpArgs false
set_option linter.unnecessarySimpa false
namespace Go.Proofs.YtcndphefomigeaaDoor
open Go.RowKit
set_option maxRecDepth 100000

set_option maxHeartbeats 4000000 in
theorem formed_c (l1 h1 l2 h2 : Nat) (va vm : Value) (b : Bok) (w : World) (ha : Accs l1 h1 w va b.accs) (hm : Mvs l2 h2 w vm b.mvs) (hn : nameOk b.accs) (b1 : h1 ≤ w.heap.size) (b2 : h2 ≤ w.heap.size) :
    Calls Tryd.prog 27 #[.agg #[va, vm]] w (Ret (.int .i64 (formedE b)) w) := by
  have hm1 := ha.len
  have hm2 := hm.len
  unfold maxLen at hm1 hm2
  obtain ⟨accs, mvs⟩ := b
  simp only at ha hm hn hm1 hm2 ⊢
  by_cases c1 : accs.length = 0
  · have Hx := Lib.hid (show formedE ⟨accs, mvs⟩ = 6 by simp [formedE, accsE, c1])
    obtain ⟨a, c, rfl, _⟩ := ha.nil_ c1
    obtain ⟨a', c', rfl⟩ := hm.any
    clear ha hm
    go_enter Tryd.func27, Tryd.ntmps27
    go_wp2_with fail
    go_ret
    exact ⟨by rw [Hx.out]; rfl, gb_alloc (gb_refl _ _) _⟩
  by_cases c2 : 8 < accs.length
  · have Hx := Lib.hid (show formedE ⟨accs, mvs⟩ = 8 by simp [formedE, accsE, c1, c2])
    obtain ⟨a, c, rfl⟩ := ha.any
    obtain ⟨a', c', rfl⟩ := hm.any
    clear ha hm
    have e1 : ((accs.length : Int) == 0) = false := by rw [beq_eq_false_iff_ne]; omega
    go_enter Tryd.func27, Tryd.ntmps27
    go_wp2_with fail
    go_ret
    exact ⟨by rw [Hx.out]; rfl, gb_alloc (gb_refl _ _) _⟩
  have HM := Lib.hid (And.intro hm hn)
  obtain ⟨a', c', rfl⟩ := hm.any
  obtain ⟨x, ox, c, rfl, _, hxh, HA⟩ := Accs.at ha (by omega)
  have HA := Lib.hid HA
  have e1 : ((accs.length : Int) == 0) = false := by rw [beq_eq_false_iff_ne]; omega
  have HE := Lib.hid (show accsE accs = accsErr accs accs.length 0 by simp [accsE, c1, c2])
  clear hm ha hn
  have hmm := @run_makeMap Tryd.prog
  obtain ⟨W0, hW0⟩ : ∃ W0, (w.alloc (.cells #[.slice (some ⟨x, ox, none⟩) accs.length c, .slice a' mvs.length c'] 38)) = W0 := ⟨_, rfl⟩
  have hB1 : Bk W0 w.heap.size 38 #[.slice (some ⟨x, ox, none⟩) accs.length c, .slice a' mvs.length c'] := by rw [← hW0]; exact (Bk.new w 38 #[.slice (some ⟨x, ox, none⟩) accs.length c, .slice a' mvs.length c'])
  have hgW0 : w.grownBy W0 none := hW0 ▸ gb_alloc (gb_refl _ _) _
  have HW0 := Lib.hid hW0
  clear hW0
  have q1 := hB1.c2
  have HN0 : Hid (NameSet (W0.alloc (.map #[] 0)) (w.heap.size + 1) 0 []) := by
    have h := NameSet.made W0
    rw [show W0.heap.size = w.heap.size + 1 by rw [← HW0.out]; simp] at h
    exact Lib.hid h
  go_enter Tryd.func27, Tryd.ntmps27
  go_wp2_with fail
  rw [HW0.out]
  go_loopw [26] (fun i wr => ∃ k : Nat, k ≤ accs.length ∧ i = .int .i64 k ∧ accsE accs = accsErr accs (accs.length - k) k ∧ NameSet wr (w.heap.size + 1) k (names accs k) ∧ Bk wr w.heap.size 38 #[.slice (some ⟨x, ox, none⟩) accs.length c, .slice a' mvs.length c'] ∧ w.grownBy wr none) (fun i _ => accs.length - (intOf i).toNat)
  case atStart => exact ⟨0, Nat.zero_le _, rfl, HE.out, HN0.out, hB1.alloc _, gb_alloc hgW0 _⟩
  case round =>
    clear HW0 hgW0 hB1 q1 HE HN0
    obtain ⟨k, hk, rfl, hrem, hns, hB, hg⟩ := hrel
    have q1 := hB.c2
    have HR := Lib.hid hrem
    have HNS := Lib.hid hns
    have hnsl := hns.lt
    clear hrem hns
    by_cases hlt : k < accs.length
    · have g1 := (HA.out k hlt).gb hg (by simp)
      generalize hac : ga accs k = ac at g1
      have HAC := Lib.hid hac
      obtain ⟨g1, g2, g3, g4, g5, g6⟩ := g1
      have hnl : ac.name.size ≤ maxLen := by rw [← HAC.out]; exact HM.out.2.at hlt
      have HST : Hid (accErr (names accs k) ac = 0 → accsE accs = accsErr accs (accs.length - (k + 1)) (k + 1)) := by
        refine Lib.hid (fun h => ?_)
        rw [HR.out, show accs.length - k = (accs.length - (k + 1)) + 1 by omega]
        exact accsErr_step (by rw [HAC.out]; exact h)
      have HSP : Hid (∀ z : Int, z ≠ 0 → accErr (names accs k) ac = z → formedE ⟨accs, mvs⟩ = z) := by
        refine Lib.hid (fun z hz h => ?_)
        have h1 : accsE accs = z := by
          rw [HR.out, show accs.length - k = (accs.length - (k + 1)) + 1 by omega]
          rw [accsErr_stop (by rw [HAC.out, h]; exact hz), HAC.out, h]
        show (if accsE accs = 0 then mvsE accs.length mvs else accsE accs) = z
        rw [h1, if_neg hz]
      clear HR
      obtain ⟨W1, hW1⟩ : ∃ W1, (wr.alloc (.cells #[.string ac.name, .int .i64 ac.kind, .int .i64 ac.op.lo, .int .i64 ac.op.hi, .int .i64 ac.cl.lo, .int .i64 ac.cl.hi] 41)) = W1 := ⟨_, rfl⟩
      have hA1 : Bk W1 wr.heap.size 41 #[.string ac.name, .int .i64 ac.kind, .int .i64 ac.op.lo, .int .i64 ac.op.hi, .int .i64 ac.cl.lo, .int .i64 ac.cl.hi] := by rw [← hW1]; exact (Bk.new wr 41 #[.string ac.name, .int .i64 ac.kind, .int .i64 ac.op.lo, .int .i64 ac.op.hi, .int .i64 ac.cl.lo, .int .i64 ac.cl.hi])
      have hgW1 : wr.grownBy W1 none := hW1 ▸ gb_alloc (gb_refl _ _) _
      have HW1 := Lib.hid hW1
      clear hW1
      go_wp2_with fail
      rw [HW1.out]
      refine (named_c _ hnl _).mono ?_
      rintro e w2 ⟨rfl, hg2⟩
      have hgr := gb_trans hgW1 hg2
      replace hB := hB.gb hgr (by simp)
      replace hA1 := hA1.gb hg2 (by simp)
      have hG := gb_trans hg hgr
      have hns2 := HNS.out.gb hgr (by simp)
      have HN2 := Lib.hid hns2
      clear hg hgr hg2 hgW1 HW1 HNS q1 g1 g2 g3 g4 g5 g6
      have q1 := hB.c2
      have f0 : w2.cell? ⟨wr.heap.size, 0, none⟩ = some (.string ac.name) := hA1.cell 0
      have f1 : w2.cell? ⟨wr.heap.size, 1, none⟩ = some (.int .i64 ac.kind) := hA1.cell 1
      have f2 : w2.cell? ⟨wr.heap.size, 2, none⟩ = some (.int .i64 ac.op.lo) := hA1.cell 2
      have f3 : w2.cell? ⟨wr.heap.size, 3, none⟩ = some (.int .i64 ac.op.hi) := hA1.cell 3
      have f4 : w2.cell? ⟨wr.heap.size, 4, none⟩ = some (.int .i64 ac.cl.lo) := hA1.cell 4
      have f5 : w2.cell? ⟨wr.heap.size, 5, none⟩ = some (.int .i64 ac.cl.hi) := hA1.cell 5
      have hlk := hns2.look ac.name hnl
      clear hns2
      cases hnm : namedB ac.name with
      | false =>
        have Hx := Lib.hid (HSP.out 3 (by omega) (by rw [accErr, if_neg (by rw [hnm]; simp)]))
        clear HST HSP hlk
        go_wp2_with fail
        go_ret
        exact ⟨by rw [Hx.out]; rfl, hG⟩
      | true =>
        cases hhn : hasName (names accs k) ac.name with
        | true =>
          rw [hhn] at hlk
          have Hx := Lib.hid (HSP.out 9 (by omega) (by rw [accErr, if_pos hnm, if_pos hhn]))
          clear HST HSP
          go_wp2_with fail
          go_ret
          exact ⟨by rw [Hx.out]; rfl, hG⟩
        | false =>
          rw [hhn] at hlk
          have E0 : accErr (names accs k) ac = if inB ac.kind 1 2 = true then (if spE ac.op = 0 then spE ac.cl else spE ac.op) else 4 := by rw [accErr, if_pos hnm, if_neg (by rw [hhn]; simp)]
          have HE0 := Lib.hid E0
          clear E0
          cases hki : inB ac.kind 1 2 with
          | false =>
            have Hx := Lib.hid (HSP.out 4 (by omega) (by rw [HE0.out, if_neg (by rw [hki]; simp)]))
            clear HST HSP HE0
            go_wp2_with (go_at_call 49; refine (in_c _ _ _ _).mono ?_; rintro e w' ⟨rfl, rfl⟩)
            go_ret
            exact ⟨by rw [Hx.out]; rfl, hG⟩
          | true =>
            have E1 : accErr (names accs k) ac = if spE ac.op = 0 then spE ac.cl else spE ac.op := by rw [HE0.out, if_pos hki]
            have HE1 := Lib.hid E1
            clear E1 HE0
            obtain ⟨w3, hput, hns3, hg3⟩ := HN2.out.put (by omega) ac.name hnl
            have HN3 := Lib.hid hns3
            have j0 : ∀ w, (Instr.index 114 (.agg #[.int .i64 ac.op.lo, .int .i64 ac.op.hi, .int .i64 ac.cl.lo, .int .i64 ac.cl.hi]) (.int .i64 0)).run Tryd.prog w = .ok (.agg #[.int .i64 ac.op.lo, .int .i64 ac.op.hi]) w := fun _ => by kernel_rfl
            have j1 : ∀ w, (Instr.index 114 (.agg #[.int .i64 ac.op.lo, .int .i64 ac.op.hi, .int .i64 ac.cl.lo, .int .i64 ac.cl.hi]) (.int .i64 1)).run Tryd.prog w = .ok (.agg #[.int .i64 ac.cl.lo, .int .i64 ac.cl.hi]) w := fun _ => by kernel_rfl
            have z0 : w3.cell? ⟨wr.heap.size, 2, none⟩ = some (.int .i64 ac.op.lo) := gbc hg3 (by simp; omega) f2
            have z1 : w3.cell? ⟨wr.heap.size, 3, none⟩ = some (.int .i64 ac.op.hi) := gbc hg3 (by simp; omega) f3
            have z2 : w3.cell? ⟨wr.heap.size, 4, none⟩ = some (.int .i64 ac.cl.lo) := gbc hg3 (by simp; omega) f4
            have z3 : w3.cell? ⟨wr.heap.size, 5, none⟩ = some (.int .i64 ac.cl.hi) := gbc hg3 (by simp; omega) f5
            have hG3 : w.grownBy w3 none := gb_trans' hG hg3 (fun g e => by right; injection e with e; omega)
            replace hB := hB.gb hg3 (by simp)
            clear hns3 hg3 f2 f3 f4 f5
            go_wp2_with (go_at_call 49; refine (in_c _ _ _ _).mono ?_; rintro e w' ⟨rfl, rfl⟩)
            refine wp_loop_rounds 3 ?_
            rw [rounds_succ]
            obtain ⟨W3, hW3⟩ : ∃ W3, (w3.alloc (.cells #[.int .i64 ac.op.lo, .int .i64 ac.op.hi] 23)) = W3 := ⟨_, rfl⟩
            have hC1 : Bk W3 w3.heap.size 23 #[.int .i64 ac.op.lo, .int .i64 ac.op.hi] := by rw [← hW3]; exact (Bk.new w3 23 #[.int .i64 ac.op.lo, .int .i64 ac.op.hi])
            have hgW3 : w3.grownBy W3 none := hW3 ▸ gb_alloc (gb_refl _ _) _
            have HW3 := Lib.hid hW3
            clear hW3
            have qC := hC1.c2
            go_wp2_with fail
            rw [HW3.out]
            refine (checkSpan_c _ _ _ _ _).mono ?_
            rintro e w4 ⟨rfl, hg4⟩
            have hgr := gb_trans hgW3 hg4
            have hG4 := gb_trans hG3 hgr
            replace hB := hB.gb hgr (by simp)
            have HN4 := Lib.hid (HN3.out.gb hgr (by simp))
            clear hgW3 HW3 hC1 qC hg4 HN3 hgr
            cases hop : (spE ac.op != 0) with
            | true =>
              have hop' : spE ac.op ≠ 0 := by simpa using hop
              have Hx := Lib.hid (HSP.out _ hop' (by rw [HE1.out, if_neg hop']))
              have hop2 : (spanErr ac.op.lo ac.op.hi 0 1000000000 != 0) = true := hop
              clear HST HSP hlk HE1
              go_wp2_with fail
              go_ret
              exact ⟨by rw [Hx.out]; rfl, hG4⟩
            | false =>
              have hop' : spE ac.op = 0 := by simpa using hop
              have hop2 : (spanErr ac.op.lo ac.op.hi 0 1000000000 != 0) = false := hop
              have E2 : accErr (names accs k) ac = spE ac.cl := by rw [HE1.out, if_pos hop']
              have HE2 := Lib.hid E2
              clear E2 HE1
              obtain ⟨W4, hW4⟩ : ∃ W4, (w4.alloc (.cells #[.int .i64 ac.cl.lo, .int .i64 ac.cl.hi] 23)) = W4 := ⟨_, rfl⟩
              have hC1 : Bk W4 w4.heap.size 23 #[.int .i64 ac.cl.lo, .int .i64 ac.cl.hi] := by rw [← hW4]; exact (Bk.new w4 23 #[.int .i64 ac.cl.lo, .int .i64 ac.cl.hi])
              have hgW4 : w4.grownBy W4 none := hW4 ▸ gb_alloc (gb_refl _ _) _
              have HW4 := Lib.hid hW4
              clear hW4
              have qC := hC1.c2
              go_wp2_with fail
              rw [rounds_succ]
              go_wp2_with fail
              rw [HW4.out]
              refine (checkSpan_c _ _ _ _ _).mono ?_
              rintro e w5 ⟨rfl, hg5⟩
              have hgr := gb_trans hgW4 hg5
              have hG5 := gb_trans hG4 hgr
              replace hB := hB.gb hgr (by simp)
              have HN5 := Lib.hid (HN4.out.gb hgr (by simp))
              clear hgW4 HW4 hC1 qC hg5 HN4 hgr
              cases hcl : (spE ac.cl != 0) with
              | true =>
                have hcl' : spE ac.cl ≠ 0 := by simpa using hcl
                have Hx := Lib.hid (HSP.out _ hcl' HE2.out)
                have hcl2 : (spanErr ac.cl.lo ac.cl.hi 0 1000000000 != 0) = true := hcl
                clear HST HSP hlk HE2
                go_wp2_with fail
                go_ret
                exact ⟨by rw [Hx.out]; rfl, hG5⟩
              | false =>
                have hcl' : spE ac.cl = 0 := by simpa using hcl
                have hcl2 : (spanErr ac.cl.lo ac.cl.hi 0 1000000000 != 0) = false := hcl
                have HS := Lib.hid (HST.out (HE2.out.trans hcl'))
                have HNx : Hid (NameSet w5 (w.heap.size + 1) (k + 1) (names accs (k + 1))) := by
                  refine Lib.hid ?_
                  rw [names_succ hlt, HAC.out]
                  exact HN5.out
                clear HST HSP hlk HE2 HN5
                go_wp2_with fail
                rw [rounds_succ]
                go_wp2_with fail
                go_roundw
                case rel => exact ⟨k + 1, by omega, by go_num, HS.out, HNx.out, hB, hG5⟩
                case measure => simp [intOf]; omega
    · have HA0 : Hid (accsE accs = 0) := by rw [HR.out, show accs.length - k = 0 by omega]; exact Lib.hid rfl
      have HF : Hid (formedE ⟨accs, mvs⟩ = mvsE accs.length mvs) := by
        refine Lib.hid ?_
        show (if accsE accs = 0 then mvsE accs.length mvs else accsE accs) = _
        rw [if_pos HA0.out]
      clear HR HNS
      have HMV := Lib.hid (HM.out.1.gb hg (by simp))
      by_cases c3 : 30 < mvs.length
      · have Hx : Hid (formedE ⟨accs, mvs⟩ = 8) := by rw [HF.out, mvsE, if_pos c3]; exact Lib.hid rfl
        go_wp2_with fail
        go_ret
        exact ⟨by rw [Hx.out]; rfl, hg⟩
      · have HV : Hid (formedE ⟨accs, mvs⟩ = mvsErr accs.length mvs mvs.length 0) := by rw [HF.out, mvsE, if_neg c3]; exact Lib.hid rfl
        clear HF
        go_wp2_with fail
        go_loopw [70] (fun i wr => ∃ j : Nat, j ≤ mvs.length ∧ i = .int .i64 j ∧ formedE ⟨accs, mvs⟩ = mvsErr accs.length mvs (mvs.length - j) j ∧ Bk wr w.heap.size 38 #[.slice (some ⟨x, ox, none⟩) accs.length c, .slice a' mvs.length c'] ∧ w.grownBy wr none) (fun i _ => mvs.length - (intOf i).toNat)
        case atStart => exact ⟨0, Nat.zero_le _, rfl, HV.out, hB, hg⟩
        case round =>
          clear HV HMV hg hB q1 hnsl HA
          obtain ⟨j, hj, rfl, hrem, hB, hg⟩ := hrel
          have q1 := hB.c2
          have HR := Lib.hid hrem
          clear hrem
          by_cases hlt : j < mvs.length
          · obtain ⟨y, oy, cy, ey, _, _, HY⟩ := Mvs.at (HM.out.1.gb hg (by simp)) (by omega)
            injection ey with ey1 _ ey2
            subst ey1 ey2
            have g1 := HY j hlt
            clear HY
            generalize hmc : gm mvs j = mc at g1
            have HMC := Lib.hid hmc
            obtain ⟨g1, g2, g3, g4⟩ := g1
            have HST : Hid (mvErr accs.length mc = 0 → formedE ⟨accs, mvs⟩ = mvsErr accs.length mvs (mvs.length - (j + 1)) (j + 1)) := by
              refine Lib.hid (fun h => ?_)
              rw [HR.out, show mvs.length - j = (mvs.length - (j + 1)) + 1 by omega]
              exact mvsErr_step (by rw [HMC.out]; exact h)
            have HSP : Hid (∀ z : Int, z ≠ 0 → mvErr accs.length mc = z → formedE ⟨accs, mvs⟩ = z) := by
              refine Lib.hid (fun z hz h => ?_)
              rw [HR.out, show mvs.length - j = (mvs.length - (j + 1)) + 1 by omega]
              rw [mvsErr_stop (by rw [HMC.out, h]; exact hz), HMC.out, h]
            have hw1 : IntKind.i64.wrap ((accs.length : Int) - 1) = (accs.length : Int) - 1 := IntWalk.i64_in _ (by omega)
            clear HR hmc
            have hBl := hB.lt
            have HB := Lib.hid hB
            have hG : w.grownBy (wr.alloc (.cells #[.int .i64 mc.fr, .int .i64 mc.to, .int .i64 mc.li.lo, .int .i64 mc.li.hi] 43)) none := gb_alloc hg _
            clear hB hg
            cases d1 : inB mc.fr 0 ((accs.length : Int) - 1) with
            | false =>
              have Hx := Lib.hid (HSP.out 7 (by omega) (by rw [mvErr, if_neg (by rw [d1]; simp)]))
              clear HST HSP
              go_wp2_with (first
                | (go_at_call 49; refine (in_c _ _ _ _).mono ?_; rintro e w' ⟨rfl, rfl⟩))
              go_ret
              exact ⟨by rw [Hx.out]; rfl, hG⟩
            | true =>
              cases d2 : inB mc.to 0 ((accs.length : Int) - 1) with
              | false =>
                have Hx := Lib.hid (HSP.out 7 (by omega) (by rw [mvErr, if_neg (by rw [d1, d2]; simp)]))
                clear HST HSP
                go_wp2_with (first
                  | (go_at_call 49; refine (in_c _ _ _ _).mono ?_; rintro e w' ⟨rfl, rfl⟩))
                go_ret
                exact ⟨by rw [Hx.out]; rfl, hG⟩
              | true =>
                have E0 : mvErr accs.length mc = if mc.fr = mc.to then 3 else spE mc.li := by rw [mvErr, if_pos (by rw [d1, d2]; rfl)]
                have HE0 := Lib.hid E0
                clear E0
                cases d3 : (mc.fr == mc.to) with
                | true =>
                  have Hx := Lib.hid (HSP.out 3 (by omega) (by rw [HE0.out, if_pos (by simpa using d3)]))
                  clear HST HSP HE0
                  go_wp2_with (first
                    | (go_at_call 49; refine (in_c _ _ _ _).mono ?_; rintro e w' ⟨rfl, rfl⟩))
                  go_ret
                  exact ⟨by rw [Hx.out]; rfl, hG⟩
                | false =>
                  have E1 : mvErr accs.length mc = spE mc.li := by rw [HE0.out, if_neg (by simpa using d3)]
                  have HE1 := Lib.hid E1
                  clear E1 HE0
                  go_wp2_with (first
                    | (go_at_call 49; refine (in_c _ _ _ _).mono ?_; rintro e w' ⟨rfl, rfl⟩))
                  refine (checkSpan_c _ _ _ _ _).mono ?_
                  rintro e w4 ⟨rfl, hg4⟩
                  have hG4 := gb_trans hG hg4
                  have hB4 := (HB.out.alloc _).gb hg4 (by simp)
                  clear hg4
                  cases hop : (spE mc.li != 0) with
                  | true =>
                    have hop' : spE mc.li ≠ 0 := by simpa using hop
                    have Hx := Lib.hid (HSP.out _ hop' HE1.out)
                    have hop2 : (spanErr mc.li.lo mc.li.hi 0 1000000000 != 0) = true := hop
                    clear HST HSP HE1
                    go_wp2_with fail
                    go_ret
                    exact ⟨by rw [Hx.out]; rfl, hG4⟩
                  | false =>
                    have hop' : spE mc.li = 0 := by simpa using hop
                    have hop2 : (spanErr mc.li.lo mc.li.hi 0 1000000000 != 0) = false := hop
                    have HS := Lib.hid (HST.out (HE1.out.trans hop'))
                    clear HST HSP HE1
                    go_wp2_with fail
                    go_roundw
                    case rel => exact ⟨j + 1, by omega, by go_num, HS.out, hB4, hG4⟩
                    case measure => simp [intOf]; omega
          · have Hx : Hid (formedE ⟨accs, mvs⟩ = 0) := by rw [HR.out, show mvs.length - j = 0 by omega]; exact Lib.hid rfl
            go_wp2_with fail
            go_ret
            exact ⟨by rw [Hx.out]; rfl, hg⟩
