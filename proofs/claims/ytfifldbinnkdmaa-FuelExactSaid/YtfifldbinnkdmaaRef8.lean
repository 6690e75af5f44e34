/- The reference: the error of a book's accounts. -/
import Derived.Test.YtfifldbinnkdmaaFormed
import Derived.Deep.QuietTactic
import Derived.BigQuiet
set_option linter.unusedVariables false
set_option linter.unusedSimpArgs false
set_option linter.unnecessarySimpa false
namespace Go.Proofs.Ytfifldbinnkdmaa
open Go.RowKit
set_option maxRecDepth 100000

theorem namedB_size {s : ByteArray} (h : ¬ (1 ≤ s.size ∧ s.size ≤ 8)) : namedB s = false := by
  have : inB s.size 1 8 = false := by
    unfold inB
    rw [decide_eq_false_iff_not]
    omega
  simp [namedB, this]
theorem namedB_size_ok {s : ByteArray} (h : 1 ≤ s.size ∧ s.size ≤ 8) : inB s.size 1 8 = true := inB_mk (by omega) (by omega)
set_option maxHeartbeats 400000 in
theorem rnamed_c (s : ByteArray) (hs : s.size ≤ maxLen) (w : World) : Calls Try.prog 110 #[.string s] w (Ret (.bool (namedB s)) w) := by
  unfold maxLen at hs
  by_cases h1 : s.size < 1
  · have Hx := Lib.hid (namedB_size (s := s) (by omega))
    have e1 : s.size = 0 := by omega
    go_enter Try.func110, Try.ntmps110
    go_wp2
    go_ret
    exact ⟨by rw [Hx.out]; rfl, gb_refl _ _⟩
  by_cases h2 : 8 < s.size
  · have Hx := Lib.hid (namedB_size (s := s) (by omega))
    go_enter Try.func110, Try.ntmps110
    go_wp2
    go_ret
    exact ⟨by rw [Hx.out]; rfl, gb_refl _ _⟩
  have HI := Lib.hid (namedB_size_ok (s := s) (by omega))
  have h1' : 1 ≤ s.size := by omega
  have h2' : s.size ≤ 8 := by omega
  clear h1 h2
  go_enter Try.func110, Try.ntmps110
  go_wp2
  go_loop [3] (fun r => ∃ pos : Nat, pos ≤ s.size ∧ r = .int .i64 pos ∧ ∀ i (hi : i < s.size), i < pos → 97 ≤ (s[i]'hi).toNat ∧ (s[i]'hi).toNat ≤ 122) (fun r => s.size - (intOf r).toNat)
  case atStart => exact ⟨0, Nat.zero_le _, rfl, fun i hi h => by omega⟩
  case round =>
    obtain ⟨pos, hp0, rfl, hall⟩ := hrel
    have HA := Lib.hid hall
    clear hall
    by_cases hp : pos < s.size
    · by_cases c1 : ((s[pos]'hp).toNat : Int) < 97
      · have Hx := Lib.hid (named_bad hp (fun h => by omega))
        go_wp2
        go_ret
        exact ⟨by rw [Hx.out]; rfl, gb_refl _ _⟩
      · by_cases c2 : (122 : Int) < ((s[pos]'hp).toNat : Int)
        · have Hx := Lib.hid (named_bad hp (fun h => by omega))
          go_wp2
          go_ret
          exact ⟨by rw [Hx.out]; rfl, gb_refl _ _⟩
        · go_wp2
          go_round
          case rel => exact ⟨pos + 1, by omega, by go_num, fun i hi h => by
              rcases Nat.lt_succ_iff_lt_or_eq.1 h with h | rfl
              · exact HA.out i hi h
              · omega⟩
          case measure => simp [intOf]; omega
    · have Hx := Lib.hid (named_all (s := s) fun i hi => HA.out i hi (by omega))
      go_wp2
      go_ret
      exact ⟨by rw [Hx.out, HI.out]; rfl, gb_refl _ _⟩

theorem bytes_same {a b : ByteArray} (h : a.data.toList = b.data.toList) : a = b := by
  cases a; cases b; simp only at h; congr 1; exact Array.ext' h
theorem ba_eq {a b : ByteArray} (h : a = b) : (a.toList == b.toList) = true := by
  subst h
  simp
theorem ba_ne {a b : ByteArray} (h : a ≠ b) : (a.toList == b.toList) = false := by
  rw [beq_eq_false_iff_ne]
  intro e
  rw [ByteArray.toList_eq, ByteArray.toList_eq] at e
  exact h (bytes_same e)
theorem hasName_yes {l : List Acc} {i k : Nat} {s : ByteArray} (hk : k < i) (hi : i < l.length) (h : (ga l k).name = s) : hasName (names l i) s = true := by
  unfold hasName names
  rw [decide_eq_true_iff]
  refine ⟨s, ?_, rfl⟩
  rw [← h, List.mem_map]
  exact ⟨ga l k, by rw [ga_get (by omega)]; exact List.mem_take_iff_getElem.2 ⟨k, by omega, rfl⟩, rfl⟩
theorem hasName_no {l : List Acc} {i : Nat} {s : ByteArray} (hi : i ≤ l.length) (h : ∀ k, k < i → (ga l k).name ≠ s) : hasName (names l i) s = false := by
  unfold hasName names
  rw [decide_eq_false_iff_not]
  rintro ⟨n, hn, e⟩
  rw [List.mem_map] at hn
  obtain ⟨a, ha, rfl⟩ := hn
  obtain ⟨k, hk, rfl⟩ := List.mem_take_iff_getElem.1 ha
  refine h k (by omega) ?_
  rw [ga_get (by omega)]
  exact bytes_same e

set_option maxHeartbeats 4000000 in
theorem rcheckAccounts_c (lo hi : Nat) (va : Value) (l : List Acc) (w : World) (ha : Accs lo hi w va l) (hn : nameOk l) :
    Calls Try.prog 88 #[va] w (Ret (.int .i64 (accsE l)) w) := by
  have hm1 := ha.len
  unfold maxLen at hm1
  by_cases c1 : l.length = 0
  · have Hx := Lib.hid (show accsE l = 6 by simp [accsE, c1])
    obtain ⟨a, c, rfl, _⟩ := ha.nil_ c1
    clear ha
    go_enter Try.func88, Try.ntmps88
    go_wp2_with fail
    go_ret
    exact ⟨by rw [Hx.out]; rfl, gb_refl _ _⟩
  by_cases c2 : 8 < l.length
  · have Hx := Lib.hid (show accsE l = 8 by simp [accsE, c1, c2])
    obtain ⟨a, c, rfl⟩ := ha.any
    clear ha
    have e1 : ((l.length : Int) == 0) = false := by rw [beq_eq_false_iff_ne]; omega
    go_enter Try.func88, Try.ntmps88
    go_wp2_with fail
    go_ret
    exact ⟨by rw [Hx.out]; rfl, gb_refl _ _⟩
  obtain ⟨x, ox, c, rfl, _, hxh, HA0⟩ := Accs.at ha (by omega)
  have HA := Lib.hid HA0
  clear HA0
  have HM := Lib.hid hn
  have e1 : ((l.length : Int) == 0) = false := by rw [beq_eq_false_iff_ne]; omega
  have HE := Lib.hid (show accsE l = accsErr l l.length 0 by simp [accsE, c1, c2])
  clear ha hn
  go_enter Try.func88, Try.ntmps88
  go_wp2_with fail
  go_loopw [3] (fun i wr => ∃ k : Nat, k ≤ l.length ∧ i = .int .i64 k ∧ accsE l = accsErr l (l.length - k) k ∧ w.grownBy wr none) (fun i _ => l.length - (intOf i).toNat)
  case atStart => exact ⟨0, Nat.zero_le _, rfl, HE.out, gb_refl _ _⟩
  case round =>
    clear HE e1 c1
    obtain ⟨k, hk, rfl, hrem, hg⟩ := hrel
    have HR := Lib.hid hrem
    clear hrem
    by_cases hlt : k < l.length
    · have g1 := (HA.out k hlt).gb hg (by simp)
      generalize hac : ga l k = ac at g1
      have HAC := Lib.hid hac
      clear hac
      obtain ⟨g1, g2, g3, g4, g5, g6⟩ := g1
      have hnl : ac.name.size ≤ maxLen := by rw [← HAC.out]; exact HM.out.at hlt
      have HST : Hid (accErr (names l k) ac = 0 → accsE l = accsErr l (l.length - (k + 1)) (k + 1)) := by
        refine Lib.hid (fun h => ?_)
        rw [HR.out, show l.length - k = (l.length - (k + 1)) + 1 by omega]
        exact accsErr_step (by rw [HAC.out]; exact h)
      have HSP : Hid (∀ z : Int, z ≠ 0 → accErr (names l k) ac = z → accsE l = z) := by
        refine Lib.hid (fun z hz h => ?_)
        rw [HR.out, show l.length - k = (l.length - (k + 1)) + 1 by omega]
        rw [accsErr_stop (by rw [HAC.out, h]; exact hz), HAC.out, h]
      clear HR
      go_wp2_with fail
      refine (rnamed_c _ hnl _).mono ?_
      rintro e w2 ⟨rfl, hg2⟩
      have hG := gb_trans hg hg2
      replace g1 := gbc hg2 (by simp) g1
      replace g2 := gbc hg2 (by simp) g2
      replace g3 := gbc hg2 (by simp) g3
      replace g4 := gbc hg2 (by simp) g4
      replace g5 := gbc hg2 (by simp) g5
      replace g6 := gbc hg2 (by simp) g6
      clear hg hg2
      cases hnm : namedB ac.name with
      | false =>
        have Hx := Lib.hid (HSP.out 3 (by omega) (by rw [accErr, if_neg (by rw [hnm]; simp)]))
        clear HST HSP
        go_wp2_with fail
        go_ret
        exact ⟨by rw [Hx.out]; rfl, hG⟩
      | true =>
        have HNM := Lib.hid hnm
        have HG := Lib.hid (And.intro g2 (And.intro g3 (And.intro g4 (And.intro g5 g6))))
        have HGG := Lib.hid hG
        clear hnm g2 g3 g4 g5 g6 hG
        go_wp2_with fail
        go_loopw [4] (fun i wr => ∃ j : Nat, j ≤ k ∧ i = .int .i64 j ∧ w2.grownBy wr none ∧ ∀ q, q < j → (ga l q).name ≠ ac.name) (fun i _ => k - (intOf i).toNat)
        case atStart => exact ⟨0, Nat.zero_le _, rfl, gb_refl _ _, fun q h => by omega⟩
        case round =>
          obtain ⟨j, hj, rfl, hgr, hall⟩ := hrel
          have HALL := Lib.hid hall
          clear hall
          by_cases hjk : j < k
          · have f1 := (((HA.out j (by omega)).gb HGG.out (by simp)).gb hgr (by simp)).1
            have f2 := gbc hgr (by simp) g1
            have f3 : j < l.length := by omega
            have HR2 := Lib.hid hgr
            clear g1 hgr
            obtain ⟨nj, hnj⟩ : ∃ nj, (ga l j).name = nj := ⟨_, rfl⟩
            rw [hnj] at f1
            have HNJ := Lib.hid hnj
            clear hnj
            by_cases he : nj = ac.name
            · have Hx := Lib.hid (HSP.out 9 (by omega) (by rw [accErr, if_pos HNM.out, if_pos (hasName_yes hjk hlt (HNJ.out.trans he))]))
              have e2 := ba_eq he
              clear HST HSP he
              go_wp2_with fail
              go_quiet (fail)
              go_wp2_with fail
              go_ret
              exact ⟨by rw [Hx.out]; rfl, gb_drewN (gb_trans HGG.out HR2.out) _⟩
            · have e2 := ba_ne he
              have HNE := Lib.hid he
              clear he
              go_wp2_with fail
              go_quiet (fail)
              go_wp2_with fail
              go_roundw
              case rel => exact ⟨j + 1, by omega, by go_num, gb_drewN HR2.out _, fun q hq => by
                rcases Nat.lt_succ_iff_lt_or_eq.1 hq with h | rfl
                · exact HALL.out q h
                · rw [HNJ.out]; exact HNE.out⟩
              case measure => simp [intOf]; omega
          · obtain rfl : j = k := by omega
            have hhn := hasName_no (by omega) HALL.out
            have E0 : accErr (names l j) ac = if inB ac.kind 1 2 = true then (if spE ac.op = 0 then spE ac.cl else spE ac.op) else 4 := by rw [accErr, if_pos HNM.out, if_neg (by rw [hhn]; simp)]
            have HE0 := Lib.hid E0
            have g2 := gbc hgr (by simp) HG.out.1
            have g3 := gbc hgr (by simp) HG.out.2.1
            have g4 := gbc hgr (by simp) HG.out.2.2.1
            have HG5 := Lib.hid (gbc hgr (by simp) HG.out.2.2.2.1)
            have HG6 := Lib.hid (gbc hgr (by simp) HG.out.2.2.2.2)
            have HR2 := Lib.hid (gb_trans HGG.out hgr)
            clear E0 hhn g1 hgr HALL
            by_cases hki : ac.kind = 1 ∨ ac.kind = 2
            · have hki' := inB_mk (n := ac.kind) (lo := 1) (hi := 2) (by omega) (by omega)
              have E1 : accErr (names l j) ac = if spE ac.op = 0 then spE ac.cl else spE ac.op := by rw [HE0.out, if_pos hki']
              have HE1 := Lib.hid E1
              clear E1 HE0 hki'
              have hk2 : ac.kind = 1 ∨ (ac.kind ≠ 1 ∧ ac.kind = 2) := by omega
              have HOP : Hid (spE ac.op = spanErr ac.op.lo ac.op.hi 0 1000000000) := Lib.hid rfl
              have HCL : Hid (spE ac.cl = spanErr ac.cl.lo ac.cl.hi 0 1000000000) := Lib.hid rfl
              obtain ⟨kd, hkd⟩ : ∃ kd, ac.kind = kd := ⟨_, rfl⟩
              rw [hkd] at hk2 g2
              clear hki hkd
              rcases hk2 with rfl | ⟨hk1, rfl⟩
              all_goals
                go_wp2_with fail
                refine (rcheckSpan_c _ _ _ _ _).mono ?_
                rintro e w3 ⟨rfl, hg3⟩
                have hG3 := gb_trans HR2.out hg3
                have g5 := gbc hg3 (by simp) HG5.out
                have g6 := gbc hg3 (by simp) HG6.out
                clear hg3 g2 g3 g4
                rw [← HOP.out]
                by_cases e3 : spE ac.op = 0
                case neg =>
                  have e4 : (spE ac.op != 0) = true := by simpa using e3
                  have Hx := Lib.hid (HSP.out (spE ac.op) e3 (by rw [HE1.out, if_neg e3]))
                  clear e3
                  go_wp2_with fail
                  go_ret
                  exact ⟨by rw [Hx.out]; rfl, hG3⟩
                case pos =>
                  have e4 : (spE ac.op != 0) = false := by simpa using e3
                  have HE3 := Lib.hid e3
                  clear e3
                  go_wp2_with fail
                  refine (rcheckSpan_c _ _ _ _ _).mono ?_
                  rintro e w4 ⟨rfl, hg4⟩
                  have hG4 := gb_trans hG3 hg4
                  clear hg4 g5 g6 hG3
                  rw [← HCL.out]
                  by_cases e5 : spE ac.cl = 0
                  case neg =>
                    have e6 : (spE ac.cl != 0) = true := by simpa using e5
                    have Hx := Lib.hid (HSP.out (spE ac.cl) e5 (by rw [HE1.out, if_pos HE3.out]))
                    clear e5
                    go_wp2_with fail
                    go_ret
                    exact ⟨by rw [Hx.out]; rfl, hG4⟩
                  case pos =>
                    have e6 : (spE ac.cl != 0) = false := by simpa using e5
                    have HS := Lib.hid (HST.out (by rw [HE1.out, if_pos HE3.out, e5]))
                    clear e5
                    go_wp2_with fail
                    go_roundw
                    case rel => exact ⟨j + 1, by omega, by go_num, HS.out, hG4⟩
                    case measure => simp [intOf]; omega
            · have hki' : inB ac.kind 1 2 = false := by unfold inB; rw [decide_eq_false_iff_not]; omega
              have Hx := Lib.hid (HSP.out 4 (by omega) (by rw [HE0.out, if_neg (by rw [hki']; simp)]))
              have k1 : (ac.kind != 1) = true := by rw [bne_iff_ne]; omega
              have k2 : (ac.kind != 2) = true := by rw [bne_iff_ne]; omega
              clear HST HSP HE0 hki' hki
              go_wp2_with fail
              go_ret
              exact ⟨by rw [Hx.out]; rfl, HR2.out⟩
    · obtain rfl : k = l.length := by omega
      have Hx := Lib.hid (show accsE l = 0 by rw [HR.out, Nat.sub_self]; rfl)
      clear HR
      go_wp2_with fail
      go_ret
      exact ⟨by rw [Hx.out]; rfl, hg⟩
end Go.Proofs.Ytfifldbinnkdmaa
