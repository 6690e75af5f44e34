/- The reference: the error of a book. -/
import Derived.Test.YtfifldbinnkdmaaRef5
import Derived.Test.YtfifldbinnkdmaaRef8
set_option linter.unusedVariables false
set_option linter.unusedSimpArgs false
set_option linter.unnecessarySimpa false
namespace Go.Proofs.Ytfifldbinnkdmaa
open Go.RowKit Go.Shelf
set_option maxRecDepth 100000

theorem checkE_form {b : Bok} {z : Int} (h : formedE b = z) (hz : z ≠ 0) : checkE b = z := by rw [checkE, if_neg (by rw [h]; exact hz), h]
theorem formE_acc {b : Bok} {z : Int} (h : accsE b.accs = z) (hz : z ≠ 0) : formedE b = z := by rw [formedE, if_neg (by rw [h]; exact hz), h]
theorem formE_mv {b : Bok} {z : Int} (h0 : accsE b.accs = 0) (h : mvsE b.accs.length b.mvs = z) : formedE b = z := by rw [formedE, if_pos h0, h]
theorem accs_ok {l : List Acc} (h : accsE l = 0) : (0 < l.length ∧ l.length ≤ 8) := by
  unfold accsE at h
  split at h
  · cases h
  · split at h
    · cases h
    · omega

set_option maxHeartbeats 4000000 in
theorem rCheck_c (lo hi : Nat) (va vm : Value) (b : Bok) (w : World) (hb : HasB lo hi w va vm b) (hn : nameOk b.accs) (h2 : hi ≤ w.heap.size) :
    Calls Try.prog 45 #[.agg #[va, vm]] w (Ret (.int .i64 (checkE b)) w) := by
  obtain ⟨a1, c, a', c', rfl, rfl⟩ := hb.vals
  have hm1 := hb.1.len
  have hm2 := hb.2.len
  unfold maxLen at hm1 hm2
  have HN := Lib.hid hn
  clear hn
  have F1 : Bun w [rbook lo hi (.slice a1 b.accs.length c) (.slice a' b.mvs.length c') b] _ := Bun.book hb h2
  clear hb
  go_enter Try.func45, Try.ntmps45
  have F2 : Bun w [rbox w.heap.size 25 #[.slice a1 b.accs.length c, .slice a' b.mvs.length c'], rbook lo hi (.slice a1 b.accs.length c) (.slice a' b.mvs.length c') b] _ := F1.new 25 #[.slice a1 b.accs.length c, .slice a' b.mvs.length c'] (n := w.heap.size) (by simp)
  clear F1
  have b3 : Bk _ w.heap.size 25 #[.slice a1 b.accs.length c, .slice a' b.mvs.length c'] := F2.at 0 rfl
  have l4 := b3.lt
  have q5 : World.cell? _ ⟨w.heap.size, 0, none⟩ = some (.slice a1 b.accs.length c) := b3.cell 0
  have z6 := b3.frozen 0
  have q7 : World.cell? _ ⟨w.heap.size, 1, none⟩ = some (.slice a' b.mvs.length c') := b3.cell 1
  have z8 := b3.frozen 1
  go_wp2_with fail
  refine (rcheckAccounts_c lo hi _ b.accs _ ((F2.at 1 rfl : HasB lo hi _ (.slice a1 b.accs.length c) (.slice a' b.mvs.length c') b)).1 HN.out).mono ?_
  rintro e w1 ⟨rfl, hg1⟩
  clear b3 l4 q5 z6 q7 z8
  have F9 : Bun w [rbox w.heap.size 25 #[.slice a1 b.accs.length c, .slice a' b.mvs.length c'], rbook lo hi (.slice a1 b.accs.length c) (.slice a' b.mvs.length c') b] w1 := F2.gn hg1
  clear F2
  clear hg1
  by_cases e0 : accsE b.accs = 0
  case neg =>
    have e1 : (accsE b.accs != 0) = true := by simpa using e0
    have Hx := Lib.hid (checkE_form (formE_acc rfl e0) e0)
    clear e0
    go_wp2_with fail
    go_ret
    exact ⟨by rw [Hx.out]; rfl, F9.gb⟩
  have e1 : (accsE b.accs != 0) = false := by simpa using e0
  have HE := Lib.hid e0
  have hal := accs_ok e0
  clear e0
  by_cases c2 : 30 < b.mvs.length
  · have Hx := Lib.hid (checkE_form (b := b) (z := 8) (formE_mv HE.out (by rw [mvsE, if_pos c2])) (by decide))
    have b10 : Bk _ w.heap.size 25 #[.slice a1 b.accs.length c, .slice a' b.mvs.length c'] := F9.at 0 rfl
    have l11 := b10.lt
    have q12 : World.cell? _ ⟨w.heap.size, 0, none⟩ = some (.slice a1 b.accs.length c) := b10.cell 0
    have z13 := b10.frozen 0
    have q14 : World.cell? _ ⟨w.heap.size, 1, none⟩ = some (.slice a' b.mvs.length c') := b10.cell 1
    have z15 := b10.frozen 1
    go_wp2_with fail
    go_ret
    exact ⟨by rw [Hx.out]; rfl, F9.gb⟩
  have HM := Lib.hid (show mvsE b.accs.length b.mvs = mvsErr b.accs.length b.mvs b.mvs.length 0 by rw [mvsE, if_neg c2])
  have b16 : Bk _ w.heap.size 25 #[.slice a1 b.accs.length c, .slice a' b.mvs.length c'] := F9.at 0 rfl
  have l17 := b16.lt
  have q18 : World.cell? _ ⟨w.heap.size, 0, none⟩ = some (.slice a1 b.accs.length c) := b16.cell 0
  have z19 := b16.frozen 0
  have q20 : World.cell? _ ⟨w.heap.size, 1, none⟩ = some (.slice a' b.mvs.length c') := b16.cell 1
  have z21 := b16.frozen 1
  go_wp2_with fail
  clear b16 l17 q18 z19 q20 z21
  clear e1
  refine wp_loopS 61 rfl (fun t ds wr => Hid (∃ (k : Nat), t 1 = .pointer (some ⟨w.heap.size, 0, none⟩) ∧ t 4 = .int .i64 k ∧ k ≤ b.mvs.length ∧ ds = [] ∧ mvsE b.accs.length b.mvs = mvsErr b.accs.length b.mvs (b.mvs.length - k) k ∧ w.heap.size < wr.heap.size ∧ Bun w [rbox w.heap.size 25 #[.slice a1 b.accs.length c, .slice a' b.mvs.length c'], rbook lo hi (.slice a1 b.accs.length c) (.slice a' b.mvs.length c') b] wr)) (fun t wr => b.mvs.length - (intOf (t 4)).toNat) ?atStart1 ?round1
  case round1 =>
    intro t ds wr hHid
    obtain ⟨k, e1, e4, hrel⟩ := hHid.out
    clear hHid
    have e : ((List.range 61).map t).toArray = #[t 0, t 1, t 2, t 3, t 4, t 5, t 6, t 7, t 8, t 9, t 10, t 11, t 12, t 13, t 14, t 15, t 16, t 17, t 18, t 19, t 20, t 21, t 22, t 23, t 24, t 25, t 26, t 27, t 28, t 29, t 30, t 31, t 32, t 33, t 34, t 35, t 36, t 37, t 38, t 39, t 40, t 41, t 42, t 43, t 44, t 45, t 46, t 47, t 48, t 49, t 50, t 51, t 52, t 53, t 54, t 55, t 56, t 57, t 58, t 59, t 60] := rfl
    (try dsimp only at e)
    rw [e1, e4] at e
    rw [e]
    simp only [e4]
    clear e e1 e4
    clear F9
    obtain ⟨hk, rfl, hrem, hws, hF⟩ := hrel
    have HR := Lib.hid hrem
    clear hrem
    by_cases hlt : k < b.mvs.length
    · skip
      obtain ⟨y, oy, rfl, -⟩ := HasB.valM (hF.at 1 rfl : HasB lo hi _ (.slice a1 b.accs.length c) (.slice a' b.mvs.length c') b) (by omega)
      have HST : Hid (mvErr b.accs.length (gm b.mvs k) = 0 → mvsE b.accs.length b.mvs = mvsErr b.accs.length b.mvs (b.mvs.length - (k + 1)) (k + 1)) := by
        refine Lib.hid (fun h => ?_)
        rw [HR.out, show b.mvs.length - k = (b.mvs.length - (k + 1)) + 1 by omega]
        exact mvsErr_step h
      have HSP : Hid (∀ z : Int, z ≠ 0 → mvErr b.accs.length (gm b.mvs k) = z → checkE b = z) := by
        refine Lib.hid (fun z hz h => checkE_form (formE_mv HE.out ?_) hz)
        rw [HR.out, show b.mvs.length - k = (b.mvs.length - (k + 1)) + 1 by omega]
        rw [mvsErr_stop (by rw [h]; exact hz), h]
      clear HR
      obtain ⟨g1, g2, g3, g4⟩ := HasB.mov (hF.at 1 rfl : HasB lo hi _ (.slice a1 b.accs.length c) (.slice (some ⟨y, oy, none⟩) b.mvs.length c') b) hlt
      generalize gm b.mvs k = m at *
      have b22 : Bk _ w.heap.size 25 #[.slice a1 b.accs.length c, .slice (some ⟨y, oy, none⟩) b.mvs.length c'] := hF.at 0 rfl
      have l23 := b22.lt
      have q24 : World.cell? _ ⟨w.heap.size, 0, none⟩ = some (.slice a1 b.accs.length c) := b22.cell 0
      have z25 := b22.frozen 0
      have q26 : World.cell? _ ⟨w.heap.size, 1, none⟩ = some (.slice (some ⟨y, oy, none⟩) b.mvs.length c') := b22.cell 1
      have z27 := b22.frozen 1
      go_wp2_with fail
      clear b22 l23 q24 z25 q26 z27
      have F28 : Bun w [rbox wr.heap.size 76 #[.int .i64 m.fr, .int .i64 m.to, .int .i64 m.li.lo, .int .i64 m.li.hi], rbox w.heap.size 25 #[.slice a1 b.accs.length c, .slice (some ⟨y, oy, none⟩) b.mvs.length c'], rbook lo hi (.slice a1 b.accs.length c) (.slice (some ⟨y, oy, none⟩) b.mvs.length c') b] _ := hF.new 76 #[.int .i64 m.fr, .int .i64 m.to, .int .i64 m.li.lo, .int .i64 m.li.hi] (n := wr.heap.size) (by simp)
      clear hF
      clear g1 g2 g3 g4
      refine (within_c _ _ _ _).mono ?_
      rintro e w2 ⟨rfl, rfl⟩
      cases i1 : inB m.fr 0 ((b.accs.length : Int) - 1)
      · skip
        have Hx := Lib.hid (HSP.out 7 (by decide) (by rw [mvErr, if_neg (by rw [i1]; simp)]))
        have b29 : Bk _ w.heap.size 25 #[.slice a1 b.accs.length c, .slice (some ⟨y, oy, none⟩) b.mvs.length c'] := F28.at 1 rfl
        have l30 := b29.lt
        have q31 : World.cell? _ ⟨w.heap.size, 0, none⟩ = some (.slice a1 b.accs.length c) := b29.cell 0
        have z32 := b29.frozen 0
        have q33 : World.cell? _ ⟨w.heap.size, 1, none⟩ = some (.slice (some ⟨y, oy, none⟩) b.mvs.length c') := b29.cell 1
        have z34 := b29.frozen 1
        have b35 : Bk _ wr.heap.size 76 #[.int .i64 m.fr, .int .i64 m.to, .int .i64 m.li.lo, .int .i64 m.li.hi] := F28.at 0 rfl
        have l36 := b35.lt
        have q37 : World.cell? _ ⟨wr.heap.size, 0, none⟩ = some (.int .i64 m.fr) := b35.cell 0
        have z38 := b35.frozen 0
        have q39 : World.cell? _ ⟨wr.heap.size, 1, none⟩ = some (.int .i64 m.to) := b35.cell 1
        have z40 := b35.frozen 1
        have q41 : World.cell? _ ⟨wr.heap.size, 2, none⟩ = some (.int .i64 m.li.lo) := b35.cell 2
        have z42 := b35.frozen 2
        have q43 : World.cell? _ ⟨wr.heap.size, 3, none⟩ = some (.int .i64 m.li.hi) := b35.cell 3
        have z44 := b35.frozen 3
        go_wp2_with fail
        go_ret
        exact ⟨by rw [Hx.out]; rfl, F28.gb⟩
      · skip
        have b45 : Bk _ w.heap.size 25 #[.slice a1 b.accs.length c, .slice (some ⟨y, oy, none⟩) b.mvs.length c'] := F28.at 1 rfl
        have l46 := b45.lt
        have q47 : World.cell? _ ⟨w.heap.size, 0, none⟩ = some (.slice a1 b.accs.length c) := b45.cell 0
        have z48 := b45.frozen 0
        have q49 : World.cell? _ ⟨w.heap.size, 1, none⟩ = some (.slice (some ⟨y, oy, none⟩) b.mvs.length c') := b45.cell 1
        have z50 := b45.frozen 1
        have b51 : Bk _ wr.heap.size 76 #[.int .i64 m.fr, .int .i64 m.to, .int .i64 m.li.lo, .int .i64 m.li.hi] := F28.at 0 rfl
        have l52 := b51.lt
        have q53 : World.cell? _ ⟨wr.heap.size, 0, none⟩ = some (.int .i64 m.fr) := b51.cell 0
        have z54 := b51.frozen 0
        have q55 : World.cell? _ ⟨wr.heap.size, 1, none⟩ = some (.int .i64 m.to) := b51.cell 1
        have z56 := b51.frozen 1
        have q57 : World.cell? _ ⟨wr.heap.size, 2, none⟩ = some (.int .i64 m.li.lo) := b51.cell 2
        have z58 := b51.frozen 2
        have q59 : World.cell? _ ⟨wr.heap.size, 3, none⟩ = some (.int .i64 m.li.hi) := b51.cell 3
        have z60 := b51.frozen 3
        go_wp2_with fail
        refine (within_c _ _ _ _).mono ?_
        rintro e w2 ⟨rfl, rfl⟩
        clear b45 l46 q47 z48 q49 z50 b51 l52 q53 z54 q55 z56 q57 z58 q59 z60
        cases i2 : inB m.to 0 ((b.accs.length : Int) - 1)
        · skip
          have Hx := Lib.hid (HSP.out 7 (by decide) (by rw [mvErr, if_neg (by rw [i1, i2]; simp)]))
          have b61 : Bk _ w.heap.size 25 #[.slice a1 b.accs.length c, .slice (some ⟨y, oy, none⟩) b.mvs.length c'] := F28.at 1 rfl
          have l62 := b61.lt
          have q63 : World.cell? _ ⟨w.heap.size, 0, none⟩ = some (.slice a1 b.accs.length c) := b61.cell 0
          have z64 := b61.frozen 0
          have q65 : World.cell? _ ⟨w.heap.size, 1, none⟩ = some (.slice (some ⟨y, oy, none⟩) b.mvs.length c') := b61.cell 1
          have z66 := b61.frozen 1
          have b67 : Bk _ wr.heap.size 76 #[.int .i64 m.fr, .int .i64 m.to, .int .i64 m.li.lo, .int .i64 m.li.hi] := F28.at 0 rfl
          have l68 := b67.lt
          have q69 : World.cell? _ ⟨wr.heap.size, 0, none⟩ = some (.int .i64 m.fr) := b67.cell 0
          have z70 := b67.frozen 0
          have q71 : World.cell? _ ⟨wr.heap.size, 1, none⟩ = some (.int .i64 m.to) := b67.cell 1
          have z72 := b67.frozen 1
          have q73 : World.cell? _ ⟨wr.heap.size, 2, none⟩ = some (.int .i64 m.li.lo) := b67.cell 2
          have z74 := b67.frozen 2
          have q75 : World.cell? _ ⟨wr.heap.size, 3, none⟩ = some (.int .i64 m.li.hi) := b67.cell 3
          have z76 := b67.frozen 3
          go_wp2_with fail
          go_ret
          exact ⟨by rw [Hx.out]; rfl, F28.gb⟩
        · skip
          by_cases hft : m.fr = m.to
          · have e3 : (m.fr == m.to) = true := by simp [hft]
            have Hx := Lib.hid (HSP.out 3 (by decide) (by rw [mvErr, if_pos (by rw [i1, i2]; rfl), if_pos hft]))
            clear hft
            have b77 : Bk _ w.heap.size 25 #[.slice a1 b.accs.length c, .slice (some ⟨y, oy, none⟩) b.mvs.length c'] := F28.at 1 rfl
            have l78 := b77.lt
            have q79 : World.cell? _ ⟨w.heap.size, 0, none⟩ = some (.slice a1 b.accs.length c) := b77.cell 0
            have z80 := b77.frozen 0
            have q81 : World.cell? _ ⟨w.heap.size, 1, none⟩ = some (.slice (some ⟨y, oy, none⟩) b.mvs.length c') := b77.cell 1
            have z82 := b77.frozen 1
            have b83 : Bk _ wr.heap.size 76 #[.int .i64 m.fr, .int .i64 m.to, .int .i64 m.li.lo, .int .i64 m.li.hi] := F28.at 0 rfl
            have l84 := b83.lt
            have q85 : World.cell? _ ⟨wr.heap.size, 0, none⟩ = some (.int .i64 m.fr) := b83.cell 0
            have z86 := b83.frozen 0
            have q87 : World.cell? _ ⟨wr.heap.size, 1, none⟩ = some (.int .i64 m.to) := b83.cell 1
            have z88 := b83.frozen 1
            have q89 : World.cell? _ ⟨wr.heap.size, 2, none⟩ = some (.int .i64 m.li.lo) := b83.cell 2
            have z90 := b83.frozen 2
            have q91 : World.cell? _ ⟨wr.heap.size, 3, none⟩ = some (.int .i64 m.li.hi) := b83.cell 3
            have z92 := b83.frozen 3
            go_wp2_with fail
            go_ret
            exact ⟨by rw [Hx.out]; rfl, F28.gb⟩
          have e3 : (m.fr == m.to) = false := by simp [hft]
          have HV := Lib.hid (show mvErr b.accs.length m = spE m.li by rw [mvErr, if_pos (by rw [i1, i2]; rfl), if_neg hft])
          have HSE : Hid (spE m.li = spanErr m.li.lo m.li.hi 0 1000000000) := Lib.hid rfl
          clear i1 i2 hft
          have b93 : Bk _ w.heap.size 25 #[.slice a1 b.accs.length c, .slice (some ⟨y, oy, none⟩) b.mvs.length c'] := F28.at 1 rfl
          have l94 := b93.lt
          have q95 : World.cell? _ ⟨w.heap.size, 0, none⟩ = some (.slice a1 b.accs.length c) := b93.cell 0
          have z96 := b93.frozen 0
          have q97 : World.cell? _ ⟨w.heap.size, 1, none⟩ = some (.slice (some ⟨y, oy, none⟩) b.mvs.length c') := b93.cell 1
          have z98 := b93.frozen 1
          have b99 : Bk _ wr.heap.size 76 #[.int .i64 m.fr, .int .i64 m.to, .int .i64 m.li.lo, .int .i64 m.li.hi] := F28.at 0 rfl
          have l100 := b99.lt
          have q101 : World.cell? _ ⟨wr.heap.size, 0, none⟩ = some (.int .i64 m.fr) := b99.cell 0
          have z102 := b99.frozen 0
          have q103 : World.cell? _ ⟨wr.heap.size, 1, none⟩ = some (.int .i64 m.to) := b99.cell 1
          have z104 := b99.frozen 1
          have q105 : World.cell? _ ⟨wr.heap.size, 2, none⟩ = some (.int .i64 m.li.lo) := b99.cell 2
          have z106 := b99.frozen 2
          have q107 : World.cell? _ ⟨wr.heap.size, 3, none⟩ = some (.int .i64 m.li.hi) := b99.cell 3
          have z108 := b99.frozen 3
          go_wp2_with fail
          refine (rcheckSpan_c _ _ _ _ _).mono ?_
          rintro e w3 ⟨rfl, hg3⟩
          clear b93 l94 q95 z96 q97 z98 b99 l100 q101 z102 q103 z104 q105 z106 q107 z108
          have F109 : Bun w [rbox wr.heap.size 76 #[.int .i64 m.fr, .int .i64 m.to, .int .i64 m.li.lo, .int .i64 m.li.hi], rbox w.heap.size 25 #[.slice a1 b.accs.length c, .slice (some ⟨y, oy, none⟩) b.mvs.length c'], rbook lo hi (.slice a1 b.accs.length c) (.slice (some ⟨y, oy, none⟩) b.mvs.length c') b] w3 := F28.gn hg3
          clear F28
          have hg3s := hg3.size
          (try simp at hg3s)
          clear hg3
          rw [← HSE.out]
          by_cases hz : spE m.li = 0
          case neg =>
            have e4 : (spE m.li != 0) = true := by simpa using hz
            have Hx := Lib.hid (HSP.out (spE m.li) hz (HV.out))
            have b110 : Bk _ w.heap.size 25 #[.slice a1 b.accs.length c, .slice (some ⟨y, oy, none⟩) b.mvs.length c'] := F109.at 1 rfl
            have l111 := b110.lt
            have q112 : World.cell? _ ⟨w.heap.size, 0, none⟩ = some (.slice a1 b.accs.length c) := b110.cell 0
            have z113 := b110.frozen 0
            have q114 : World.cell? _ ⟨w.heap.size, 1, none⟩ = some (.slice (some ⟨y, oy, none⟩) b.mvs.length c') := b110.cell 1
            have z115 := b110.frozen 1
            have b116 : Bk _ wr.heap.size 76 #[.int .i64 m.fr, .int .i64 m.to, .int .i64 m.li.lo, .int .i64 m.li.hi] := F109.at 0 rfl
            have l117 := b116.lt
            have q118 : World.cell? _ ⟨wr.heap.size, 0, none⟩ = some (.int .i64 m.fr) := b116.cell 0
            have z119 := b116.frozen 0
            have q120 : World.cell? _ ⟨wr.heap.size, 1, none⟩ = some (.int .i64 m.to) := b116.cell 1
            have z121 := b116.frozen 1
            have q122 : World.cell? _ ⟨wr.heap.size, 2, none⟩ = some (.int .i64 m.li.lo) := b116.cell 2
            have z123 := b116.frozen 2
            have q124 : World.cell? _ ⟨wr.heap.size, 3, none⟩ = some (.int .i64 m.li.hi) := b116.cell 3
            have z125 := b116.frozen 3
            go_wp2_with fail
            go_ret
            exact ⟨by rw [Hx.out]; rfl, F109.gb⟩
          have e4 : (spE m.li != 0) = false := by simpa using hz
          have HS := Lib.hid (HST.out (HV.out.trans hz))
          clear hz
          have F126 : Bun w [rbox w.heap.size 25 #[.slice a1 b.accs.length c, .slice (some ⟨y, oy, none⟩) b.mvs.length c'], rbook lo hi (.slice a1 b.accs.length c) (.slice (some ⟨y, oy, none⟩) b.mvs.length c') b] _ := F109.drop 0 rfl
          clear F109
          have b127 : Bk _ w.heap.size 25 #[.slice a1 b.accs.length c, .slice (some ⟨y, oy, none⟩) b.mvs.length c'] := F126.at 0 rfl
          have l128 := b127.lt
          have q129 : World.cell? _ ⟨w.heap.size, 0, none⟩ = some (.slice a1 b.accs.length c) := b127.cell 0
          have z130 := b127.frozen 0
          have q131 : World.cell? _ ⟨w.heap.size, 1, none⟩ = some (.slice (some ⟨y, oy, none⟩) b.mvs.length c') := b127.cell 1
          have z132 := b127.frozen 1
          go_wp2_with fail
          exact ⟨rfl, Lib.hid ⟨k + 1, rfl, (by show Value.int .i64 ((k : Int) + 1) = _; simp), by omega, (by simp), HS.out, by omega, F126⟩, by simp [slot, intOf]; omega⟩
    · obtain rfl : k = b.mvs.length := by omega
      have hfo : formedE b = 0 := formE_mv HE.out (by rw [HR.out, Nat.sub_self]; rfl)
      have HOK := Lib.hid (formed_bok hfo)
      have HFO := Lib.hid hfo
      clear hfo HR
      have b133 : Bk _ w.heap.size 25 #[.slice a1 b.accs.length c, .slice a' b.mvs.length c'] := hF.at 0 rfl
      have l134 := b133.lt
      have q135 : World.cell? _ ⟨w.heap.size, 0, none⟩ = some (.slice a1 b.accs.length c) := b133.cell 0
      have z136 := b133.frozen 0
      have q137 : World.cell? _ ⟨w.heap.size, 1, none⟩ = some (.slice a' b.mvs.length c') := b133.cell 1
      have z138 := b133.frozen 1
      go_wp2_with fail
      refine (rpossible_c lo hi _ _ b _ (hF.at 1 rfl : HasB lo hi _ (.slice a1 b.accs.length c) (.slice a' b.mvs.length c') b) HOK.out (Nat.le_trans h2 hF.gb.size)).mono ?_
      rintro e w4 ⟨r, rfl, hr, hg4⟩
      clear b133 l134 q135 z136 q137 z138
      have F139 : Bun w [rbox w.heap.size 25 #[.slice a1 b.accs.length c, .slice a' b.mvs.length c'], rbook lo hi (.slice a1 b.accs.length c) (.slice a' b.mvs.length c') b] w4 := hF.gn hg4
      clear hF
      cases r
      · have Hx := Lib.hid (show checkE b = 12 by rw [checkE, if_pos HFO.out, if_neg (fun h => by have := hr.2 h; cases this)])
        clear hr hg4
        go_wp2_with fail
        go_ret
        exact ⟨by rw [Hx.out]; rfl, F139.gb⟩
      · have Hx := Lib.hid (show checkE b = 0 by rw [checkE, if_pos HFO.out, if_pos (hr.1 rfl)])
        clear hr hg4
        go_wp2_with fail
        go_ret
        exact ⟨by rw [Hx.out]; rfl, F139.gb⟩
  case atStart1 =>
    exact Lib.hid ⟨0, rfl, rfl, Nat.zero_le _, rfl, HM.out, by have := F9.gb.size; have := ((F9.at 0 rfl : Bk _ w.heap.size 25 _)).lt; omega, F9⟩
end Go.Proofs.Ytfifldbinnkdmaa
