/- build and its reference: an hour on the site. -/
import Derived.Test.YtokelpmngahnoaaZS2
set_option linter.unusedVariables false
set_option linter.unusedSimpArgs false
set_option linter.unnecessarySimpa false
namespace Go.Proofs.Ytokelpmngahnoaa
open Go.RowKit
set_option maxRecDepth 100000
attribute [local go_sem] Oper.semAt_some
theorem Own.opnN {α : Type} {enc : α → List Value} {e : TypeId} {sz base n : Nat} {w : World} {v : Value} {l : List α} (h : Own enc e sz base w v l) (hn : l.length = n) (h0 : 0 < n) : ∃ g cap, v = .slice (some ⟨g, 0, none⟩) n cap := by
  subst hn
  exact Own.opn h h0
section
variable {c : Cs} {N h i : Nat}
theorem sB_a (h1 : c.sB N h i = true) : c.bgI N i < (h : Int) := of_decide_eq_true h1
theorem sB_b (h1 : c.sB N h i = false) : ¬ c.bgI N i < (h : Int) := of_decide_eq_false h1
theorem sD_a (h1 : c.sD N h i = true) : c.enI N i < (h : Int) := of_decide_eq_true h1
theorem sD_b (h1 : c.sD N h i = false) : ¬ c.enI N i < (h : Int) := of_decide_eq_false h1
theorem sB_1 (h1 : c.bgI N i ≤ (h : Int)) : c.sB N (h + 1) i = true := decide_eq_true (by omega)
theorem sB_0 (h1 : ¬ c.bgI N i ≤ (h : Int)) : c.sB N (h + 1) i = false := decide_eq_false (by omega)
theorem sD_1 (h1 : c.enI N i ≤ (h : Int)) : c.sD N (h + 1) i = true := decide_eq_true (by omega)
theorem sB_k (h1 : c.bgI N i < (h : Int) ∨ ¬ c.bgI N i ≤ (h : Int)) : c.sB N h i = c.sB N (h + 1) i := by unfold Cs.sB; rw [decide_eq_decide]; omega
theorem sb_k (h1 : c.bgI N i < (h : Int) ∨ ¬ c.bgI N i ≤ (h : Int)) : c.sb N h i = c.sb N (h + 1) i := by unfold Cs.sb; split <;> split <;> omega
theorem sb_s (h1 : ¬ c.bgI N i < (h : Int)) (h2 : c.bgI N i ≤ (h : Int)) : (h : Int) = c.sb N (h + 1) i := by unfold Cs.sb; rw [if_pos (by omega)]; omega
theorem sD_k (h1 : c.enI N i < (h : Int) ∨ ¬ c.enI N i ≤ (h : Int)) : c.sD N h i = c.sD N (h + 1) i := by unfold Cs.sD; rw [decide_eq_decide]; omega
theorem se_k (h1 : c.enI N i < (h : Int) ∨ ¬ c.enI N i ≤ (h : Int)) : c.se N h i = c.se N (h + 1) i := by unfold Cs.se; split <;> split <;> omega
theorem se_s (h1 : ¬ c.enI N i < (h : Int)) (h2 : c.enI N i ≤ (h : Int)) : (h : Int) = c.se N (h + 1) i := by unfold Cs.se; rw [if_pos (by omega)]; omega
theorem wh_of {m : Int} {z : Bool} {rl : List Bool} (hl : rl.length = c.nd) (hr : ∀ d, d < c.nd → rl.getD d false = c.wk m d) (hh : h < 24 * c.nd) (hz : rl[h / 24]? = some z) : c.wh m h = (z && decide (((h % 24 : Nat) : Int) < c.sh m)) := by
  unfold Cs.wh
  rw [← hr (h / 24) (by omega), List.getD_eq_getElem?_getD, hz]
  rfl
end

set_option maxHeartbeats 32000000 in
theorem goOn_c (w0 : World) (b0 : Nat) (lo hi : Nat) (ms : List Mch) (ts : List Tsk) (lo3 hi3 : Nat) (lh lw lf : List Int) (rows : List (Value × List Bool)) (c : Cs) (g gc gj h : Nat) (aM aT ah aw af ak : Option Addr) (cM cT cah caw caf cak : Nat) (vl vb ve vB vD : Value) (w : World) (hB : Bun w0 [rbox g 58 #[.slice aM ms.length cM, .slice aT ts.length cT, .slice ah lh.length cah, .slice aw lw.length caw, .slice af lf.length caf, .slice ak rows.length cak, vl, vb, ve, vB, vD], rown intEnc 3 1 b0 vl (rowF (c.sl ts.length h) ts.length), rown intEnc 3 1 b0 vb (rowF (c.sb ts.length h) ts.length), rown intEnc 3 1 b0 ve (rowF (c.se ts.length h) ts.length), rown boEnc 4 1 b0 vB (rowF (c.sB ts.length h) ts.length), rown boEnc 4 1 b0 vD (rowF (c.sD ts.length h) ts.length), rbox gc 51 #[.slice ah lh.length cah, .slice aw lw.length caw, .slice af lf.length caf, .slice ak rows.length cak], rbox gj 25 #[.slice aM ms.length cM, .slice aT ts.length cT], rrwsl lo3 hi3 rows, rsl vEncS 1 lo3 hi3 (.slice ak rows.length cak) (rows.map (·.1)), rsl intEnc 1 lo3 hi3 (.slice af lf.length caf) lf, rsl intEnc 1 lo3 hi3 (.slice aw lw.length caw) lw, rsl intEnc 1 lo3 hi3 (.slice ah lh.length cah) lh, rafs lo hi ts, rsl tskEnc 8 lo hi (.slice aT ts.length cT) ts, rsl mchEnc 3 lo hi (.slice aM ms.length cM) ms] w) (h2_ : hi ≤ w0.heap.size) (h4_ : hi3 ≤ w0.heap.size) (hh : h ≤ 24 * c.nd) (hcs : CsIs c ms ts lh lw lf (rows.map (·.2))) (hrs : ∀ r ∈ rows, sliceB r.1 = true) (hco : CsOk c) (hnts : ts.length ≤ 1000) (hnms : ms.length ≤ 1000) (htm : ∀ (k : Nat) (t : Tsk), ts[k]? = some t → 0 ≤ t.m ∧ t.m < (ms.length : Int)) (hta : ∀ (k : Nat) (t : Tsk), ts[k]? = some t → ∀ a ∈ t.af, 0 ≤ a ∧ a < (k : Int)) :
    Calls Try.prog 68 #[.pointer (some ⟨g, 0, none⟩), .int .i64 (h : Int), .int .i64 (c.nd : Int)] w (fun e w' => e = .returned (.tuple #[]) ∧ Bun w0 [rbox g 58 #[.slice aM ms.length cM, .slice aT ts.length cT, .slice ah lh.length cah, .slice aw lw.length caw, .slice af lf.length caf, .slice ak rows.length cak, vl, vb, ve, vB, vD], rown intEnc 3 1 b0 vl (rowF (c.sl ts.length (h + 1)) ts.length), rown intEnc 3 1 b0 vb (rowF (c.sb ts.length (h + 1)) ts.length), rown intEnc 3 1 b0 ve (rowF (c.se ts.length (h + 1)) ts.length), rown boEnc 4 1 b0 vB (rowF (c.sB ts.length (h + 1)) ts.length), rown boEnc 4 1 b0 vD (rowF (c.sD ts.length (h + 1)) ts.length), rbox gc 51 #[.slice ah lh.length cah, .slice aw lw.length caw, .slice af lf.length caf, .slice ak rows.length cak], rbox gj 25 #[.slice aM ms.length cM, .slice aT ts.length cT], rrwsl lo3 hi3 rows, rsl vEncS 1 lo3 hi3 (.slice ak rows.length cak) (rows.map (·.1)), rsl intEnc 1 lo3 hi3 (.slice af lf.length caf) lf, rsl intEnc 1 lo3 hi3 (.slice aw lw.length caw) lw, rsl intEnc 1 lo3 hi3 (.slice ah lh.length cah) lh, rafs lo hi ts, rsl tskEnc 8 lo hi (.slice aT ts.length cT) ts, rsl mchEnc 3 lo hi (.slice aM ms.length cM) ms] w') := by
  have HCS := Lib.hid hcs
  have HCO := Lib.hid hco
  have HFR := Lib.hid (fun i => (HCO.out.fr i).1)
  have hnd4 := hco.nd
  have HTM := Lib.hid htm
  have HAF := Lib.hid hta
  have HRS := Lib.hid hrs
  have HSO : Hid (SiteOk c ts.length) := Lib.hid (SiteOk.of hco (fun i hi a ha => by rw [hcs.af] at ha; exact hta i _ (tk_at hi) a ha))
  have hlh : lh.length = ts.length := by rw [HCS.out.ho]; simp
  have hlw : lw.length = ts.length := by rw [HCS.out.wa]; simp
  have hlf : lf.length = ts.length := by rw [HCS.out.fr]; simp
  have hlk : rows.length = ms.length := by have h_ := HCS.out.rn; simpa using h_
  have HL := Lib.hid (And.intro hlh (And.intro hlw (And.intro hlf hlk)))
  clear hcs hco htm hta hrs hlh hlw hlf hlk
  have hm_ts := (hB.at 14 rfl : Sl tskEnc 8 lo hi _ (.slice aT ts.length cT) ts).len
  unfold maxLen at hm_ts
  go_enter Try.func68, Try.ntmps68
  go_wp2_with fail
  rw [rowF_mix (c.sb ts.length h) (c.sb ts.length (h + 1)), rowF_mix (c.se ts.length h) (c.se ts.length (h + 1)), rowF_mix (c.sB ts.length h) (c.sB ts.length (h + 1)), rowF_mix (c.sD ts.length h) (c.sD ts.length (h + 1))] at hB
  (skip)
  obtain ⟨HI1_, HI10⟩ : ∃ I : (Nat → Value) → List Deferred → World → Prop, I = (fun t ds wr => ∃ (i : Nat), t 0 = .pointer (some ⟨g, 0, none⟩) ∧ t 1 = .int .i64 (h : Int) ∧ t 2 = .int .i64 (c.nd : Int) ∧ t 6 = .int .i64 (i : Int) ∧ i ≤ ts.length ∧ ds = [] ∧ Bun w0 [rbox g 58 #[.slice aM ms.length cM, .slice aT ts.length cT, .slice ah lh.length cah, .slice aw lw.length caw, .slice af lf.length caf, .slice ak rows.length cak, vl, vb, ve, vB, vD], rown intEnc 3 1 b0 vl (rowF (c.sl ts.length h) ts.length), rown intEnc 3 1 b0 vb (mixF (c.sb ts.length h) (c.sb ts.length (h + 1)) ts.length i), rown intEnc 3 1 b0 ve (mixF (c.se ts.length h) (c.se ts.length (h + 1)) ts.length i), rown boEnc 4 1 b0 vB (mixF (c.sB ts.length h) (c.sB ts.length (h + 1)) ts.length i), rown boEnc 4 1 b0 vD (mixF (c.sD ts.length h) (c.sD ts.length (h + 1)) ts.length i), rbox gc 51 #[.slice ah lh.length cah, .slice aw lw.length caw, .slice af lf.length caf, .slice ak rows.length cak], rbox gj 25 #[.slice aM ms.length cM, .slice aT ts.length cT], rrwsl lo3 hi3 rows, rsl vEncS 1 lo3 hi3 (.slice ak rows.length cak) (rows.map (·.1)), rsl intEnc 1 lo3 hi3 (.slice af lf.length caf) lf, rsl intEnc 1 lo3 hi3 (.slice aw lw.length caw) lw, rsl intEnc 1 lo3 hi3 (.slice ah lh.length cah) lh, rafs lo hi ts, rsl tskEnc 8 lo hi (.slice aT ts.length cT) ts, rsl mchEnc 3 lo hi (.slice aM ms.length cM) ms] wr) := ⟨_, rfl⟩
  have HI1 := Lib.hid HI10
  clear HI10
  refine wp_loopS 165 rfl HI1_ (fun t wr => ts.length - (intOf (t 6)).toNat) ?atStart1 ?round1
  case round1 =>
    intro t ds wr hHid
    rw [HI1.out] at hHid
    obtain ⟨i, e0, e1, e2, e6, hrel⟩ := hHid
    have e : ((List.range 165).map t).toArray = #[t 0, t 1, t 2, t 3, t 4, t 5, t 6, t 7, t 8, t 9, t 10, t 11, t 12, t 13, t 14, t 15, t 16, t 17, t 18, t 19, t 20, t 21, t 22, t 23, t 24, t 25, t 26, t 27, t 28, t 29, t 30, t 31, t 32, t 33, t 34, t 35, t 36, t 37, t 38, t 39, t 40, t 41, t 42, t 43, t 44, t 45, t 46, t 47, t 48, t 49, t 50, t 51, t 52, t 53, t 54, t 55, t 56, t 57, t 58, t 59, t 60, t 61, t 62, t 63, t 64, t 65, t 66, t 67, t 68, t 69, t 70, t 71, t 72, t 73, t 74, t 75, t 76, t 77, t 78, t 79, t 80, t 81, t 82, t 83, t 84, t 85, t 86, t 87, t 88, t 89, t 90, t 91, t 92, t 93, t 94, t 95, t 96, t 97, t 98, t 99, t 100, t 101, t 102, t 103, t 104, t 105, t 106, t 107, t 108, t 109, t 110, t 111, t 112, t 113, t 114, t 115, t 116, t 117, t 118, t 119, t 120, t 121, t 122, t 123, t 124, t 125, t 126, t 127, t 128, t 129, t 130, t 131, t 132, t 133, t 134, t 135, t 136, t 137, t 138, t 139, t 140, t 141, t 142, t 143, t 144, t 145, t 146, t 147, t 148, t 149, t 150, t 151, t 152, t 153, t 154, t 155, t 156, t 157, t 158, t 159, t 160, t 161, t 162, t 163, t 164] := rfl
    (try dsimp only at e)
    rw [e0, e1, e2, e6] at e
    rw [e]
    simp only [e6]
    clear e e0 e1 e2 e6
    obtain ⟨hi_, rfl, hF2⟩ := hrel
    clear hB
    obtain ⟨w4, rfl⟩ : ∃ x_ : World, x_ = wr := ⟨_, rfl⟩
    by_cases c5 : (i : Int) < (ts.length : Int)
    · skip
      have c5H := Lib.hid c5
      obtain ⟨gR6, cR7, e_⟩ := Own.opnN (hF2.at 1 rfl : Own intEnc 3 1 b0 _ vl (rowF (c.sl ts.length h) ts.length)) (n := ts.length) (by simp [mixF, rowF]) (by omega)
      subst e_
      have gR6l := (hF2.ltAt 1 rfl _ rfl).1
      obtain ⟨gR8, cR9, e_⟩ := Own.opnN (hF2.at 2 rfl : Own intEnc 3 1 b0 _ vb (mixF (c.sb ts.length h) (c.sb ts.length (h + 1)) ts.length i)) (n := ts.length) (by simp [mixF, rowF]) (by omega)
      subst e_
      have gR8l := (hF2.ltAt 2 rfl _ rfl).1
      obtain ⟨gR10, cR11, e_⟩ := Own.opnN (hF2.at 3 rfl : Own intEnc 3 1 b0 _ ve (mixF (c.se ts.length h) (c.se ts.length (h + 1)) ts.length i)) (n := ts.length) (by simp [mixF, rowF]) (by omega)
      subst e_
      have gR10l := (hF2.ltAt 3 rfl _ rfl).1
      obtain ⟨gR12, cR13, e_⟩ := Own.opnN (hF2.at 4 rfl : Own boEnc 4 1 b0 _ vB (mixF (c.sB ts.length h) (c.sB ts.length (h + 1)) ts.length i)) (n := ts.length) (by simp [mixF, rowF]) (by omega)
      subst e_
      have gR12l := (hF2.ltAt 4 rfl _ rfl).1
      obtain ⟨gR14, cR15, e_⟩ := Own.opnN (hF2.at 5 rfl : Own boEnc 4 1 b0 _ vD (mixF (c.sD ts.length h) (c.sD ts.length (h + 1)) ts.length i)) (n := ts.length) (by simp [mixF, rowF]) (by omega)
      subst e_
      have gR14l := (hF2.ltAt 5 rfl _ rfl).1
      have hz16 : Hid ((mixF (c.sb ts.length h) (c.sb ts.length (h + 1)) ts.length i)[i]? = some (c.sb ts.length h i)) := Lib.hid ((mixF_get (by omega)).trans (by rw [if_neg (Nat.lt_irrefl _)]))
      have hz17 : Hid ((mixF (c.se ts.length h) (c.se ts.length (h + 1)) ts.length i)[i]? = some (c.se ts.length h i)) := Lib.hid ((mixF_get (by omega)).trans (by rw [if_neg (Nat.lt_irrefl _)]))
      have hz18 : Hid ((mixF (c.sB ts.length h) (c.sB ts.length (h + 1)) ts.length i)[i]? = some (c.sB ts.length h i)) := Lib.hid ((mixF_get (by omega)).trans (by rw [if_neg (Nat.lt_irrefl _)]))
      have hz19 : Hid ((mixF (c.sD ts.length h) (c.sD ts.length (h + 1)) ts.length i)[i]? = some (c.sD ts.length h i)) := Lib.hid ((mixF_get (by omega)).trans (by rw [if_neg (Nat.lt_irrefl _)]))
      have hz20 : Hid ((rowF (c.sl ts.length h) ts.length)[i]? = some (c.sl ts.length h i)) := Lib.hid (rowF_get (by omega))
      have hbi := HSO.out.bg_bd (i := i) (by omega)
      have hei := HSO.out.en_bd (i := i) (by omega)
      cases c21 : (c.sB ts.length h i)
      · skip
        have c21H := Lib.hid c21
        have b22 := hF2.bx11 0 rfl
        have ge23 : World.cell? _ ⟨gR12, i, none⟩ = some (.bool (c.sB ts.length h i)) := (by simpa using (Own.sl (hF2.at 4 rfl : Own boEnc 4 1 b0 _ (.slice (some ⟨gR12, 0, none⟩) ts.length cR13) (mixF (c.sB ts.length h) (c.sB ts.length (h + 1)) ts.length i)) (fun _ => rfl)).cells hz18.out 0 _ rfl)
        have gl24 := cell_lt ge23
        go_wp2_with fail
        clear b22 ge23 gl24
        refine (ready5_c lo hi _ _ ms ts lo3 hi3 _ _ _ _ lh lw lf rows c 0 _ g h i (.slice (some ⟨gR6, 0, none⟩) ts.length cR7) (.slice (some ⟨gR8, 0, none⟩) ts.length cR9) (.slice (some ⟨gR10, 0, none⟩) ts.length cR11) (.slice (some ⟨gR12, 0, none⟩) ts.length cR13) (.slice (some ⟨gR14, 0, none⟩) ts.length cR15) _ (JobAt.mk (hF2.at 15 rfl : Sl mchEnc 3 lo hi _ (.slice aM ms.length cM) ms) (hF2.at 14 rfl : Sl tskEnc 8 lo hi _ (.slice aT ts.length cT) ts) (hF2.at 13 rfl : Afs lo hi _ ts)) (Nat.le_trans h2_ hF2.gb.size) (CaseAt.mk (hF2.at 12 rfl : Sl intEnc 1 lo3 hi3 _ (.slice ah lh.length cah) lh) (hF2.at 11 rfl : Sl intEnc 1 lo3 hi3 _ (.slice aw lw.length caw) lw) (hF2.at 10 rfl : Sl intEnc 1 lo3 hi3 _ (.slice af lf.length caf) lf) (hF2.at 9 rfl : Sl vEncS 1 lo3 hi3 _ (.slice ak rows.length cak) (rows.map (·.1))) (hF2.at 8 rfl : Rwsl lo3 hi3 _ rows)) (Nat.le_trans h4_ hF2.gb.size) ((Own.sl (hF2.at 5 rfl : Own boEnc 4 1 b0 _ (.slice (some ⟨gR14, 0, none⟩) ts.length cR15) (mixF (c.sD ts.length h) (c.sD ts.length (h + 1)) ts.length i)) (fun _ => rfl)).wide (Nat.zero_le _) (Nat.le_refl _)) ((Own.sl (hF2.at 3 rfl : Own intEnc 3 1 b0 _ (.slice (some ⟨gR10, 0, none⟩) ts.length cR11) (mixF (c.se ts.length h) (c.se ts.length (h + 1)) ts.length i)) (fun _ => rfl)).wide (Nat.zero_le _) (Nat.le_refl _)) (Nat.le_refl _) (hF2.at 0 rfl : Bk _ g 58 #[.slice aM ms.length cM, .slice aT ts.length cT, .slice ah lh.length cah, .slice aw lw.length caw, .slice af lf.length caf, .slice ak rows.length cak, .slice (some ⟨gR6, 0, none⟩) ts.length cR7, .slice (some ⟨gR8, 0, none⟩) ts.length cR9, .slice (some ⟨gR10, 0, none⟩) ts.length cR11, .slice (some ⟨gR12, 0, none⟩) ts.length cR13, .slice (some ⟨gR14, 0, none⟩) ts.length cR15]) (by omega) (by omega) HCS.out HRS.out HCO.out hnts hnms HTM.out HAF.out).mono ?_
        rintro e w27 ⟨rfl, hg25⟩
        have hg25s := hg25.size
        (try simp at hg25s)
        have F28 := hF2.gn hg25
        clear hF2
        clear hg25
        by_cases c29 : c.bgI ts.length i ≤ (h : Int)
        · skip
          have c29H := Lib.hid c29
          go_wp2_with fail
          have F30 := F28.drew
          clear F28
          refine ru_begin (fun W => W.cell? ⟨g, 9, none⟩ = some (.slice (some ⟨gR12, 0, none⟩) ts.length cR13) ∧ W.cell? ⟨g, 7, none⟩ = some (.slice (some ⟨gR8, 0, none⟩) ts.length cR9)) 14 (by kernel_rfl) ?_ ?_
          · exact ⟨F30.cl 0 9 rfl rfl, F30.cl 0 7 rfl rfl⟩
          obtain ⟨wd32, hwd_⟩ : ∃ x : World, w27.drew = x := ⟨_, rfl⟩
          rw [hwd_] at F30 ⊢
          have wd32s : w27.heap.size ≤ wd32.heap.size := by rw [← hwd_]; exact Nat.le_refl _
          clear hwd_
          have hS31 := (And.intro (F30.cl 0 9 rfl rfl) (F30.cl 0 7 rfl rfl))
          refine ru_t 0 [] ?_
          refine ru_t 1 [] ?_
          refine ru_t 2 [] ?_
          refine ru_t 3 [] ?_
          refine ru_t 4 [] ?_
          refine ru_t 5 [] ?_
          refine ru_t 6 [] ?_
          refine ru_t 7 [] ?_
          refine ru_t 8 [] ?_
          refine ru_t 9 [] ?_
          refine ru_t 10 [] ?_
          refine ru_t 11 [] ?_
          (try simp only [Act.put, List.setIfInBounds_toArray, List.set_cons_zero, List.set_cons_succ])
          clear hS31
          refine ru_one 12 rfl (by kernel_rfl) (fun K hK => ?_)
          have kc_ : World.cell? _ ⟨gR12, i, none⟩ = some (.bool (c.sB ts.length h i)) := (by simpa using (Own.sl (F30.at 4 rfl : Own boEnc 4 1 b0 _ (.slice (some ⟨gR12, 0, none⟩) ts.length cR13) (mixF (c.sB ts.length h) (c.sB ts.length (h + 1)) ts.length i)) (fun _ => rfl)).cells hz18.out 0 _ rfl)
          have kf_ : World.frozen? _ ⟨gR12, i, none⟩ = false := Own.live (F30.at 4 rfl : Own boEnc 4 1 b0 _ (.slice (some ⟨gR12, 0, none⟩) ts.length cR13) (mixF (c.sB ts.length h) (c.sB ts.length (h + 1)) ts.length i)) _
          go_simp
          clear kc_ kf_
          have F33 := Bun.setOwn (sz := 1) (fun _ => rfl) (F30.front 4 rfl rfl) hz18.out (y := true) (j := 0) (u := (.bool true)) (k := i) (by decide) rfl (by omega)
          clear F30
          refine ru_back hK (by exact ⟨F33.cl 1 9 rfl rfl, F33.cl 1 7 rfl rfl⟩) (fun hHeld => ?_)
          clear hK K
          (try simp only [Act.put, List.setIfInBounds_toArray, List.set_cons_zero, List.set_cons_succ])
          refine ru_p 13 ?_
          (try simp only [Act.put, List.setIfInBounds_toArray, List.set_cons_zero, List.set_cons_succ])
          refine ru_one 14 rfl (by kernel_rfl) (fun K hK => ?_)
          have kc_ : World.cell? _ ⟨gR8, i, none⟩ = some (.int .i64 (c.sb ts.length h i)) := (by simpa using (Own.sl (F33.at 3 rfl : Own intEnc 3 1 b0 _ (.slice (some ⟨gR8, 0, none⟩) ts.length cR9) (mixF (c.sb ts.length h) (c.sb ts.length (h + 1)) ts.length i)) (fun _ => rfl)).cells hz16.out 0 _ rfl)
          have kf_ : World.frozen? _ ⟨gR8, i, none⟩ = false := Own.live (F33.at 3 rfl : Own intEnc 3 1 b0 _ (.slice (some ⟨gR8, 0, none⟩) ts.length cR9) (mixF (c.sb ts.length h) (c.sb ts.length (h + 1)) ts.length i)) _
          go_simp
          clear kc_ kf_
          have F34 := Bun.setOwn (sz := 1) (fun _ => rfl) (F33.front 3 rfl rfl) hz16.out (y := (h : Int)) (j := 0) (u := (.int .i64 (h : Int))) (k := i) (by decide) rfl (by omega)
          clear F33
          refine ru_back_late hK (by kernel_rfl) ?_
          clear hK K
          (try simp only [Act.put, List.setIfInBounds_toArray, List.set_cons_zero, List.set_cons_succ])
          refine ru_done (by kernel_rfl) ?_
          obtain ⟨w35, hx36, F38, hxs37⟩ := (show Bun w0 [rown intEnc 3 1 b0 (.slice (some ⟨gR8, 0, none⟩) ts.length cR9) ((mixF (c.sb ts.length h) (c.sb ts.length (h + 1)) ts.length i).set i (h : Int)), rown boEnc 4 1 b0 (.slice (some ⟨gR12, 0, none⟩) ts.length cR13) ((mixF (c.sB ts.length h) (c.sB ts.length (h + 1)) ts.length i).set i true), rbox g 58 #[.slice aM ms.length cM, .slice aT ts.length cT, .slice ah lh.length cah, .slice aw lw.length caw, .slice af lf.length caf, .slice ak rows.length cak, .slice (some ⟨gR6, 0, none⟩) ts.length cR7, .slice (some ⟨gR8, 0, none⟩) ts.length cR9, .slice (some ⟨gR10, 0, none⟩) ts.length cR11, .slice (some ⟨gR12, 0, none⟩) ts.length cR13, .slice (some ⟨gR14, 0, none⟩) ts.length cR15], rown intEnc 3 1 b0 (.slice (some ⟨gR6, 0, none⟩) ts.length cR7) (rowF (c.sl ts.length h) ts.length), rown intEnc 3 1 b0 (.slice (some ⟨gR10, 0, none⟩) ts.length cR11) (mixF (c.se ts.length h) (c.se ts.length (h + 1)) ts.length i), rown boEnc 4 1 b0 (.slice (some ⟨gR14, 0, none⟩) ts.length cR15) (mixF (c.sD ts.length h) (c.sD ts.length (h + 1)) ts.length i), rbox gc 51 #[.slice ah lh.length cah, .slice aw lw.length caw, .slice af lf.length caf, .slice ak rows.length cak], rbox gj 25 #[.slice aM ms.length cM, .slice aT ts.length cT], rrwsl lo3 hi3 rows, rsl vEncS 1 lo3 hi3 (.slice ak rows.length cak) (rows.map (·.1)), rsl intEnc 1 lo3 hi3 (.slice af lf.length caf) lf, rsl intEnc 1 lo3 hi3 (.slice aw lw.length caw) lw, rsl intEnc 1 lo3 hi3 (.slice ah lh.length cah) lh, rafs lo hi ts, rsl tskEnc 8 lo hi (.slice aT ts.length cT) ts, rsl mchEnc 3 lo hi (.slice aM ms.length cM) ms] _ from F34).name
          (try simp at hxs37)
          rw [hx36]
          clear hx36 F34
          rw [mixF_set (F := (c.sB ts.length h)) (G := (c.sB ts.length (h + 1))) (N := ts.length) (i := i) ((sB_1 c29H.out).symm)] at F38
          rw [mixF_set (F := (c.sb ts.length h)) (G := (c.sb ts.length (h + 1))) (N := ts.length) (i := i) (sb_s (sB_b c21H.out) c29H.out)] at F38
          have hz39 : Hid ((mixF (c.sB ts.length h) (c.sB ts.length (h + 1)) ts.length (i + 1))[i]? = some true) := Lib.hid ((mixF_lt (by omega) (Nat.lt_succ_self _)).trans (congrArg some (sB_1 c29H.out)))
          cases c40 : (c.sD ts.length h i)
          · skip
            have c40H := Lib.hid c40
            by_cases c41 : c.sl ts.length h i = 0
            · skip
              have c41a : ((c.sl ts.length h i) == 0) = true := beq_t c41
              have c41b : ((c.sl ts.length h i) != 0) = false := bne_f c41
              have c41H := Lib.hid c41
              clear c41
              have b42 := F38.bx11 2 rfl
              have ge43 : World.cell? _ ⟨gR12, i, none⟩ = some (.bool true) := (by simpa using (Own.sl (F38.at 1 rfl : Own boEnc 4 1 b0 _ (.slice (some ⟨gR12, 0, none⟩) ts.length cR13) (mixF (c.sB ts.length h) (c.sB ts.length (h + 1)) ts.length (i + 1))) (fun _ => rfl)).cells hz39.out 0 _ rfl)
              have gl44 := cell_lt ge43
              have ge45 : World.cell? _ ⟨gR14, i, none⟩ = some (.bool (c.sD ts.length h i)) := (by simpa using (Own.sl (F38.at 5 rfl : Own boEnc 4 1 b0 _ (.slice (some ⟨gR14, 0, none⟩) ts.length cR15) (mixF (c.sD ts.length h) (c.sD ts.length (h + 1)) ts.length i)) (fun _ => rfl)).cells hz19.out 0 _ rfl)
              have gl46 := cell_lt ge45
              have ge47 : World.cell? _ ⟨gR6, i, none⟩ = some (.int .i64 (c.sl ts.length h i)) := (by simpa using (Own.sl (F38.at 3 rfl : Own intEnc 3 1 b0 _ (.slice (some ⟨gR6, 0, none⟩) ts.length cR7) (rowF (c.sl ts.length h) ts.length)) (fun _ => rfl)).cells hz20.out 0 _ rfl)
              have gl48 := cell_lt ge47
              go_wp2_with fail
              clear b42 ge43 gl44 ge45 gl46 ge47 gl48
              have F49 := F38.drew
              clear F38
              refine ru_begin (fun W => W.cell? ⟨g, 10, none⟩ = some (.slice (some ⟨gR14, 0, none⟩) ts.length cR15) ∧ W.cell? ⟨g, 8, none⟩ = some (.slice (some ⟨gR10, 0, none⟩) ts.length cR11)) 14 (by kernel_rfl) ?_ ?_
              · exact ⟨F49.cl 2 10 rfl rfl, F49.cl 2 8 rfl rfl⟩
              obtain ⟨wd51, hwd_⟩ : ∃ x : World, w35.drew = x := ⟨_, rfl⟩
              rw [hwd_] at F49 ⊢
              have wd51s : w35.heap.size ≤ wd51.heap.size := by rw [← hwd_]; exact Nat.le_refl _
              clear hwd_
              have hS50 := (And.intro (F49.cl 2 10 rfl rfl) (F49.cl 2 8 rfl rfl))
              refine ru_t 0 [] ?_
              refine ru_t 1 [] ?_
              refine ru_t 2 [] ?_
              refine ru_t 3 [] ?_
              refine ru_t 4 [] ?_
              refine ru_t 5 [] ?_
              refine ru_t 6 [] ?_
              refine ru_t 7 [] ?_
              refine ru_t 8 [] ?_
              refine ru_t 9 [] ?_
              refine ru_t 10 [] ?_
              refine ru_t 11 [] ?_
              (try simp only [Act.put, List.setIfInBounds_toArray, List.set_cons_zero, List.set_cons_succ])
              clear hS50
              refine ru_one 12 rfl (by kernel_rfl) (fun K hK => ?_)
              have kc_ : World.cell? _ ⟨gR14, i, none⟩ = some (.bool (c.sD ts.length h i)) := (by simpa using (Own.sl (F49.at 5 rfl : Own boEnc 4 1 b0 _ (.slice (some ⟨gR14, 0, none⟩) ts.length cR15) (mixF (c.sD ts.length h) (c.sD ts.length (h + 1)) ts.length i)) (fun _ => rfl)).cells hz19.out 0 _ rfl)
              have kf_ : World.frozen? _ ⟨gR14, i, none⟩ = false := Own.live (F49.at 5 rfl : Own boEnc 4 1 b0 _ (.slice (some ⟨gR14, 0, none⟩) ts.length cR15) (mixF (c.sD ts.length h) (c.sD ts.length (h + 1)) ts.length i)) _
              go_simp
              clear kc_ kf_
              have F52 := Bun.setOwn (sz := 1) (fun _ => rfl) (F49.front 5 rfl rfl) hz19.out (y := true) (j := 0) (u := (.bool true)) (k := i) (by decide) rfl (by omega)
              clear F49
              refine ru_back hK (by exact ⟨F52.cl 3 10 rfl rfl, F52.cl 3 8 rfl rfl⟩) (fun hHeld => ?_)
              clear hK K
              (try simp only [Act.put, List.setIfInBounds_toArray, List.set_cons_zero, List.set_cons_succ])
              refine ru_p 13 ?_
              (try simp only [Act.put, List.setIfInBounds_toArray, List.set_cons_zero, List.set_cons_succ])
              refine ru_one 14 rfl (by kernel_rfl) (fun K hK => ?_)
              have kc_ : World.cell? _ ⟨gR10, i, none⟩ = some (.int .i64 (c.se ts.length h i)) := (by simpa using (Own.sl (F52.at 5 rfl : Own intEnc 3 1 b0 _ (.slice (some ⟨gR10, 0, none⟩) ts.length cR11) (mixF (c.se ts.length h) (c.se ts.length (h + 1)) ts.length i)) (fun _ => rfl)).cells hz17.out 0 _ rfl)
              have kf_ : World.frozen? _ ⟨gR10, i, none⟩ = false := Own.live (F52.at 5 rfl : Own intEnc 3 1 b0 _ (.slice (some ⟨gR10, 0, none⟩) ts.length cR11) (mixF (c.se ts.length h) (c.se ts.length (h + 1)) ts.length i)) _
              go_simp
              clear kc_ kf_
              have F53 := Bun.setOwn (sz := 1) (fun _ => rfl) (F52.front 5 rfl rfl) hz17.out (y := (h : Int)) (j := 0) (u := (.int .i64 (h : Int))) (k := i) (by decide) rfl (by omega)
              clear F52
              refine ru_back_late hK (by kernel_rfl) ?_
              clear hK K
              (try simp only [Act.put, List.setIfInBounds_toArray, List.set_cons_zero, List.set_cons_succ])
              refine ru_done (by kernel_rfl) ?_
              obtain ⟨w54, hx55, F57, hxs56⟩ := (show Bun w0 [rown intEnc 3 1 b0 (.slice (some ⟨gR10, 0, none⟩) ts.length cR11) ((mixF (c.se ts.length h) (c.se ts.length (h + 1)) ts.length i).set i (h : Int)), rown boEnc 4 1 b0 (.slice (some ⟨gR14, 0, none⟩) ts.length cR15) ((mixF (c.sD ts.length h) (c.sD ts.length (h + 1)) ts.length i).set i true), rown intEnc 3 1 b0 (.slice (some ⟨gR8, 0, none⟩) ts.length cR9) (mixF (c.sb ts.length h) (c.sb ts.length (h + 1)) ts.length (i + 1)), rown boEnc 4 1 b0 (.slice (some ⟨gR12, 0, none⟩) ts.length cR13) (mixF (c.sB ts.length h) (c.sB ts.length (h + 1)) ts.length (i + 1)), rbox g 58 #[.slice aM ms.length cM, .slice aT ts.length cT, .slice ah lh.length cah, .slice aw lw.length caw, .slice af lf.length caf, .slice ak rows.length cak, .slice (some ⟨gR6, 0, none⟩) ts.length cR7, .slice (some ⟨gR8, 0, none⟩) ts.length cR9, .slice (some ⟨gR10, 0, none⟩) ts.length cR11, .slice (some ⟨gR12, 0, none⟩) ts.length cR13, .slice (some ⟨gR14, 0, none⟩) ts.length cR15], rown intEnc 3 1 b0 (.slice (some ⟨gR6, 0, none⟩) ts.length cR7) (rowF (c.sl ts.length h) ts.length), rbox gc 51 #[.slice ah lh.length cah, .slice aw lw.length caw, .slice af lf.length caf, .slice ak rows.length cak], rbox gj 25 #[.slice aM ms.length cM, .slice aT ts.length cT], rrwsl lo3 hi3 rows, rsl vEncS 1 lo3 hi3 (.slice ak rows.length cak) (rows.map (·.1)), rsl intEnc 1 lo3 hi3 (.slice af lf.length caf) lf, rsl intEnc 1 lo3 hi3 (.slice aw lw.length caw) lw, rsl intEnc 1 lo3 hi3 (.slice ah lh.length cah) lh, rafs lo hi ts, rsl tskEnc 8 lo hi (.slice aT ts.length cT) ts, rsl mchEnc 3 lo hi (.slice aM ms.length cM) ms] _ from F53).name
              (try simp at hxs56)
              rw [hx55]
              clear hx55 F53
              go_wp2_with fail
              go_wp2_with fail
              rw [mixF_set (F := (c.sD ts.length h)) (G := (c.sD ts.length (h + 1))) (N := ts.length) (i := i) ((sD_1 ((HSO.out.done (i := i) (by omega) (by omega) c29H.out).1 c41H.out)).symm)] at F57
              rw [mixF_set (F := (c.se ts.length h)) (G := (c.se ts.length (h + 1))) (N := ts.length) (i := i) (se_s (sD_b c40H.out) ((HSO.out.done (i := i) (by omega) (by omega) c29H.out).1 c41H.out))] at F57
              (skip)
              have F58 : Bun w0 [rbox g 58 #[.slice aM ms.length cM, .slice aT ts.length cT, .slice ah lh.length cah, .slice aw lw.length caw, .slice af lf.length caf, .slice ak rows.length cak, .slice (some ⟨gR6, 0, none⟩) ts.length cR7, .slice (some ⟨gR8, 0, none⟩) ts.length cR9, .slice (some ⟨gR10, 0, none⟩) ts.length cR11, .slice (some ⟨gR12, 0, none⟩) ts.length cR13, .slice (some ⟨gR14, 0, none⟩) ts.length cR15], rown intEnc 3 1 b0 (.slice (some ⟨gR6, 0, none⟩) ts.length cR7) (rowF (c.sl ts.length h) ts.length), rown intEnc 3 1 b0 (.slice (some ⟨gR8, 0, none⟩) ts.length cR9) (mixF (c.sb ts.length h) (c.sb ts.length (h + 1)) ts.length (i + 1)), rown intEnc 3 1 b0 (.slice (some ⟨gR10, 0, none⟩) ts.length cR11) (mixF (c.se ts.length h) (c.se ts.length (h + 1)) ts.length (i + 1)), rown boEnc 4 1 b0 (.slice (some ⟨gR12, 0, none⟩) ts.length cR13) (mixF (c.sB ts.length h) (c.sB ts.length (h + 1)) ts.length (i + 1)), rown boEnc 4 1 b0 (.slice (some ⟨gR14, 0, none⟩) ts.length cR15) (mixF (c.sD ts.length h) (c.sD ts.length (h + 1)) ts.length (i + 1)), rbox gc 51 #[.slice ah lh.length cah, .slice aw lw.length caw, .slice af lf.length caf, .slice ak rows.length cak], rbox gj 25 #[.slice aM ms.length cM, .slice aT ts.length cT], rrwsl lo3 hi3 rows, rsl vEncS 1 lo3 hi3 (.slice ak rows.length cak) (rows.map (·.1)), rsl intEnc 1 lo3 hi3 (.slice af lf.length caf) lf, rsl intEnc 1 lo3 hi3 (.slice aw lw.length caw) lw, rsl intEnc 1 lo3 hi3 (.slice ah lh.length cah) lh, rafs lo hi ts, rsl tskEnc 8 lo hi (.slice aT ts.length cT) ts, rsl mchEnc 3 lo hi (.slice aM ms.length cM) ms] _ := F57.pick [4, 5, 2, 0, 3, 1, 6, 7, 8, 9, 10, 11, 12, 13, 14, 15] (by decide) rfl
              clear F57
              (first | refine ⟨by kernel_rfl, ?_, ?_⟩ | refine ⟨rfl, ?_, ?_⟩ | refine ⟨?_, ?_⟩)
              · rw [HI1.out]; exact ⟨i + 1, (by first | kernel_rfl | rfl), (by first | kernel_rfl | rfl), (by first | kernel_rfl | rfl), (by show Value.int .i64 ((i : Int) + 1) = _; simp), (by omega), (by first | rfl | simp), F58⟩
              · simp [slot, intOf]; omega
            · skip
              have c41a : ((c.sl ts.length h i) == 0) = false := beq_f c41
              have c41b : ((c.sl ts.length h i) != 0) = true := bne_t c41
              have c41H := Lib.hid c41
              clear c41
              have b59 := F38.bx11 2 rfl
              have ge60 : World.cell? _ ⟨gR12, i, none⟩ = some (.bool true) := (by simpa using (Own.sl (F38.at 1 rfl : Own boEnc 4 1 b0 _ (.slice (some ⟨gR12, 0, none⟩) ts.length cR13) (mixF (c.sB ts.length h) (c.sB ts.length (h + 1)) ts.length (i + 1))) (fun _ => rfl)).cells hz39.out 0 _ rfl)
              have gl61 := cell_lt ge60
              have ge62 : World.cell? _ ⟨gR14, i, none⟩ = some (.bool (c.sD ts.length h i)) := (by simpa using (Own.sl (F38.at 5 rfl : Own boEnc 4 1 b0 _ (.slice (some ⟨gR14, 0, none⟩) ts.length cR15) (mixF (c.sD ts.length h) (c.sD ts.length (h + 1)) ts.length i)) (fun _ => rfl)).cells hz19.out 0 _ rfl)
              have gl63 := cell_lt ge62
              have ge64 : World.cell? _ ⟨gR6, i, none⟩ = some (.int .i64 (c.sl ts.length h i)) := (by simpa using (Own.sl (F38.at 3 rfl : Own intEnc 3 1 b0 _ (.slice (some ⟨gR6, 0, none⟩) ts.length cR7) (rowF (c.sl ts.length h) ts.length)) (fun _ => rfl)).cells hz20.out 0 _ rfl)
              have gl65 := cell_lt ge64
              go_wp2_with fail
              clear b59 ge60 gl61 ge62 gl63 ge64 gl65
              go_wp2_with fail
              rw [mixF_keep (F := (c.sD ts.length h)) (G := (c.sD ts.length (h + 1))) (N := ts.length) (i := i) (sD_k (.inr (fun h_ => c41H.out ((HSO.out.done (i := i) (by omega) (by omega) c29H.out).2 h_))))] at F38
              rw [mixF_keep (F := (c.se ts.length h)) (G := (c.se ts.length (h + 1))) (N := ts.length) (i := i) (se_k (.inr (fun h_ => c41H.out ((HSO.out.done (i := i) (by omega) (by omega) c29H.out).2 h_))))] at F38
              (skip)
              have F66 : Bun w0 [rbox g 58 #[.slice aM ms.length cM, .slice aT ts.length cT, .slice ah lh.length cah, .slice aw lw.length caw, .slice af lf.length caf, .slice ak rows.length cak, .slice (some ⟨gR6, 0, none⟩) ts.length cR7, .slice (some ⟨gR8, 0, none⟩) ts.length cR9, .slice (some ⟨gR10, 0, none⟩) ts.length cR11, .slice (some ⟨gR12, 0, none⟩) ts.length cR13, .slice (some ⟨gR14, 0, none⟩) ts.length cR15], rown intEnc 3 1 b0 (.slice (some ⟨gR6, 0, none⟩) ts.length cR7) (rowF (c.sl ts.length h) ts.length), rown intEnc 3 1 b0 (.slice (some ⟨gR8, 0, none⟩) ts.length cR9) (mixF (c.sb ts.length h) (c.sb ts.length (h + 1)) ts.length (i + 1)), rown intEnc 3 1 b0 (.slice (some ⟨gR10, 0, none⟩) ts.length cR11) (mixF (c.se ts.length h) (c.se ts.length (h + 1)) ts.length (i + 1)), rown boEnc 4 1 b0 (.slice (some ⟨gR12, 0, none⟩) ts.length cR13) (mixF (c.sB ts.length h) (c.sB ts.length (h + 1)) ts.length (i + 1)), rown boEnc 4 1 b0 (.slice (some ⟨gR14, 0, none⟩) ts.length cR15) (mixF (c.sD ts.length h) (c.sD ts.length (h + 1)) ts.length (i + 1)), rbox gc 51 #[.slice ah lh.length cah, .slice aw lw.length caw, .slice af lf.length caf, .slice ak rows.length cak], rbox gj 25 #[.slice aM ms.length cM, .slice aT ts.length cT], rrwsl lo3 hi3 rows, rsl vEncS 1 lo3 hi3 (.slice ak rows.length cak) (rows.map (·.1)), rsl intEnc 1 lo3 hi3 (.slice af lf.length caf) lf, rsl intEnc 1 lo3 hi3 (.slice aw lw.length caw) lw, rsl intEnc 1 lo3 hi3 (.slice ah lh.length cah) lh, rafs lo hi ts, rsl tskEnc 8 lo hi (.slice aT ts.length cT) ts, rsl mchEnc 3 lo hi (.slice aM ms.length cM) ms] _ := F38.pick [2, 3, 0, 4, 1, 5, 6, 7, 8, 9, 10, 11, 12, 13, 14, 15] (by decide) rfl
              clear F38
              (first | refine ⟨by kernel_rfl, ?_, ?_⟩ | refine ⟨rfl, ?_, ?_⟩ | refine ⟨?_, ?_⟩)
              · rw [HI1.out]; exact ⟨i + 1, (by first | kernel_rfl | rfl), (by first | kernel_rfl | rfl), (by first | kernel_rfl | rfl), (by show Value.int .i64 ((i : Int) + 1) = _; simp), (by omega), (by first | rfl | simp), F66⟩
              · simp [slot, intOf]; omega
          · skip
            have c40H := Lib.hid c40
            have b67 := F38.bx11 2 rfl
            have ge68 : World.cell? _ ⟨gR12, i, none⟩ = some (.bool true) := (by simpa using (Own.sl (F38.at 1 rfl : Own boEnc 4 1 b0 _ (.slice (some ⟨gR12, 0, none⟩) ts.length cR13) (mixF (c.sB ts.length h) (c.sB ts.length (h + 1)) ts.length (i + 1))) (fun _ => rfl)).cells hz39.out 0 _ rfl)
            have gl69 := cell_lt ge68
            have ge70 : World.cell? _ ⟨gR14, i, none⟩ = some (.bool (c.sD ts.length h i)) := (by simpa using (Own.sl (F38.at 5 rfl : Own boEnc 4 1 b0 _ (.slice (some ⟨gR14, 0, none⟩) ts.length cR15) (mixF (c.sD ts.length h) (c.sD ts.length (h + 1)) ts.length i)) (fun _ => rfl)).cells hz19.out 0 _ rfl)
            have gl71 := cell_lt ge70
            go_wp2_with fail
            clear b67 ge68 gl69 ge70 gl71
            go_wp2_with fail
            rw [mixF_keep (F := (c.sD ts.length h)) (G := (c.sD ts.length (h + 1))) (N := ts.length) (i := i) (sD_k (.inl (sD_a c40H.out)))] at F38
            rw [mixF_keep (F := (c.se ts.length h)) (G := (c.se ts.length (h + 1))) (N := ts.length) (i := i) (se_k (.inl (sD_a c40H.out)))] at F38
            (skip)
            have F72 : Bun w0 [rbox g 58 #[.slice aM ms.length cM, .slice aT ts.length cT, .slice ah lh.length cah, .slice aw lw.length caw, .slice af lf.length caf, .slice ak rows.length cak, .slice (some ⟨gR6, 0, none⟩) ts.length cR7, .slice (some ⟨gR8, 0, none⟩) ts.length cR9, .slice (some ⟨gR10, 0, none⟩) ts.length cR11, .slice (some ⟨gR12, 0, none⟩) ts.length cR13, .slice (some ⟨gR14, 0, none⟩) ts.length cR15], rown intEnc 3 1 b0 (.slice (some ⟨gR6, 0, none⟩) ts.length cR7) (rowF (c.sl ts.length h) ts.length), rown intEnc 3 1 b0 (.slice (some ⟨gR8, 0, none⟩) ts.length cR9) (mixF (c.sb ts.length h) (c.sb ts.length (h + 1)) ts.length (i + 1)), rown intEnc 3 1 b0 (.slice (some ⟨gR10, 0, none⟩) ts.length cR11) (mixF (c.se ts.length h) (c.se ts.length (h + 1)) ts.length (i + 1)), rown boEnc 4 1 b0 (.slice (some ⟨gR12, 0, none⟩) ts.length cR13) (mixF (c.sB ts.length h) (c.sB ts.length (h + 1)) ts.length (i + 1)), rown boEnc 4 1 b0 (.slice (some ⟨gR14, 0, none⟩) ts.length cR15) (mixF (c.sD ts.length h) (c.sD ts.length (h + 1)) ts.length (i + 1)), rbox gc 51 #[.slice ah lh.length cah, .slice aw lw.length caw, .slice af lf.length caf, .slice ak rows.length cak], rbox gj 25 #[.slice aM ms.length cM, .slice aT ts.length cT], rrwsl lo3 hi3 rows, rsl vEncS 1 lo3 hi3 (.slice ak rows.length cak) (rows.map (·.1)), rsl intEnc 1 lo3 hi3 (.slice af lf.length caf) lf, rsl intEnc 1 lo3 hi3 (.slice aw lw.length caw) lw, rsl intEnc 1 lo3 hi3 (.slice ah lh.length cah) lh, rafs lo hi ts, rsl tskEnc 8 lo hi (.slice aT ts.length cT) ts, rsl mchEnc 3 lo hi (.slice aM ms.length cM) ms] _ := F38.pick [2, 3, 0, 4, 1, 5, 6, 7, 8, 9, 10, 11, 12, 13, 14, 15] (by decide) rfl
            clear F38
            (first | refine ⟨by kernel_rfl, ?_, ?_⟩ | refine ⟨rfl, ?_, ?_⟩ | refine ⟨?_, ?_⟩)
            · rw [HI1.out]; exact ⟨i + 1, (by first | kernel_rfl | rfl), (by first | kernel_rfl | rfl), (by first | kernel_rfl | rfl), (by show Value.int .i64 ((i : Int) + 1) = _; simp), (by omega), (by first | rfl | simp), F72⟩
            · simp [slot, intOf]; omega
        · skip
          have c29H := Lib.hid c29
          have c29a : decide (c.bgI ts.length i ≤ (h : Int)) = false := dec_f c29
          have F73 : Bun w0 [rbox g 58 #[.slice aM ms.length cM, .slice aT ts.length cT, .slice ah lh.length cah, .slice aw lw.length caw, .slice af lf.length caf, .slice ak rows.length cak, .slice (some ⟨gR6, 0, none⟩) ts.length cR7, .slice (some ⟨gR8, 0, none⟩) ts.length cR9, .slice (some ⟨gR10, 0, none⟩) ts.length cR11, .slice (some ⟨gR12, 0, none⟩) ts.length cR13, .slice (some ⟨gR14, 0, none⟩) ts.length cR15], rown intEnc 3 1 b0 (.slice (some ⟨gR6, 0, none⟩) ts.length cR7) (rowF (c.sl ts.length h) ts.length), rown intEnc 3 1 b0 (.slice (some ⟨gR8, 0, none⟩) ts.length cR9) (mixF (c.sb ts.length h) (c.sb ts.length (h + 1)) ts.length i), rown intEnc 3 1 b0 (.slice (some ⟨gR10, 0, none⟩) ts.length cR11) (mixF (c.se ts.length h) (c.se ts.length (h + 1)) ts.length i), rown boEnc 4 1 b0 (.slice (some ⟨gR12, 0, none⟩) ts.length cR13) (mixF (c.sB ts.length h) (c.sB ts.length (h + 1)) ts.length i), rown boEnc 4 1 b0 (.slice (some ⟨gR14, 0, none⟩) ts.length cR15) (mixF (c.sD ts.length h) (c.sD ts.length (h + 1)) ts.length i), rbox gc 51 #[.slice ah lh.length cah, .slice aw lw.length caw, .slice af lf.length caf, .slice ak rows.length cak], rbox gj 25 #[.slice aM ms.length cM, .slice aT ts.length cT], rrwsl lo3 hi3 rows, rsl vEncS 1 lo3 hi3 (.slice ak rows.length cak) (rows.map (·.1)), rsl intEnc 1 lo3 hi3 (.slice af lf.length caf) lf, rsl intEnc 1 lo3 hi3 (.slice aw lw.length caw) lw, rsl intEnc 1 lo3 hi3 (.slice ah lh.length cah) lh, rafs lo hi ts, rsl tskEnc 8 lo hi (.slice aT ts.length cT) ts, rsl mchEnc 3 lo hi (.slice aM ms.length cM) ms] _ := F28
          clear F28
          rw [mixF_keep (F := (c.sB ts.length h)) (G := (c.sB ts.length (h + 1))) (N := ts.length) (i := i) (sB_k (.inr c29H.out))] at F73
          rw [mixF_keep (F := (c.sb ts.length h)) (G := (c.sb ts.length (h + 1))) (N := ts.length) (i := i) (sb_k (.inr c29H.out))] at F73
          have hz74 : Hid ((mixF (c.sB ts.length h) (c.sB ts.length (h + 1)) ts.length (i + 1))[i]? = some false) := Lib.hid ((mixF_lt (by omega) (Nat.lt_succ_self _)).trans (congrArg some (sB_0 c29H.out)))
          have b75 := F73.bx11 0 rfl
          have ge76 : World.cell? _ ⟨gR12, i, none⟩ = some (.bool false) := (by simpa using (Own.sl (F73.at 4 rfl : Own boEnc 4 1 b0 _ (.slice (some ⟨gR12, 0, none⟩) ts.length cR13) (mixF (c.sB ts.length h) (c.sB ts.length (h + 1)) ts.length (i + 1))) (fun _ => rfl)).cells hz74.out 0 _ rfl)
          have gl77 := cell_lt ge76
          go_wp2_with fail
          clear b75 ge76 gl77
          go_wp2_with fail
          rw [mixF_keep (F := (c.sD ts.length h)) (G := (c.sD ts.length (h + 1))) (N := ts.length) (i := i) (sD_k (.inr (by have h_ := c29H.out; omega)))] at F73
          rw [mixF_keep (F := (c.se ts.length h)) (G := (c.se ts.length (h + 1))) (N := ts.length) (i := i) (se_k (.inr (by have h_ := c29H.out; omega)))] at F73
          (skip)
          (first | refine ⟨by kernel_rfl, ?_, ?_⟩ | refine ⟨rfl, ?_, ?_⟩ | refine ⟨?_, ?_⟩)
          · rw [HI1.out]; exact ⟨i + 1, (by first | kernel_rfl | rfl), (by first | kernel_rfl | rfl), (by first | kernel_rfl | rfl), (by show Value.int .i64 ((i : Int) + 1) = _; simp), (by omega), (by first | rfl | simp), F73⟩
          · simp [slot, intOf]; omega
      · skip
        have c21H := Lib.hid c21
        have b78 := hF2.bx11 0 rfl
        have ge79 : World.cell? _ ⟨gR12, i, none⟩ = some (.bool (c.sB ts.length h i)) := (by simpa using (Own.sl (hF2.at 4 rfl : Own boEnc 4 1 b0 _ (.slice (some ⟨gR12, 0, none⟩) ts.length cR13) (mixF (c.sB ts.length h) (c.sB ts.length (h + 1)) ts.length i)) (fun _ => rfl)).cells hz18.out 0 _ rfl)
        have gl80 := cell_lt ge79
        have F81 : Bun w0 [rbox g 58 #[.slice aM ms.length cM, .slice aT ts.length cT, .slice ah lh.length cah, .slice aw lw.length caw, .slice af lf.length caf, .slice ak rows.length cak, .slice (some ⟨gR6, 0, none⟩) ts.length cR7, .slice (some ⟨gR8, 0, none⟩) ts.length cR9, .slice (some ⟨gR10, 0, none⟩) ts.length cR11, .slice (some ⟨gR12, 0, none⟩) ts.length cR13, .slice (some ⟨gR14, 0, none⟩) ts.length cR15], rown intEnc 3 1 b0 (.slice (some ⟨gR6, 0, none⟩) ts.length cR7) (rowF (c.sl ts.length h) ts.length), rown intEnc 3 1 b0 (.slice (some ⟨gR8, 0, none⟩) ts.length cR9) (mixF (c.sb ts.length h) (c.sb ts.length (h + 1)) ts.length i), rown intEnc 3 1 b0 (.slice (some ⟨gR10, 0, none⟩) ts.length cR11) (mixF (c.se ts.length h) (c.se ts.length (h + 1)) ts.length i), rown boEnc 4 1 b0 (.slice (some ⟨gR12, 0, none⟩) ts.length cR13) (mixF (c.sB ts.length h) (c.sB ts.length (h + 1)) ts.length i), rown boEnc 4 1 b0 (.slice (some ⟨gR14, 0, none⟩) ts.length cR15) (mixF (c.sD ts.length h) (c.sD ts.length (h + 1)) ts.length i), rbox gc 51 #[.slice ah lh.length cah, .slice aw lw.length caw, .slice af lf.length caf, .slice ak rows.length cak], rbox gj 25 #[.slice aM ms.length cM, .slice aT ts.length cT], rrwsl lo3 hi3 rows, rsl vEncS 1 lo3 hi3 (.slice ak rows.length cak) (rows.map (·.1)), rsl intEnc 1 lo3 hi3 (.slice af lf.length caf) lf, rsl intEnc 1 lo3 hi3 (.slice aw lw.length caw) lw, rsl intEnc 1 lo3 hi3 (.slice ah lh.length cah) lh, rafs lo hi ts, rsl tskEnc 8 lo hi (.slice aT ts.length cT) ts, rsl mchEnc 3 lo hi (.slice aM ms.length cM) ms] _ := hF2
        clear hF2
        rw [mixF_keep (F := (c.sB ts.length h)) (G := (c.sB ts.length (h + 1))) (N := ts.length) (i := i) (sB_k (.inl (sB_a c21H.out)))] at F81
        rw [mixF_keep (F := (c.sb ts.length h)) (G := (c.sb ts.length (h + 1))) (N := ts.length) (i := i) (sb_k (.inl (sB_a c21H.out)))] at F81
        have hz82 : Hid ((mixF (c.sB ts.length h) (c.sB ts.length (h + 1)) ts.length (i + 1))[i]? = some true) := Lib.hid ((mixF_lt (by omega) (Nat.lt_succ_self _)).trans (congrArg some (sB_1 (Int.le_of_lt (sB_a c21H.out)))))
        cases c83 : (c.sD ts.length h i)
        · skip
          have c83H := Lib.hid c83
          by_cases c84 : c.sl ts.length h i = 0
          · skip
            have c84a : ((c.sl ts.length h i) == 0) = true := beq_t c84
            have c84b : ((c.sl ts.length h i) != 0) = false := bne_f c84
            have c84H := Lib.hid c84
            clear c84
            have b85 := F81.bx11 0 rfl
            have ge86 : World.cell? _ ⟨gR12, i, none⟩ = some (.bool true) := (by simpa using (Own.sl (F81.at 4 rfl : Own boEnc 4 1 b0 _ (.slice (some ⟨gR12, 0, none⟩) ts.length cR13) (mixF (c.sB ts.length h) (c.sB ts.length (h + 1)) ts.length (i + 1))) (fun _ => rfl)).cells hz82.out 0 _ rfl)
            have gl87 := cell_lt ge86
            have ge88 : World.cell? _ ⟨gR14, i, none⟩ = some (.bool (c.sD ts.length h i)) := (by simpa using (Own.sl (F81.at 5 rfl : Own boEnc 4 1 b0 _ (.slice (some ⟨gR14, 0, none⟩) ts.length cR15) (mixF (c.sD ts.length h) (c.sD ts.length (h + 1)) ts.length i)) (fun _ => rfl)).cells hz19.out 0 _ rfl)
            have gl89 := cell_lt ge88
            have ge90 : World.cell? _ ⟨gR6, i, none⟩ = some (.int .i64 (c.sl ts.length h i)) := (by simpa using (Own.sl (F81.at 1 rfl : Own intEnc 3 1 b0 _ (.slice (some ⟨gR6, 0, none⟩) ts.length cR7) (rowF (c.sl ts.length h) ts.length)) (fun _ => rfl)).cells hz20.out 0 _ rfl)
            have gl91 := cell_lt ge90
            go_wp2_with fail
            clear b85 ge86 gl87 ge88 gl89 ge90 gl91
            clear b78 ge79 gl80
            have F92 := F81.drew
            clear F81
            refine ru_begin (fun W => W.cell? ⟨g, 10, none⟩ = some (.slice (some ⟨gR14, 0, none⟩) ts.length cR15) ∧ W.cell? ⟨g, 8, none⟩ = some (.slice (some ⟨gR10, 0, none⟩) ts.length cR11)) 14 (by kernel_rfl) ?_ ?_
            · exact ⟨F92.cl 0 10 rfl rfl, F92.cl 0 8 rfl rfl⟩
            obtain ⟨wd94, hwd_⟩ : ∃ x : World, w4.drew = x := ⟨_, rfl⟩
            rw [hwd_] at F92 ⊢
            have wd94s : w4.heap.size ≤ wd94.heap.size := by rw [← hwd_]; exact Nat.le_refl _
            clear hwd_
            have hS93 := (And.intro (F92.cl 0 10 rfl rfl) (F92.cl 0 8 rfl rfl))
            refine ru_t 0 [] ?_
            refine ru_t 1 [] ?_
            refine ru_t 2 [] ?_
            refine ru_t 3 [] ?_
            refine ru_t 4 [] ?_
            refine ru_t 5 [] ?_
            refine ru_t 6 [] ?_
            refine ru_t 7 [] ?_
            refine ru_t 8 [] ?_
            refine ru_t 9 [] ?_
            refine ru_t 10 [] ?_
            refine ru_t 11 [] ?_
            (try simp only [Act.put, List.setIfInBounds_toArray, List.set_cons_zero, List.set_cons_succ])
            clear hS93
            refine ru_one 12 rfl (by kernel_rfl) (fun K hK => ?_)
            have kc_ : World.cell? _ ⟨gR14, i, none⟩ = some (.bool (c.sD ts.length h i)) := (by simpa using (Own.sl (F92.at 5 rfl : Own boEnc 4 1 b0 _ (.slice (some ⟨gR14, 0, none⟩) ts.length cR15) (mixF (c.sD ts.length h) (c.sD ts.length (h + 1)) ts.length i)) (fun _ => rfl)).cells hz19.out 0 _ rfl)
            have kf_ : World.frozen? _ ⟨gR14, i, none⟩ = false := Own.live (F92.at 5 rfl : Own boEnc 4 1 b0 _ (.slice (some ⟨gR14, 0, none⟩) ts.length cR15) (mixF (c.sD ts.length h) (c.sD ts.length (h + 1)) ts.length i)) _
            go_simp
            clear kc_ kf_
            have F95 := Bun.setOwn (sz := 1) (fun _ => rfl) (F92.front 5 rfl rfl) hz19.out (y := true) (j := 0) (u := (.bool true)) (k := i) (by decide) rfl (by omega)
            clear F92
            refine ru_back hK (by exact ⟨F95.cl 1 10 rfl rfl, F95.cl 1 8 rfl rfl⟩) (fun hHeld => ?_)
            clear hK K
            (try simp only [Act.put, List.setIfInBounds_toArray, List.set_cons_zero, List.set_cons_succ])
            refine ru_p 13 ?_
            (try simp only [Act.put, List.setIfInBounds_toArray, List.set_cons_zero, List.set_cons_succ])
            refine ru_one 14 rfl (by kernel_rfl) (fun K hK => ?_)
            have kc_ : World.cell? _ ⟨gR10, i, none⟩ = some (.int .i64 (c.se ts.length h i)) := (by simpa using (Own.sl (F95.at 4 rfl : Own intEnc 3 1 b0 _ (.slice (some ⟨gR10, 0, none⟩) ts.length cR11) (mixF (c.se ts.length h) (c.se ts.length (h + 1)) ts.length i)) (fun _ => rfl)).cells hz17.out 0 _ rfl)
            have kf_ : World.frozen? _ ⟨gR10, i, none⟩ = false := Own.live (F95.at 4 rfl : Own intEnc 3 1 b0 _ (.slice (some ⟨gR10, 0, none⟩) ts.length cR11) (mixF (c.se ts.length h) (c.se ts.length (h + 1)) ts.length i)) _
            go_simp
            clear kc_ kf_
            have F96 := Bun.setOwn (sz := 1) (fun _ => rfl) (F95.front 4 rfl rfl) hz17.out (y := (h : Int)) (j := 0) (u := (.int .i64 (h : Int))) (k := i) (by decide) rfl (by omega)
            clear F95
            refine ru_back_late hK (by kernel_rfl) ?_
            clear hK K
            (try simp only [Act.put, List.setIfInBounds_toArray, List.set_cons_zero, List.set_cons_succ])
            refine ru_done (by kernel_rfl) ?_
            obtain ⟨w97, hx98, F100, hxs99⟩ := (show Bun w0 [rown intEnc 3 1 b0 (.slice (some ⟨gR10, 0, none⟩) ts.length cR11) ((mixF (c.se ts.length h) (c.se ts.length (h + 1)) ts.length i).set i (h : Int)), rown boEnc 4 1 b0 (.slice (some ⟨gR14, 0, none⟩) ts.length cR15) ((mixF (c.sD ts.length h) (c.sD ts.length (h + 1)) ts.length i).set i true), rbox g 58 #[.slice aM ms.length cM, .slice aT ts.length cT, .slice ah lh.length cah, .slice aw lw.length caw, .slice af lf.length caf, .slice ak rows.length cak, .slice (some ⟨gR6, 0, none⟩) ts.length cR7, .slice (some ⟨gR8, 0, none⟩) ts.length cR9, .slice (some ⟨gR10, 0, none⟩) ts.length cR11, .slice (some ⟨gR12, 0, none⟩) ts.length cR13, .slice (some ⟨gR14, 0, none⟩) ts.length cR15], rown intEnc 3 1 b0 (.slice (some ⟨gR6, 0, none⟩) ts.length cR7) (rowF (c.sl ts.length h) ts.length), rown intEnc 3 1 b0 (.slice (some ⟨gR8, 0, none⟩) ts.length cR9) (mixF (c.sb ts.length h) (c.sb ts.length (h + 1)) ts.length (i + 1)), rown boEnc 4 1 b0 (.slice (some ⟨gR12, 0, none⟩) ts.length cR13) (mixF (c.sB ts.length h) (c.sB ts.length (h + 1)) ts.length (i + 1)), rbox gc 51 #[.slice ah lh.length cah, .slice aw lw.length caw, .slice af lf.length caf, .slice ak rows.length cak], rbox gj 25 #[.slice aM ms.length cM, .slice aT ts.length cT], rrwsl lo3 hi3 rows, rsl vEncS 1 lo3 hi3 (.slice ak rows.length cak) (rows.map (·.1)), rsl intEnc 1 lo3 hi3 (.slice af lf.length caf) lf, rsl intEnc 1 lo3 hi3 (.slice aw lw.length caw) lw, rsl intEnc 1 lo3 hi3 (.slice ah lh.length cah) lh, rafs lo hi ts, rsl tskEnc 8 lo hi (.slice aT ts.length cT) ts, rsl mchEnc 3 lo hi (.slice aM ms.length cM) ms] _ from F96).name
            (try simp at hxs99)
            rw [hx98]
            clear hx98 F96
            go_wp2_with fail
            go_wp2_with fail
            rw [mixF_set (F := (c.sD ts.length h)) (G := (c.sD ts.length (h + 1))) (N := ts.length) (i := i) ((sD_1 ((HSO.out.done (i := i) (by omega) (by omega) (by have h_ := sB_a c21H.out; omega)).1 c84H.out)).symm)] at F100
            rw [mixF_set (F := (c.se ts.length h)) (G := (c.se ts.length (h + 1))) (N := ts.length) (i := i) (se_s (sD_b c83H.out) ((HSO.out.done (i := i) (by omega) (by omega) (by have h_ := sB_a c21H.out; omega)).1 c84H.out))] at F100
            (skip)
            have F101 : Bun w0 [rbox g 58 #[.slice aM ms.length cM, .slice aT ts.length cT, .slice ah lh.length cah, .slice aw lw.length caw, .slice af lf.length caf, .slice ak rows.length cak, .slice (some ⟨gR6, 0, none⟩) ts.length cR7, .slice (some ⟨gR8, 0, none⟩) ts.length cR9, .slice (some ⟨gR10, 0, none⟩) ts.length cR11, .slice (some ⟨gR12, 0, none⟩) ts.length cR13, .slice (some ⟨gR14, 0, none⟩) ts.length cR15], rown intEnc 3 1 b0 (.slice (some ⟨gR6, 0, none⟩) ts.length cR7) (rowF (c.sl ts.length h) ts.length), rown intEnc 3 1 b0 (.slice (some ⟨gR8, 0, none⟩) ts.length cR9) (mixF (c.sb ts.length h) (c.sb ts.length (h + 1)) ts.length (i + 1)), rown intEnc 3 1 b0 (.slice (some ⟨gR10, 0, none⟩) ts.length cR11) (mixF (c.se ts.length h) (c.se ts.length (h + 1)) ts.length (i + 1)), rown boEnc 4 1 b0 (.slice (some ⟨gR12, 0, none⟩) ts.length cR13) (mixF (c.sB ts.length h) (c.sB ts.length (h + 1)) ts.length (i + 1)), rown boEnc 4 1 b0 (.slice (some ⟨gR14, 0, none⟩) ts.length cR15) (mixF (c.sD ts.length h) (c.sD ts.length (h + 1)) ts.length (i + 1)), rbox gc 51 #[.slice ah lh.length cah, .slice aw lw.length caw, .slice af lf.length caf, .slice ak rows.length cak], rbox gj 25 #[.slice aM ms.length cM, .slice aT ts.length cT], rrwsl lo3 hi3 rows, rsl vEncS 1 lo3 hi3 (.slice ak rows.length cak) (rows.map (·.1)), rsl intEnc 1 lo3 hi3 (.slice af lf.length caf) lf, rsl intEnc 1 lo3 hi3 (.slice aw lw.length caw) lw, rsl intEnc 1 lo3 hi3 (.slice ah lh.length cah) lh, rafs lo hi ts, rsl tskEnc 8 lo hi (.slice aT ts.length cT) ts, rsl mchEnc 3 lo hi (.slice aM ms.length cM) ms] _ := F100.pick [2, 3, 4, 0, 5, 1, 6, 7, 8, 9, 10, 11, 12, 13, 14, 15] (by decide) rfl
            clear F100
            (first | refine ⟨by kernel_rfl, ?_, ?_⟩ | refine ⟨rfl, ?_, ?_⟩ | refine ⟨?_, ?_⟩)
            · rw [HI1.out]; exact ⟨i + 1, (by first | kernel_rfl | rfl), (by first | kernel_rfl | rfl), (by first | kernel_rfl | rfl), (by show Value.int .i64 ((i : Int) + 1) = _; simp), (by omega), (by first | rfl | simp), F101⟩
            · simp [slot, intOf]; omega
          · skip
            have c84a : ((c.sl ts.length h i) == 0) = false := beq_f c84
            have c84b : ((c.sl ts.length h i) != 0) = true := bne_t c84
            have c84H := Lib.hid c84
            clear c84
            have b102 := F81.bx11 0 rfl
            have ge103 : World.cell? _ ⟨gR12, i, none⟩ = some (.bool true) := (by simpa using (Own.sl (F81.at 4 rfl : Own boEnc 4 1 b0 _ (.slice (some ⟨gR12, 0, none⟩) ts.length cR13) (mixF (c.sB ts.length h) (c.sB ts.length (h + 1)) ts.length (i + 1))) (fun _ => rfl)).cells hz82.out 0 _ rfl)
            have gl104 := cell_lt ge103
            have ge105 : World.cell? _ ⟨gR14, i, none⟩ = some (.bool (c.sD ts.length h i)) := (by simpa using (Own.sl (F81.at 5 rfl : Own boEnc 4 1 b0 _ (.slice (some ⟨gR14, 0, none⟩) ts.length cR15) (mixF (c.sD ts.length h) (c.sD ts.length (h + 1)) ts.length i)) (fun _ => rfl)).cells hz19.out 0 _ rfl)
            have gl106 := cell_lt ge105
            have ge107 : World.cell? _ ⟨gR6, i, none⟩ = some (.int .i64 (c.sl ts.length h i)) := (by simpa using (Own.sl (F81.at 1 rfl : Own intEnc 3 1 b0 _ (.slice (some ⟨gR6, 0, none⟩) ts.length cR7) (rowF (c.sl ts.length h) ts.length)) (fun _ => rfl)).cells hz20.out 0 _ rfl)
            have gl108 := cell_lt ge107
            go_wp2_with fail
            clear b102 ge103 gl104 ge105 gl106 ge107 gl108
            clear b78 ge79 gl80
            go_wp2_with fail
            rw [mixF_keep (F := (c.sD ts.length h)) (G := (c.sD ts.length (h + 1))) (N := ts.length) (i := i) (sD_k (.inr (fun h_ => c84H.out ((HSO.out.done (i := i) (by omega) (by omega) (by have h_ := sB_a c21H.out; omega)).2 h_))))] at F81
            rw [mixF_keep (F := (c.se ts.length h)) (G := (c.se ts.length (h + 1))) (N := ts.length) (i := i) (se_k (.inr (fun h_ => c84H.out ((HSO.out.done (i := i) (by omega) (by omega) (by have h_ := sB_a c21H.out; omega)).2 h_))))] at F81
            (skip)
            (first | refine ⟨by kernel_rfl, ?_, ?_⟩ | refine ⟨rfl, ?_, ?_⟩ | refine ⟨?_, ?_⟩)
            · rw [HI1.out]; exact ⟨i + 1, (by first | kernel_rfl | rfl), (by first | kernel_rfl | rfl), (by first | kernel_rfl | rfl), (by show Value.int .i64 ((i : Int) + 1) = _; simp), (by omega), (by first | rfl | simp), F81⟩
            · simp [slot, intOf]; omega
        · skip
          have c83H := Lib.hid c83
          have b109 := F81.bx11 0 rfl
          have ge110 : World.cell? _ ⟨gR12, i, none⟩ = some (.bool true) := (by simpa using (Own.sl (F81.at 4 rfl : Own boEnc 4 1 b0 _ (.slice (some ⟨gR12, 0, none⟩) ts.length cR13) (mixF (c.sB ts.length h) (c.sB ts.length (h + 1)) ts.length (i + 1))) (fun _ => rfl)).cells hz82.out 0 _ rfl)
          have gl111 := cell_lt ge110
          have ge112 : World.cell? _ ⟨gR14, i, none⟩ = some (.bool (c.sD ts.length h i)) := (by simpa using (Own.sl (F81.at 5 rfl : Own boEnc 4 1 b0 _ (.slice (some ⟨gR14, 0, none⟩) ts.length cR15) (mixF (c.sD ts.length h) (c.sD ts.length (h + 1)) ts.length i)) (fun _ => rfl)).cells hz19.out 0 _ rfl)
          have gl113 := cell_lt ge112
          go_wp2_with fail
          clear b109 ge110 gl111 ge112 gl113
          clear b78 ge79 gl80
          go_wp2_with fail
          rw [mixF_keep (F := (c.sD ts.length h)) (G := (c.sD ts.length (h + 1))) (N := ts.length) (i := i) (sD_k (.inl (sD_a c83H.out)))] at F81
          rw [mixF_keep (F := (c.se ts.length h)) (G := (c.se ts.length (h + 1))) (N := ts.length) (i := i) (se_k (.inl (sD_a c83H.out)))] at F81
          (skip)
          (first | refine ⟨by kernel_rfl, ?_, ?_⟩ | refine ⟨rfl, ?_, ?_⟩ | refine ⟨?_, ?_⟩)
          · rw [HI1.out]; exact ⟨i + 1, (by first | kernel_rfl | rfl), (by first | kernel_rfl | rfl), (by first | kernel_rfl | rfl), (by show Value.int .i64 ((i : Int) + 1) = _; simp), (by omega), (by first | rfl | simp), F81⟩
          · simp [slot, intOf]; omega
    · skip
      have c5H := Lib.hid c5
      have c5a : decide ((i : Int) < (ts.length : Int)) = false := dec_f c5
      have b114 := hF2.bx11 0 rfl
      go_wp2_with fail
      clear b114
      have F115 : Bun w0 [rbox g 58 #[.slice aM ms.length cM, .slice aT ts.length cT, .slice ah lh.length cah, .slice aw lw.length caw, .slice af lf.length caf, .slice ak rows.length cak, vl, vb, ve, vB, vD], rown intEnc 3 1 b0 vl (rowF (c.sl ts.length h) ts.length), rown intEnc 3 1 b0 vb (mixF (c.sb ts.length h) (c.sb ts.length (h + 1)) ts.length i), rown intEnc 3 1 b0 ve (mixF (c.se ts.length h) (c.se ts.length (h + 1)) ts.length i), rown boEnc 4 1 b0 vB (mixF (c.sB ts.length h) (c.sB ts.length (h + 1)) ts.length i), rown boEnc 4 1 b0 vD (mixF (c.sD ts.length h) (c.sD ts.length (h + 1)) ts.length i), rbox gc 51 #[.slice ah lh.length cah, .slice aw lw.length caw, .slice af lf.length caf, .slice ak rows.length cak], rbox gj 25 #[.slice aM ms.length cM, .slice aT ts.length cT], rrwsl lo3 hi3 rows, rsl vEncS 1 lo3 hi3 (.slice ak rows.length cak) (rows.map (·.1)), rsl intEnc 1 lo3 hi3 (.slice af lf.length caf) lf, rsl intEnc 1 lo3 hi3 (.slice aw lw.length caw) lw, rsl intEnc 1 lo3 hi3 (.slice ah lh.length cah) lh, rafs lo hi ts, rsl tskEnc 8 lo hi (.slice aT ts.length cT) ts, rsl mchEnc 3 lo hi (.slice aM ms.length cM) ms] _ := hF2
      clear hF2
      rw [mix_rowF (f := c.sb ts.length h) (g := c.sb ts.length (h + 1)) (show i = ts.length by omega), mix_rowF (f := c.se ts.length h) (g := c.se ts.length (h + 1)) (show i = ts.length by omega), mix_rowF (f := c.sB ts.length h) (g := c.sB ts.length (h + 1)) (show i = ts.length by omega), mix_rowF (f := c.sD ts.length h) (g := c.sD ts.length (h + 1)) (show i = ts.length by omega), rowF_mix (c.sl ts.length h) (c.sl ts.length (h + 1))] at F115
      (skip)
      obtain ⟨HI116_, HI1160⟩ : ∃ I : (Nat → Value) → List Deferred → World → Prop, I = (fun t ds wr => ∃ (q : Nat), t 0 = .pointer (some ⟨g, 0, none⟩) ∧ t 1 = .int .i64 (h : Int) ∧ t 2 = .int .i64 (c.nd : Int) ∧ t 7 = .int .i64 (q : Int) ∧ q ≤ ts.length ∧ ds = [] ∧ Bun w0 [rbox g 58 #[.slice aM ms.length cM, .slice aT ts.length cT, .slice ah lh.length cah, .slice aw lw.length caw, .slice af lf.length caf, .slice ak rows.length cak, vl, vb, ve, vB, vD], rown intEnc 3 1 b0 vl (mixF (c.sl ts.length h) (c.sl ts.length (h + 1)) ts.length q), rown intEnc 3 1 b0 vb (rowF (c.sb ts.length (h + 1)) ts.length), rown intEnc 3 1 b0 ve (rowF (c.se ts.length (h + 1)) ts.length), rown boEnc 4 1 b0 vB (rowF (c.sB ts.length (h + 1)) ts.length), rown boEnc 4 1 b0 vD (rowF (c.sD ts.length (h + 1)) ts.length), rbox gc 51 #[.slice ah lh.length cah, .slice aw lw.length caw, .slice af lf.length caf, .slice ak rows.length cak], rbox gj 25 #[.slice aM ms.length cM, .slice aT ts.length cT], rrwsl lo3 hi3 rows, rsl vEncS 1 lo3 hi3 (.slice ak rows.length cak) (rows.map (·.1)), rsl intEnc 1 lo3 hi3 (.slice af lf.length caf) lf, rsl intEnc 1 lo3 hi3 (.slice aw lw.length caw) lw, rsl intEnc 1 lo3 hi3 (.slice ah lh.length cah) lh, rafs lo hi ts, rsl tskEnc 8 lo hi (.slice aT ts.length cT) ts, rsl mchEnc 3 lo hi (.slice aM ms.length cM) ms] wr) := ⟨_, rfl⟩
      have HI116 := Lib.hid HI1160
      clear HI1160
      refine wp_loopS 165 rfl HI116_ (fun t wr => ts.length - (intOf (t 7)).toNat) ?atStart2 ?round2
      case round2 =>
        intro t ds wr hHid
        rw [HI116.out] at hHid
        obtain ⟨q, e0, e1, e2, e7, hrel⟩ := hHid
        have e : ((List.range 165).map t).toArray = #[t 0, t 1, t 2, t 3, t 4, t 5, t 6, t 7, t 8, t 9, t 10, t 11, t 12, t 13, t 14, t 15, t 16, t 17, t 18, t 19, t 20, t 21, t 22, t 23, t 24, t 25, t 26, t 27, t 28, t 29, t 30, t 31, t 32, t 33, t 34, t 35, t 36, t 37, t 38, t 39, t 40, t 41, t 42, t 43, t 44, t 45, t 46, t 47, t 48, t 49, t 50, t 51, t 52, t 53, t 54, t 55, t 56, t 57, t 58, t 59, t 60, t 61, t 62, t 63, t 64, t 65, t 66, t 67, t 68, t 69, t 70, t 71, t 72, t 73, t 74, t 75, t 76, t 77, t 78, t 79, t 80, t 81, t 82, t 83, t 84, t 85, t 86, t 87, t 88, t 89, t 90, t 91, t 92, t 93, t 94, t 95, t 96, t 97, t 98, t 99, t 100, t 101, t 102, t 103, t 104, t 105, t 106, t 107, t 108, t 109, t 110, t 111, t 112, t 113, t 114, t 115, t 116, t 117, t 118, t 119, t 120, t 121, t 122, t 123, t 124, t 125, t 126, t 127, t 128, t 129, t 130, t 131, t 132, t 133, t 134, t 135, t 136, t 137, t 138, t 139, t 140, t 141, t 142, t 143, t 144, t 145, t 146, t 147, t 148, t 149, t 150, t 151, t 152, t 153, t 154, t 155, t 156, t 157, t 158, t 159, t 160, t 161, t 162, t 163, t 164] := rfl
        (try dsimp only at e)
        rw [e0, e1, e2, e7] at e
        rw [e]
        simp only [e7]
        clear e e0 e1 e2 e7
        obtain ⟨hq_, rfl, hF117⟩ := hrel
        clear F115
        obtain ⟨w119, rfl⟩ : ∃ x_ : World, x_ = wr := ⟨_, rfl⟩
        by_cases c120 : (q : Int) < (ts.length : Int)
        · skip
          have c120H := Lib.hid c120
          obtain ⟨gR121, cR122, e_⟩ := Own.opnN (hF117.at 1 rfl : Own intEnc 3 1 b0 _ vl (mixF (c.sl ts.length h) (c.sl ts.length (h + 1)) ts.length q)) (n := ts.length) (by simp [mixF, rowF]) (by omega)
          subst e_
          have gR121l := (hF117.ltAt 1 rfl _ rfl).1
          obtain ⟨gR123, cR124, e_⟩ := Own.opnN (hF117.at 2 rfl : Own intEnc 3 1 b0 _ vb (rowF (c.sb ts.length (h + 1)) ts.length)) (n := ts.length) (by simp [mixF, rowF]) (by omega)
          subst e_
          have gR123l := (hF117.ltAt 2 rfl _ rfl).1
          obtain ⟨gR125, cR126, e_⟩ := Own.opnN (hF117.at 3 rfl : Own intEnc 3 1 b0 _ ve (rowF (c.se ts.length (h + 1)) ts.length)) (n := ts.length) (by simp [mixF, rowF]) (by omega)
          subst e_
          have gR125l := (hF117.ltAt 3 rfl _ rfl).1
          obtain ⟨gR127, cR128, e_⟩ := Own.opnN (hF117.at 4 rfl : Own boEnc 4 1 b0 _ vB (rowF (c.sB ts.length (h + 1)) ts.length)) (n := ts.length) (by simp [mixF, rowF]) (by omega)
          subst e_
          have gR127l := (hF117.ltAt 4 rfl _ rfl).1
          obtain ⟨gR129, cR130, e_⟩ := Own.opnN (hF117.at 5 rfl : Own boEnc 4 1 b0 _ vD (rowF (c.sD ts.length (h + 1)) ts.length)) (n := ts.length) (by simp [mixF, rowF]) (by omega)
          subst e_
          have gR129l := (hF117.ltAt 5 rfl _ rfl).1
          have hz131 : Hid ((rowF (c.sb ts.length (h + 1)) ts.length)[q]? = some (c.sb ts.length (h + 1) q)) := Lib.hid (rowF_get (by omega))
          have hz132 : Hid ((rowF (c.se ts.length (h + 1)) ts.length)[q]? = some (c.se ts.length (h + 1) q)) := Lib.hid (rowF_get (by omega))
          have hz133 : Hid ((rowF (c.sB ts.length (h + 1)) ts.length)[q]? = some (c.sB ts.length (h + 1) q)) := Lib.hid (rowF_get (by omega))
          have hz134 : Hid ((rowF (c.sD ts.length (h + 1)) ts.length)[q]? = some (c.sD ts.length (h + 1) q)) := Lib.hid (rowF_get (by omega))
          have hz135 : Hid ((mixF (c.sl ts.length h) (c.sl ts.length (h + 1)) ts.length q)[q]? = some (c.sl ts.length h q)) := Lib.hid ((mixF_get (by omega)).trans (by rw [if_neg (Nat.lt_irrefl _)]))
          have hbi := HSO.out.bg_bd (i := q) (by omega)
          have hei := HSO.out.en_bd (i := q) (by omega)
          have hslb := HSO.out.sl_bd (i := q) (h := h)
          have hhob := HCO.out.ho q
          by_cases c136 : (h : Int) < 24 * (c.nd : Int)
          · skip
            have c136H := Lib.hid c136
            obtain ⟨x137, o138, e_⟩ := Sl.addr (hF117.at 14 rfl : Sl tskEnc 8 lo hi _ (.slice aT ts.length cT) ts) (by omega)
            subst e_
            obtain ⟨z, hz139_⟩ : ∃ z_, ts[q]? = some z_ := ⟨_, List.getElem?_eq_getElem (by omega)⟩
            have hz139 := Lib.hid hz139_
            clear hz139_
            obtain ⟨a_z, c_z, hav_z, hcap_z, hsl_z⟩ := Afs.open (hF117.at 13 rfl : Afs lo hi _ ts) hz139.out
            have HAV_z := Lib.hid hav_z
            clear hav_z
            have F140 := hF117.more 13 (rsl intEnc 1 lo hi (.slice a_z z.af.length c_z) z.af) rfl rfl rfl (fun _ h_ => h_) hsl_z
            clear hF117
            have hm_z := (F140.at 0 rfl : Sl intEnc 1 lo hi _ (.slice a_z z.af.length c_z) z.af).len
            unfold maxLen at hm_z
            have HZM : Hid (z.m = c.m q) := Lib.hid (by rw [HCS.out.m, tk_get hz139.out])
            have hzm := HTM.out q z hz139.out
            have hzl : z.m < (ms.length : Int) := hzm.2
            have hzt : ((z.m.toNat : Nat) : Int) = z.m := Int.toNat_of_nonneg hzm.1
            obtain ⟨x141, o142, e_⟩ := Sl.addr (F140.at 16 rfl : Sl mchEnc 3 lo hi _ (.slice aM ms.length cM) ms) (by omega)
            subst e_
            obtain ⟨x, hx_⟩ : ∃ x_, ms[z.m.toNat]? = some x_ := ⟨_, List.getElem?_eq_getElem (by omega)⟩
            have hsh_ : x.shift = c.sh z.m := by rw [HCS.out.sh, mc_get hx_]
            have hz143 : Hid (ms[z.m.toNat]? = some x) := Lib.hid (hx_)
            have HSH := Lib.hid hsh_
            clear hsh_
            obtain ⟨x144, o145, e_⟩ := Sl.addr (F140.at 10 rfl : Sl vEncS 1 lo3 hi3 _ (.slice ak rows.length cak) (rows.map (·.1))) (by have h_ := HL.out; simp; omega)
            subst e_
            obtain ⟨r, hr_⟩ : ∃ r_, rows[z.m.toNat]? = some r_ := ⟨_, List.getElem?_eq_getElem (by have h_ := HL.out; omega)⟩
            have hrr_ := (F140.at 9 rfl : Rwsl lo3 hi3 _ rows) r (List.mem_of_getElem? hr_)
            obtain ⟨ar, cr, hrv_⟩ := hrr_.any
            have HRV := Lib.hid hrv_
            have HRM := Lib.hid (HRS.out r (List.mem_of_getElem? hr_))
            have HRL : Hid (r.2.length = c.nd ∧ ∀ d, d < c.nd → r.2.getD d false = c.wk z.m d) := Lib.hid (by have h_ := HCS.out.rl z.m.toNat r.2 (by rw [List.getElem?_map, hr_]; rfl); rwa [hzt] at h_)
            have F146 := F140.more 9 (rsl boEnc 1 lo3 hi3 (.slice ar r.2.length cr) r.2) rfl rfl rfl (fun _ h_ => h_) (hrv_ ▸ hrr_)
            clear F140
            have HRX := Lib.hid hr_
            clear hrr_ hrv_ hr_
            have hq2_ : h / 24 < r.2.length := by have h_ := HRL.out.1; omega
            obtain ⟨x147, o148, e_⟩ := Sl.addr (F146.at 0 rfl : Sl boEnc 1 lo3 hi3 _ (.slice ar r.2.length cr) r.2) (by omega)
            subst e_
            have hz149 : Hid ((rows.map (·.1))[z.m.toNat]? = some (.slice (some ⟨x147, o148, none⟩) r.2.length cr)) := Lib.hid (by rw [List.getElem?_map, HRX.out, Option.map_some, HRV.out])
            have hb_cwk2 : z.m < (rows.length : Int) := by have h_ := HL.out; omega
            have hdv_ : Int.tdiv (h : Int) 24 = ((h / 24 : Nat) : Int) := by rw [Int.tdiv_eq_ediv_of_nonneg (by omega)]; rfl
            have hdw_ : IntKind.i64.wrap ((h / 24 : Nat) : Int) = ((h / 24 : Nat) : Int) := IntWalk.i64_in _ (by omega)
            have hdm_ : Int.tmod (h : Int) 24 = ((h % 24 : Nat) : Int) := by rw [Int.tmod_eq_emod_of_nonneg (by omega)]; rfl
            have hdx_ : IntKind.i64.wrap ((h % 24 : Nat) : Int) = ((h % 24 : Nat) : Int) := IntWalk.i64_in _ (by omega)
            have hdy_ : ((h / 24 : Nat) : Int) < (r.2.length : Int) := by omega
            obtain ⟨zb, hz150_⟩ : ∃ z_, r.2[h / 24]? = some z_ := ⟨_, List.getElem?_eq_getElem (by omega)⟩
            have hz150 := Lib.hid hz150_
            clear hz150_
            have HWH := Lib.hid (wh_of HRL.out.1 HRL.out.2 (show h < 24 * c.nd by omega) hz150.out)
            cases c151 : (c.sB ts.length (h + 1) q)
            · skip
              have c151H := Lib.hid c151
              have b152 := F146.bx11 2 rfl
              have ge153 : World.cell? _ ⟨x137, o138 + q * 8, none⟩ = some (.int .i64 z.m) := (((F146.at 16 rfl : Sl tskEnc 8 lo hi _ (.slice (some ⟨x137, o138, none⟩) ts.length cT) ts)).cells hz139.out 0 _ rfl)
              have gl154 := cell_lt ge153
              have ge155 : World.cell? _ ⟨gR127, q, none⟩ = some (.bool (c.sB ts.length (h + 1) q)) := (by simpa using (Own.sl (F146.at 6 rfl : Own boEnc 4 1 b0 _ (.slice (some ⟨gR127, 0, none⟩) ts.length cR128) (rowF (c.sB ts.length (h + 1)) ts.length)) (fun _ => rfl)).cells hz133.out 0 _ rfl)
              have gl156 := cell_lt ge155
              go_wp2_with fail
              clear b152 ge153 gl154 ge155 gl156
              go_wp2_with fail
              have F157 : Bun w0 [rsl boEnc 1 lo3 hi3 (.slice (some ⟨x147, o148, none⟩) r.2.length cr) r.2, rsl intEnc 1 lo hi (.slice a_z z.af.length c_z) z.af, rbox g 58 #[.slice (some ⟨x141, o142, none⟩) ms.length cM, .slice (some ⟨x137, o138, none⟩) ts.length cT, .slice ah lh.length cah, .slice aw lw.length caw, .slice af lf.length caf, .slice (some ⟨x144, o145, none⟩) rows.length cak, .slice (some ⟨gR121, 0, none⟩) ts.length cR122, .slice (some ⟨gR123, 0, none⟩) ts.length cR124, .slice (some ⟨gR125, 0, none⟩) ts.length cR126, .slice (some ⟨gR127, 0, none⟩) ts.length cR128, .slice (some ⟨gR129, 0, none⟩) ts.length cR130], rown intEnc 3 1 b0 (.slice (some ⟨gR121, 0, none⟩) ts.length cR122) (mixF (c.sl ts.length h) (c.sl ts.length (h + 1)) ts.length q), rown intEnc 3 1 b0 (.slice (some ⟨gR123, 0, none⟩) ts.length cR124) (rowF (c.sb ts.length (h + 1)) ts.length), rown intEnc 3 1 b0 (.slice (some ⟨gR125, 0, none⟩) ts.length cR126) (rowF (c.se ts.length (h + 1)) ts.length), rown boEnc 4 1 b0 (.slice (some ⟨gR127, 0, none⟩) ts.length cR128) (rowF (c.sB ts.length (h + 1)) ts.length), rown boEnc 4 1 b0 (.slice (some ⟨gR129, 0, none⟩) ts.length cR130) (rowF (c.sD ts.length (h + 1)) ts.length), rbox gc 51 #[.slice ah lh.length cah, .slice aw lw.length caw, .slice af lf.length caf, .slice (some ⟨x144, o145, none⟩) rows.length cak], rbox gj 25 #[.slice (some ⟨x141, o142, none⟩) ms.length cM, .slice (some ⟨x137, o138, none⟩) ts.length cT], rrwsl lo3 hi3 rows, rsl vEncS 1 lo3 hi3 (.slice (some ⟨x144, o145, none⟩) rows.length cak) (rows.map (·.1)), rsl intEnc 1 lo3 hi3 (.slice af lf.length caf) lf, rsl intEnc 1 lo3 hi3 (.slice aw lw.length caw) lw, rsl intEnc 1 lo3 hi3 (.slice ah lh.length cah) lh, rafs lo hi ts, rsl tskEnc 8 lo hi (.slice (some ⟨x137, o138, none⟩) ts.length cT) ts, rsl mchEnc 3 lo hi (.slice (some ⟨x141, o142, none⟩) ms.length cM) ms] _ := F146
              clear F146
              rw [mixF_keep (F := (c.sl ts.length h)) (G := (c.sl ts.length (h + 1))) (N := ts.length) (i := q) ((HSO.out.sl_idle (by omega) (.inl (by have h_ := sB_b c151H.out; omega))).symm)] at F157
              (skip)
              have F158 : Bun w0 [rbox g 58 #[.slice (some ⟨x141, o142, none⟩) ms.length cM, .slice (some ⟨x137, o138, none⟩) ts.length cT, .slice ah lh.length cah, .slice aw lw.length caw, .slice af lf.length caf, .slice (some ⟨x144, o145, none⟩) rows.length cak, .slice (some ⟨gR121, 0, none⟩) ts.length cR122, .slice (some ⟨gR123, 0, none⟩) ts.length cR124, .slice (some ⟨gR125, 0, none⟩) ts.length cR126, .slice (some ⟨gR127, 0, none⟩) ts.length cR128, .slice (some ⟨gR129, 0, none⟩) ts.length cR130], rown intEnc 3 1 b0 (.slice (some ⟨gR121, 0, none⟩) ts.length cR122) (mixF (c.sl ts.length h) (c.sl ts.length (h + 1)) ts.length (q + 1)), rown intEnc 3 1 b0 (.slice (some ⟨gR123, 0, none⟩) ts.length cR124) (rowF (c.sb ts.length (h + 1)) ts.length), rown intEnc 3 1 b0 (.slice (some ⟨gR125, 0, none⟩) ts.length cR126) (rowF (c.se ts.length (h + 1)) ts.length), rown boEnc 4 1 b0 (.slice (some ⟨gR127, 0, none⟩) ts.length cR128) (rowF (c.sB ts.length (h + 1)) ts.length), rown boEnc 4 1 b0 (.slice (some ⟨gR129, 0, none⟩) ts.length cR130) (rowF (c.sD ts.length (h + 1)) ts.length), rbox gc 51 #[.slice ah lh.length cah, .slice aw lw.length caw, .slice af lf.length caf, .slice (some ⟨x144, o145, none⟩) rows.length cak], rbox gj 25 #[.slice (some ⟨x141, o142, none⟩) ms.length cM, .slice (some ⟨x137, o138, none⟩) ts.length cT], rrwsl lo3 hi3 rows, rsl vEncS 1 lo3 hi3 (.slice (some ⟨x144, o145, none⟩) rows.length cak) (rows.map (·.1)), rsl intEnc 1 lo3 hi3 (.slice af lf.length caf) lf, rsl intEnc 1 lo3 hi3 (.slice aw lw.length caw) lw, rsl intEnc 1 lo3 hi3 (.slice ah lh.length cah) lh, rafs lo hi ts, rsl tskEnc 8 lo hi (.slice (some ⟨x137, o138, none⟩) ts.length cT) ts, rsl mchEnc 3 lo hi (.slice (some ⟨x141, o142, none⟩) ms.length cM) ms] _ := F157.pick [2, 3, 4, 5, 6, 7, 8, 9, 10, 11, 12, 13, 14, 15, 16, 17] (by decide) rfl
              clear F157
              (first | refine ⟨by kernel_rfl, ?_, ?_⟩ | refine ⟨rfl, ?_, ?_⟩ | refine ⟨?_, ?_⟩)
              · rw [HI116.out]; exact ⟨q + 1, (by first | kernel_rfl | rfl), (by first | kernel_rfl | rfl), (by first | kernel_rfl | rfl), (by show Value.int .i64 ((q : Int) + 1) = _; simp), (by omega), (by first | rfl | simp), F158⟩
              · simp [slot, intOf]; omega
            · skip
              have c151H := Lib.hid c151
              cases c159 : (c.sD ts.length (h + 1) q)
              · skip
                have c159H := Lib.hid c159
                cases c160 : zb
                · skip
                  have c160H := Lib.hid c160
                  have b161 := F146.bx11 2 rfl
                  have ge162 : World.cell? _ ⟨x137, o138 + q * 8, none⟩ = some (.int .i64 z.m) := (((F146.at 16 rfl : Sl tskEnc 8 lo hi _ (.slice (some ⟨x137, o138, none⟩) ts.length cT) ts)).cells hz139.out 0 _ rfl)
                  have gl163 := cell_lt ge162
                  have ge164 : World.cell? _ ⟨gR127, q, none⟩ = some (.bool (c.sB ts.length (h + 1) q)) := (by simpa using (Own.sl (F146.at 6 rfl : Own boEnc 4 1 b0 _ (.slice (some ⟨gR127, 0, none⟩) ts.length cR128) (rowF (c.sB ts.length (h + 1)) ts.length)) (fun _ => rfl)).cells hz133.out 0 _ rfl)
                  have gl165 := cell_lt ge164
                  have ge166 : World.cell? _ ⟨gR129, q, none⟩ = some (.bool (c.sD ts.length (h + 1) q)) := (by simpa using (Own.sl (F146.at 7 rfl : Own boEnc 4 1 b0 _ (.slice (some ⟨gR129, 0, none⟩) ts.length cR130) (rowF (c.sD ts.length (h + 1)) ts.length)) (fun _ => rfl)).cells hz134.out 0 _ rfl)
                  have gl167 := cell_lt ge166
                  have ge168 : World.cell? _ ⟨x144, o145 + z.m.toNat, none⟩ = some (.slice (some ⟨x147, o148, none⟩) r.2.length cr) := (by have h_ := ((F146.at 11 rfl : Sl vEncS 1 lo3 hi3 _ (.slice (some ⟨x144, o145, none⟩) rows.length cak) (rows.map (·.1)))).cells hz149.out 0 _ rfl; simpa [sliceB] using h_)
                  have gl169 := cell_lt ge168
                  have ge170 : World.cell? _ ⟨x147, o148 + (h / 24), none⟩ = some (.bool zb) := (by have h_ := ((F146.at 0 rfl : Sl boEnc 1 lo3 hi3 _ (.slice (some ⟨x147, o148, none⟩) r.2.length cr) r.2)).cells hz150.out 0 _ rfl; simpa using h_)
                  have gl171 := cell_lt ge170
                  go_wp2_with fail
                  clear b161 ge162 gl163 ge164 gl165 ge166 gl167 ge168 gl169 ge170 gl171
                  go_wp2_with fail
                  have F172 : Bun w0 [rsl boEnc 1 lo3 hi3 (.slice (some ⟨x147, o148, none⟩) r.2.length cr) r.2, rsl intEnc 1 lo hi (.slice a_z z.af.length c_z) z.af, rbox g 58 #[.slice (some ⟨x141, o142, none⟩) ms.length cM, .slice (some ⟨x137, o138, none⟩) ts.length cT, .slice ah lh.length cah, .slice aw lw.length caw, .slice af lf.length caf, .slice (some ⟨x144, o145, none⟩) rows.length cak, .slice (some ⟨gR121, 0, none⟩) ts.length cR122, .slice (some ⟨gR123, 0, none⟩) ts.length cR124, .slice (some ⟨gR125, 0, none⟩) ts.length cR126, .slice (some ⟨gR127, 0, none⟩) ts.length cR128, .slice (some ⟨gR129, 0, none⟩) ts.length cR130], rown intEnc 3 1 b0 (.slice (some ⟨gR121, 0, none⟩) ts.length cR122) (mixF (c.sl ts.length h) (c.sl ts.length (h + 1)) ts.length q), rown intEnc 3 1 b0 (.slice (some ⟨gR123, 0, none⟩) ts.length cR124) (rowF (c.sb ts.length (h + 1)) ts.length), rown intEnc 3 1 b0 (.slice (some ⟨gR125, 0, none⟩) ts.length cR126) (rowF (c.se ts.length (h + 1)) ts.length), rown boEnc 4 1 b0 (.slice (some ⟨gR127, 0, none⟩) ts.length cR128) (rowF (c.sB ts.length (h + 1)) ts.length), rown boEnc 4 1 b0 (.slice (some ⟨gR129, 0, none⟩) ts.length cR130) (rowF (c.sD ts.length (h + 1)) ts.length), rbox gc 51 #[.slice ah lh.length cah, .slice aw lw.length caw, .slice af lf.length caf, .slice (some ⟨x144, o145, none⟩) rows.length cak], rbox gj 25 #[.slice (some ⟨x141, o142, none⟩) ms.length cM, .slice (some ⟨x137, o138, none⟩) ts.length cT], rrwsl lo3 hi3 rows, rsl vEncS 1 lo3 hi3 (.slice (some ⟨x144, o145, none⟩) rows.length cak) (rows.map (·.1)), rsl intEnc 1 lo3 hi3 (.slice af lf.length caf) lf, rsl intEnc 1 lo3 hi3 (.slice aw lw.length caw) lw, rsl intEnc 1 lo3 hi3 (.slice ah lh.length cah) lh, rafs lo hi ts, rsl tskEnc 8 lo hi (.slice (some ⟨x137, o138, none⟩) ts.length cT) ts, rsl mchEnc 3 lo hi (.slice (some ⟨x141, o142, none⟩) ms.length cM) ms] _ := F146
                  clear F146
                  rw [mixF_keep (F := (c.sl ts.length h)) (G := (c.sl ts.length (h + 1))) (N := ts.length) (i := q) (Eq.symm (by rw [HSO.out.sl_work (i := q) (h := h) (by omega) (by omega) (by have h_ := sB_a c151H.out; omega) (by have h_ := sD_b c159H.out; omega), if_neg (by rw [← HZM.out, HWH.out, c160H.out]; simp)]))] at F172
                  (skip)
                  have F173 : Bun w0 [rbox g 58 #[.slice (some ⟨x141, o142, none⟩) ms.length cM, .slice (some ⟨x137, o138, none⟩) ts.length cT, .slice ah lh.length cah, .slice aw lw.length caw, .slice af lf.length caf, .slice (some ⟨x144, o145, none⟩) rows.length cak, .slice (some ⟨gR121, 0, none⟩) ts.length cR122, .slice (some ⟨gR123, 0, none⟩) ts.length cR124, .slice (some ⟨gR125, 0, none⟩) ts.length cR126, .slice (some ⟨gR127, 0, none⟩) ts.length cR128, .slice (some ⟨gR129, 0, none⟩) ts.length cR130], rown intEnc 3 1 b0 (.slice (some ⟨gR121, 0, none⟩) ts.length cR122) (mixF (c.sl ts.length h) (c.sl ts.length (h + 1)) ts.length (q + 1)), rown intEnc 3 1 b0 (.slice (some ⟨gR123, 0, none⟩) ts.length cR124) (rowF (c.sb ts.length (h + 1)) ts.length), rown intEnc 3 1 b0 (.slice (some ⟨gR125, 0, none⟩) ts.length cR126) (rowF (c.se ts.length (h + 1)) ts.length), rown boEnc 4 1 b0 (.slice (some ⟨gR127, 0, none⟩) ts.length cR128) (rowF (c.sB ts.length (h + 1)) ts.length), rown boEnc 4 1 b0 (.slice (some ⟨gR129, 0, none⟩) ts.length cR130) (rowF (c.sD ts.length (h + 1)) ts.length), rbox gc 51 #[.slice ah lh.length cah, .slice aw lw.length caw, .slice af lf.length caf, .slice (some ⟨x144, o145, none⟩) rows.length cak], rbox gj 25 #[.slice (some ⟨x141, o142, none⟩) ms.length cM, .slice (some ⟨x137, o138, none⟩) ts.length cT], rrwsl lo3 hi3 rows, rsl vEncS 1 lo3 hi3 (.slice (some ⟨x144, o145, none⟩) rows.length cak) (rows.map (·.1)), rsl intEnc 1 lo3 hi3 (.slice af lf.length caf) lf, rsl intEnc 1 lo3 hi3 (.slice aw lw.length caw) lw, rsl intEnc 1 lo3 hi3 (.slice ah lh.length cah) lh, rafs lo hi ts, rsl tskEnc 8 lo hi (.slice (some ⟨x137, o138, none⟩) ts.length cT) ts, rsl mchEnc 3 lo hi (.slice (some ⟨x141, o142, none⟩) ms.length cM) ms] _ := F172.pick [2, 3, 4, 5, 6, 7, 8, 9, 10, 11, 12, 13, 14, 15, 16, 17] (by decide) rfl
                  clear F172
                  (first | refine ⟨by kernel_rfl, ?_, ?_⟩ | refine ⟨rfl, ?_, ?_⟩ | refine ⟨?_, ?_⟩)
                  · rw [HI116.out]; exact ⟨q + 1, (by first | kernel_rfl | rfl), (by first | kernel_rfl | rfl), (by first | kernel_rfl | rfl), (by show Value.int .i64 ((q : Int) + 1) = _; simp), (by omega), (by first | rfl | simp), F173⟩
                  · simp [slot, intOf]; omega
                · skip
                  have c160H := Lib.hid c160
                  by_cases c174 : (h : Int) % 24 < c.sh z.m
                  · skip
                    have c174H := Lib.hid c174
                    have b175 := F146.bx11 2 rfl
                    have ge176 : World.cell? _ ⟨x137, o138 + q * 8, none⟩ = some (.int .i64 z.m) := (((F146.at 16 rfl : Sl tskEnc 8 lo hi _ (.slice (some ⟨x137, o138, none⟩) ts.length cT) ts)).cells hz139.out 0 _ rfl)
                    have gl177 := cell_lt ge176
                    have ge178 : World.cell? _ ⟨gR127, q, none⟩ = some (.bool (c.sB ts.length (h + 1) q)) := (by simpa using (Own.sl (F146.at 6 rfl : Own boEnc 4 1 b0 _ (.slice (some ⟨gR127, 0, none⟩) ts.length cR128) (rowF (c.sB ts.length (h + 1)) ts.length)) (fun _ => rfl)).cells hz133.out 0 _ rfl)
                    have gl179 := cell_lt ge178
                    have ge180 : World.cell? _ ⟨gR129, q, none⟩ = some (.bool (c.sD ts.length (h + 1) q)) := (by simpa using (Own.sl (F146.at 7 rfl : Own boEnc 4 1 b0 _ (.slice (some ⟨gR129, 0, none⟩) ts.length cR130) (rowF (c.sD ts.length (h + 1)) ts.length)) (fun _ => rfl)).cells hz134.out 0 _ rfl)
                    have gl181 := cell_lt ge180
                    have ge182 : World.cell? _ ⟨x144, o145 + z.m.toNat, none⟩ = some (.slice (some ⟨x147, o148, none⟩) r.2.length cr) := (by have h_ := ((F146.at 11 rfl : Sl vEncS 1 lo3 hi3 _ (.slice (some ⟨x144, o145, none⟩) rows.length cak) (rows.map (·.1)))).cells hz149.out 0 _ rfl; simpa [sliceB] using h_)
                    have gl183 := cell_lt ge182
                    have ge184 : World.cell? _ ⟨x147, o148 + (h / 24), none⟩ = some (.bool zb) := (by have h_ := ((F146.at 0 rfl : Sl boEnc 1 lo3 hi3 _ (.slice (some ⟨x147, o148, none⟩) r.2.length cr) r.2)).cells hz150.out 0 _ rfl; simpa using h_)
                    have gl185 := cell_lt ge184
                    have ge186 : World.cell? _ ⟨x141, o142 + (z.m.toNat) * 3 + 2, none⟩ = some (.int .i64 (c.sh z.m)) := (by have h_ := ((F146.at 17 rfl : Sl mchEnc 3 lo hi _ (.slice (some ⟨x141, o142, none⟩) ms.length cM) ms)).cells hz143.out 2 _ rfl; rw [HSH.out] at h_; simpa using h_)
                    have ge187 : World.cell? _ ⟨gR121, q, none⟩ = some (.int .i64 (c.sl ts.length h q)) := (by simpa using (Own.sl (F146.at 3 rfl : Own intEnc 3 1 b0 _ (.slice (some ⟨gR121, 0, none⟩) ts.length cR122) (mixF (c.sl ts.length h) (c.sl ts.length (h + 1)) ts.length q)) (fun _ => rfl)).cells hz135.out 0 _ rfl)
                    have gl188 := cell_lt ge187
                    have ge189 : World.cell? _ ⟨gR121, q, none⟩ = some (.int .i64 (c.sl ts.length h q)) := (by simpa using (Own.sl (F146.at 3 rfl : Own intEnc 3 1 b0 _ (.slice (some ⟨gR121, 0, none⟩) ts.length cR122) (mixF (c.sl ts.length h) (c.sl ts.length (h + 1)) ts.length q)) (fun _ => rfl)).cells hz135.out 0 _ rfl)
                    have gl190 := cell_lt ge189
                    have ge191 : World.frozen? _ ⟨gR121, q, none⟩ = false := Own.live (F146.at 3 rfl : Own intEnc 3 1 b0 _ (.slice (some ⟨gR121, 0, none⟩) ts.length cR122) (mixF (c.sl ts.length h) (c.sl ts.length (h + 1)) ts.length q)) _
                    have hne192 : ¬ gR121 = g := F146.neAt 3 2 rfl rfl (by decide) (.inl rfl) gR121 rfl
                    have hne192s : ¬ g = gR121 := fun e => hne192 e.symm
                    go_wp2_with fail
                    clear b175 ge176 gl177 ge178 gl179 ge180 gl181 ge182 gl183 ge184 gl185 ge186 ge187 gl188 ge189 gl190 ge191 hne192 hne192s
                    have F193 := Bun.setOwn (sz := 1) (fun _ => rfl) (F146.front 3 rfl rfl) hz135.out (y := (c.sl ts.length h q - 1)) (j := 0) (u := (.int .i64 (c.sl ts.length h q - 1))) (k := q) (by decide) rfl (by omega)
                    clear F146
                    go_wp2_with fail
                    have F194 : Bun w0 [rown intEnc 3 1 b0 (.slice (some ⟨gR121, 0, none⟩) ts.length cR122) ((mixF (c.sl ts.length h) (c.sl ts.length (h + 1)) ts.length q).set q (c.sl ts.length h q - 1)), rsl boEnc 1 lo3 hi3 (.slice (some ⟨x147, o148, none⟩) r.2.length cr) r.2, rsl intEnc 1 lo hi (.slice a_z z.af.length c_z) z.af, rbox g 58 #[.slice (some ⟨x141, o142, none⟩) ms.length cM, .slice (some ⟨x137, o138, none⟩) ts.length cT, .slice ah lh.length cah, .slice aw lw.length caw, .slice af lf.length caf, .slice (some ⟨x144, o145, none⟩) rows.length cak, .slice (some ⟨gR121, 0, none⟩) ts.length cR122, .slice (some ⟨gR123, 0, none⟩) ts.length cR124, .slice (some ⟨gR125, 0, none⟩) ts.length cR126, .slice (some ⟨gR127, 0, none⟩) ts.length cR128, .slice (some ⟨gR129, 0, none⟩) ts.length cR130], rown intEnc 3 1 b0 (.slice (some ⟨gR123, 0, none⟩) ts.length cR124) (rowF (c.sb ts.length (h + 1)) ts.length), rown intEnc 3 1 b0 (.slice (some ⟨gR125, 0, none⟩) ts.length cR126) (rowF (c.se ts.length (h + 1)) ts.length), rown boEnc 4 1 b0 (.slice (some ⟨gR127, 0, none⟩) ts.length cR128) (rowF (c.sB ts.length (h + 1)) ts.length), rown boEnc 4 1 b0 (.slice (some ⟨gR129, 0, none⟩) ts.length cR130) (rowF (c.sD ts.length (h + 1)) ts.length), rbox gc 51 #[.slice ah lh.length cah, .slice aw lw.length caw, .slice af lf.length caf, .slice (some ⟨x144, o145, none⟩) rows.length cak], rbox gj 25 #[.slice (some ⟨x141, o142, none⟩) ms.length cM, .slice (some ⟨x137, o138, none⟩) ts.length cT], rrwsl lo3 hi3 rows, rsl vEncS 1 lo3 hi3 (.slice (some ⟨x144, o145, none⟩) rows.length cak) (rows.map (·.1)), rsl intEnc 1 lo3 hi3 (.slice af lf.length caf) lf, rsl intEnc 1 lo3 hi3 (.slice aw lw.length caw) lw, rsl intEnc 1 lo3 hi3 (.slice ah lh.length cah) lh, rafs lo hi ts, rsl tskEnc 8 lo hi (.slice (some ⟨x137, o138, none⟩) ts.length cT) ts, rsl mchEnc 3 lo hi (.slice (some ⟨x141, o142, none⟩) ms.length cM) ms] _ := F193
                    clear F193
                    rw [mixF_set (F := (c.sl ts.length h)) (G := (c.sl ts.length (h + 1))) (N := ts.length) (i := q) (Eq.symm (by rw [HSO.out.sl_work (i := q) (h := h) (by omega) (by omega) (by have h_ := sB_a c151H.out; omega) (by have h_ := sD_b c159H.out; omega), if_pos (by rw [← HZM.out, HWH.out, c160H.out]; simp; have h_ := c174H.out; omega)]))] at F194
                    (skip)
                    have F195 : Bun w0 [rbox g 58 #[.slice (some ⟨x141, o142, none⟩) ms.length cM, .slice (some ⟨x137, o138, none⟩) ts.length cT, .slice ah lh.length cah, .slice aw lw.length caw, .slice af lf.length caf, .slice (some ⟨x144, o145, none⟩) rows.length cak, .slice (some ⟨gR121, 0, none⟩) ts.length cR122, .slice (some ⟨gR123, 0, none⟩) ts.length cR124, .slice (some ⟨gR125, 0, none⟩) ts.length cR126, .slice (some ⟨gR127, 0, none⟩) ts.length cR128, .slice (some ⟨gR129, 0, none⟩) ts.length cR130], rown intEnc 3 1 b0 (.slice (some ⟨gR121, 0, none⟩) ts.length cR122) (mixF (c.sl ts.length h) (c.sl ts.length (h + 1)) ts.length (q + 1)), rown intEnc 3 1 b0 (.slice (some ⟨gR123, 0, none⟩) ts.length cR124) (rowF (c.sb ts.length (h + 1)) ts.length), rown intEnc 3 1 b0 (.slice (some ⟨gR125, 0, none⟩) ts.length cR126) (rowF (c.se ts.length (h + 1)) ts.length), rown boEnc 4 1 b0 (.slice (some ⟨gR127, 0, none⟩) ts.length cR128) (rowF (c.sB ts.length (h + 1)) ts.length), rown boEnc 4 1 b0 (.slice (some ⟨gR129, 0, none⟩) ts.length cR130) (rowF (c.sD ts.length (h + 1)) ts.length), rbox gc 51 #[.slice ah lh.length cah, .slice aw lw.length caw, .slice af lf.length caf, .slice (some ⟨x144, o145, none⟩) rows.length cak], rbox gj 25 #[.slice (some ⟨x141, o142, none⟩) ms.length cM, .slice (some ⟨x137, o138, none⟩) ts.length cT], rrwsl lo3 hi3 rows, rsl vEncS 1 lo3 hi3 (.slice (some ⟨x144, o145, none⟩) rows.length cak) (rows.map (·.1)), rsl intEnc 1 lo3 hi3 (.slice af lf.length caf) lf, rsl intEnc 1 lo3 hi3 (.slice aw lw.length caw) lw, rsl intEnc 1 lo3 hi3 (.slice ah lh.length cah) lh, rafs lo hi ts, rsl tskEnc 8 lo hi (.slice (some ⟨x137, o138, none⟩) ts.length cT) ts, rsl mchEnc 3 lo hi (.slice (some ⟨x141, o142, none⟩) ms.length cM) ms] _ := F194.pick [3, 0, 4, 5, 6, 7, 8, 9, 10, 11, 12, 13, 14, 15, 16, 17] (by decide) rfl
                    clear F194
                    (first | refine ⟨by kernel_rfl, ?_, ?_⟩ | refine ⟨rfl, ?_, ?_⟩ | refine ⟨?_, ?_⟩)
                    · rw [HI116.out]; exact ⟨q + 1, (by first | kernel_rfl | rfl), (by first | kernel_rfl | rfl), (by first | kernel_rfl | rfl), (by show Value.int .i64 ((q : Int) + 1) = _; simp), (by omega), (by first | rfl | simp), F195⟩
                    · simp [slot, intOf]; omega
                  · skip
                    have c174H := Lib.hid c174
                    have c174a : decide ((h : Int) % 24 < c.sh z.m) = false := dec_f c174
                    have b196 := F146.bx11 2 rfl
                    have ge197 : World.cell? _ ⟨x137, o138 + q * 8, none⟩ = some (.int .i64 z.m) := (((F146.at 16 rfl : Sl tskEnc 8 lo hi _ (.slice (some ⟨x137, o138, none⟩) ts.length cT) ts)).cells hz139.out 0 _ rfl)
                    have gl198 := cell_lt ge197
                    have ge199 : World.cell? _ ⟨gR127, q, none⟩ = some (.bool (c.sB ts.length (h + 1) q)) := (by simpa using (Own.sl (F146.at 6 rfl : Own boEnc 4 1 b0 _ (.slice (some ⟨gR127, 0, none⟩) ts.length cR128) (rowF (c.sB ts.length (h + 1)) ts.length)) (fun _ => rfl)).cells hz133.out 0 _ rfl)
                    have gl200 := cell_lt ge199
                    have ge201 : World.cell? _ ⟨gR129, q, none⟩ = some (.bool (c.sD ts.length (h + 1) q)) := (by simpa using (Own.sl (F146.at 7 rfl : Own boEnc 4 1 b0 _ (.slice (some ⟨gR129, 0, none⟩) ts.length cR130) (rowF (c.sD ts.length (h + 1)) ts.length)) (fun _ => rfl)).cells hz134.out 0 _ rfl)
                    have gl202 := cell_lt ge201
                    have ge203 : World.cell? _ ⟨x144, o145 + z.m.toNat, none⟩ = some (.slice (some ⟨x147, o148, none⟩) r.2.length cr) := (by have h_ := ((F146.at 11 rfl : Sl vEncS 1 lo3 hi3 _ (.slice (some ⟨x144, o145, none⟩) rows.length cak) (rows.map (·.1)))).cells hz149.out 0 _ rfl; simpa [sliceB] using h_)
                    have gl204 := cell_lt ge203
                    have ge205 : World.cell? _ ⟨x147, o148 + (h / 24), none⟩ = some (.bool zb) := (by have h_ := ((F146.at 0 rfl : Sl boEnc 1 lo3 hi3 _ (.slice (some ⟨x147, o148, none⟩) r.2.length cr) r.2)).cells hz150.out 0 _ rfl; simpa using h_)
                    have gl206 := cell_lt ge205
                    have ge207 : World.cell? _ ⟨x141, o142 + (z.m.toNat) * 3 + 2, none⟩ = some (.int .i64 (c.sh z.m)) := (by have h_ := ((F146.at 17 rfl : Sl mchEnc 3 lo hi _ (.slice (some ⟨x141, o142, none⟩) ms.length cM) ms)).cells hz143.out 2 _ rfl; rw [HSH.out] at h_; simpa using h_)
                    go_wp2_with fail
                    clear b196 ge197 gl198 ge199 gl200 ge201 gl202 ge203 gl204 ge205 gl206 ge207
                    go_wp2_with fail
                    have F208 : Bun w0 [rsl boEnc 1 lo3 hi3 (.slice (some ⟨x147, o148, none⟩) r.2.length cr) r.2, rsl intEnc 1 lo hi (.slice a_z z.af.length c_z) z.af, rbox g 58 #[.slice (some ⟨x141, o142, none⟩) ms.length cM, .slice (some ⟨x137, o138, none⟩) ts.length cT, .slice ah lh.length cah, .slice aw lw.length caw, .slice af lf.length caf, .slice (some ⟨x144, o145, none⟩) rows.length cak, .slice (some ⟨gR121, 0, none⟩) ts.length cR122, .slice (some ⟨gR123, 0, none⟩) ts.length cR124, .slice (some ⟨gR125, 0, none⟩) ts.length cR126, .slice (some ⟨gR127, 0, none⟩) ts.length cR128, .slice (some ⟨gR129, 0, none⟩) ts.length cR130], rown intEnc 3 1 b0 (.slice (some ⟨gR121, 0, none⟩) ts.length cR122) (mixF (c.sl ts.length h) (c.sl ts.length (h + 1)) ts.length q), rown intEnc 3 1 b0 (.slice (some ⟨gR123, 0, none⟩) ts.length cR124) (rowF (c.sb ts.length (h + 1)) ts.length), rown intEnc 3 1 b0 (.slice (some ⟨gR125, 0, none⟩) ts.length cR126) (rowF (c.se ts.length (h + 1)) ts.length), rown boEnc 4 1 b0 (.slice (some ⟨gR127, 0, none⟩) ts.length cR128) (rowF (c.sB ts.length (h + 1)) ts.length), rown boEnc 4 1 b0 (.slice (some ⟨gR129, 0, none⟩) ts.length cR130) (rowF (c.sD ts.length (h + 1)) ts.length), rbox gc 51 #[.slice ah lh.length cah, .slice aw lw.length caw, .slice af lf.length caf, .slice (some ⟨x144, o145, none⟩) rows.length cak], rbox gj 25 #[.slice (some ⟨x141, o142, none⟩) ms.length cM, .slice (some ⟨x137, o138, none⟩) ts.length cT], rrwsl lo3 hi3 rows, rsl vEncS 1 lo3 hi3 (.slice (some ⟨x144, o145, none⟩) rows.length cak) (rows.map (·.1)), rsl intEnc 1 lo3 hi3 (.slice af lf.length caf) lf, rsl intEnc 1 lo3 hi3 (.slice aw lw.length caw) lw, rsl intEnc 1 lo3 hi3 (.slice ah lh.length cah) lh, rafs lo hi ts, rsl tskEnc 8 lo hi (.slice (some ⟨x137, o138, none⟩) ts.length cT) ts, rsl mchEnc 3 lo hi (.slice (some ⟨x141, o142, none⟩) ms.length cM) ms] _ := F146
                    clear F146
                    rw [mixF_keep (F := (c.sl ts.length h)) (G := (c.sl ts.length (h + 1))) (N := ts.length) (i := q) (Eq.symm (by rw [HSO.out.sl_work (i := q) (h := h) (by omega) (by omega) (by have h_ := sB_a c151H.out; omega) (by have h_ := sD_b c159H.out; omega), if_neg (by rw [← HZM.out, HWH.out, c160H.out]; simp; have h_ := c174H.out; omega)]))] at F208
                    (skip)
                    have F209 : Bun w0 [rbox g 58 #[.slice (some ⟨x141, o142, none⟩) ms.length cM, .slice (some ⟨x137, o138, none⟩) ts.length cT, .slice ah lh.length cah, .slice aw lw.length caw, .slice af lf.length caf, .slice (some ⟨x144, o145, none⟩) rows.length cak, .slice (some ⟨gR121, 0, none⟩) ts.length cR122, .slice (some ⟨gR123, 0, none⟩) ts.length cR124, .slice (some ⟨gR125, 0, none⟩) ts.length cR126, .slice (some ⟨gR127, 0, none⟩) ts.length cR128, .slice (some ⟨gR129, 0, none⟩) ts.length cR130], rown intEnc 3 1 b0 (.slice (some ⟨gR121, 0, none⟩) ts.length cR122) (mixF (c.sl ts.length h) (c.sl ts.length (h + 1)) ts.length (q + 1)), rown intEnc 3 1 b0 (.slice (some ⟨gR123, 0, none⟩) ts.length cR124) (rowF (c.sb ts.length (h + 1)) ts.length), rown intEnc 3 1 b0 (.slice (some ⟨gR125, 0, none⟩) ts.length cR126) (rowF (c.se ts.length (h + 1)) ts.length), rown boEnc 4 1 b0 (.slice (some ⟨gR127, 0, none⟩) ts.length cR128) (rowF (c.sB ts.length (h + 1)) ts.length), rown boEnc 4 1 b0 (.slice (some ⟨gR129, 0, none⟩) ts.length cR130) (rowF (c.sD ts.length (h + 1)) ts.length), rbox gc 51 #[.slice ah lh.length cah, .slice aw lw.length caw, .slice af lf.length caf, .slice (some ⟨x144, o145, none⟩) rows.length cak], rbox gj 25 #[.slice (some ⟨x141, o142, none⟩) ms.length cM, .slice (some ⟨x137, o138, none⟩) ts.length cT], rrwsl lo3 hi3 rows, rsl vEncS 1 lo3 hi3 (.slice (some ⟨x144, o145, none⟩) rows.length cak) (rows.map (·.1)), rsl intEnc 1 lo3 hi3 (.slice af lf.length caf) lf, rsl intEnc 1 lo3 hi3 (.slice aw lw.length caw) lw, rsl intEnc 1 lo3 hi3 (.slice ah lh.length cah) lh, rafs lo hi ts, rsl tskEnc 8 lo hi (.slice (some ⟨x137, o138, none⟩) ts.length cT) ts, rsl mchEnc 3 lo hi (.slice (some ⟨x141, o142, none⟩) ms.length cM) ms] _ := F208.pick [2, 3, 4, 5, 6, 7, 8, 9, 10, 11, 12, 13, 14, 15, 16, 17] (by decide) rfl
                    clear F208
                    (first | refine ⟨by kernel_rfl, ?_, ?_⟩ | refine ⟨rfl, ?_, ?_⟩ | refine ⟨?_, ?_⟩)
                    · rw [HI116.out]; exact ⟨q + 1, (by first | kernel_rfl | rfl), (by first | kernel_rfl | rfl), (by first | kernel_rfl | rfl), (by show Value.int .i64 ((q : Int) + 1) = _; simp), (by omega), (by first | rfl | simp), F209⟩
                    · simp [slot, intOf]; omega
              · skip
                have c159H := Lib.hid c159
                have b210 := F146.bx11 2 rfl
                have ge211 : World.cell? _ ⟨x137, o138 + q * 8, none⟩ = some (.int .i64 z.m) := (((F146.at 16 rfl : Sl tskEnc 8 lo hi _ (.slice (some ⟨x137, o138, none⟩) ts.length cT) ts)).cells hz139.out 0 _ rfl)
                have gl212 := cell_lt ge211
                have ge213 : World.cell? _ ⟨gR127, q, none⟩ = some (.bool (c.sB ts.length (h + 1) q)) := (by simpa using (Own.sl (F146.at 6 rfl : Own boEnc 4 1 b0 _ (.slice (some ⟨gR127, 0, none⟩) ts.length cR128) (rowF (c.sB ts.length (h + 1)) ts.length)) (fun _ => rfl)).cells hz133.out 0 _ rfl)
                have gl214 := cell_lt ge213
                have ge215 : World.cell? _ ⟨gR129, q, none⟩ = some (.bool (c.sD ts.length (h + 1) q)) := (by simpa using (Own.sl (F146.at 7 rfl : Own boEnc 4 1 b0 _ (.slice (some ⟨gR129, 0, none⟩) ts.length cR130) (rowF (c.sD ts.length (h + 1)) ts.length)) (fun _ => rfl)).cells hz134.out 0 _ rfl)
                have gl216 := cell_lt ge215
                go_wp2_with fail
                clear b210 ge211 gl212 ge213 gl214 ge215 gl216
                go_wp2_with fail
                have F217 : Bun w0 [rsl boEnc 1 lo3 hi3 (.slice (some ⟨x147, o148, none⟩) r.2.length cr) r.2, rsl intEnc 1 lo hi (.slice a_z z.af.length c_z) z.af, rbox g 58 #[.slice (some ⟨x141, o142, none⟩) ms.length cM, .slice (some ⟨x137, o138, none⟩) ts.length cT, .slice ah lh.length cah, .slice aw lw.length caw, .slice af lf.length caf, .slice (some ⟨x144, o145, none⟩) rows.length cak, .slice (some ⟨gR121, 0, none⟩) ts.length cR122, .slice (some ⟨gR123, 0, none⟩) ts.length cR124, .slice (some ⟨gR125, 0, none⟩) ts.length cR126, .slice (some ⟨gR127, 0, none⟩) ts.length cR128, .slice (some ⟨gR129, 0, none⟩) ts.length cR130], rown intEnc 3 1 b0 (.slice (some ⟨gR121, 0, none⟩) ts.length cR122) (mixF (c.sl ts.length h) (c.sl ts.length (h + 1)) ts.length q), rown intEnc 3 1 b0 (.slice (some ⟨gR123, 0, none⟩) ts.length cR124) (rowF (c.sb ts.length (h + 1)) ts.length), rown intEnc 3 1 b0 (.slice (some ⟨gR125, 0, none⟩) ts.length cR126) (rowF (c.se ts.length (h + 1)) ts.length), rown boEnc 4 1 b0 (.slice (some ⟨gR127, 0, none⟩) ts.length cR128) (rowF (c.sB ts.length (h + 1)) ts.length), rown boEnc 4 1 b0 (.slice (some ⟨gR129, 0, none⟩) ts.length cR130) (rowF (c.sD ts.length (h + 1)) ts.length), rbox gc 51 #[.slice ah lh.length cah, .slice aw lw.length caw, .slice af lf.length caf, .slice (some ⟨x144, o145, none⟩) rows.length cak], rbox gj 25 #[.slice (some ⟨x141, o142, none⟩) ms.length cM, .slice (some ⟨x137, o138, none⟩) ts.length cT], rrwsl lo3 hi3 rows, rsl vEncS 1 lo3 hi3 (.slice (some ⟨x144, o145, none⟩) rows.length cak) (rows.map (·.1)), rsl intEnc 1 lo3 hi3 (.slice af lf.length caf) lf, rsl intEnc 1 lo3 hi3 (.slice aw lw.length caw) lw, rsl intEnc 1 lo3 hi3 (.slice ah lh.length cah) lh, rafs lo hi ts, rsl tskEnc 8 lo hi (.slice (some ⟨x137, o138, none⟩) ts.length cT) ts, rsl mchEnc 3 lo hi (.slice (some ⟨x141, o142, none⟩) ms.length cM) ms] _ := F146
                clear F146
                rw [mixF_keep (F := (c.sl ts.length h)) (G := (c.sl ts.length (h + 1))) (N := ts.length) (i := q) ((HSO.out.sl_idle (by omega) (.inr (.inl (by have h_ := sD_a c159H.out; omega)))).symm)] at F217
                (skip)
                have F218 : Bun w0 [rbox g 58 #[.slice (some ⟨x141, o142, none⟩) ms.length cM, .slice (some ⟨x137, o138, none⟩) ts.length cT, .slice ah lh.length cah, .slice aw lw.length caw, .slice af lf.length caf, .slice (some ⟨x144, o145, none⟩) rows.length cak, .slice (some ⟨gR121, 0, none⟩) ts.length cR122, .slice (some ⟨gR123, 0, none⟩) ts.length cR124, .slice (some ⟨gR125, 0, none⟩) ts.length cR126, .slice (some ⟨gR127, 0, none⟩) ts.length cR128, .slice (some ⟨gR129, 0, none⟩) ts.length cR130], rown intEnc 3 1 b0 (.slice (some ⟨gR121, 0, none⟩) ts.length cR122) (mixF (c.sl ts.length h) (c.sl ts.length (h + 1)) ts.length (q + 1)), rown intEnc 3 1 b0 (.slice (some ⟨gR123, 0, none⟩) ts.length cR124) (rowF (c.sb ts.length (h + 1)) ts.length), rown intEnc 3 1 b0 (.slice (some ⟨gR125, 0, none⟩) ts.length cR126) (rowF (c.se ts.length (h + 1)) ts.length), rown boEnc 4 1 b0 (.slice (some ⟨gR127, 0, none⟩) ts.length cR128) (rowF (c.sB ts.length (h + 1)) ts.length), rown boEnc 4 1 b0 (.slice (some ⟨gR129, 0, none⟩) ts.length cR130) (rowF (c.sD ts.length (h + 1)) ts.length), rbox gc 51 #[.slice ah lh.length cah, .slice aw lw.length caw, .slice af lf.length caf, .slice (some ⟨x144, o145, none⟩) rows.length cak], rbox gj 25 #[.slice (some ⟨x141, o142, none⟩) ms.length cM, .slice (some ⟨x137, o138, none⟩) ts.length cT], rrwsl lo3 hi3 rows, rsl vEncS 1 lo3 hi3 (.slice (some ⟨x144, o145, none⟩) rows.length cak) (rows.map (·.1)), rsl intEnc 1 lo3 hi3 (.slice af lf.length caf) lf, rsl intEnc 1 lo3 hi3 (.slice aw lw.length caw) lw, rsl intEnc 1 lo3 hi3 (.slice ah lh.length cah) lh, rafs lo hi ts, rsl tskEnc 8 lo hi (.slice (some ⟨x137, o138, none⟩) ts.length cT) ts, rsl mchEnc 3 lo hi (.slice (some ⟨x141, o142, none⟩) ms.length cM) ms] _ := F217.pick [2, 3, 4, 5, 6, 7, 8, 9, 10, 11, 12, 13, 14, 15, 16, 17] (by decide) rfl
                clear F217
                (first | refine ⟨by kernel_rfl, ?_, ?_⟩ | refine ⟨rfl, ?_, ?_⟩ | refine ⟨?_, ?_⟩)
                · rw [HI116.out]; exact ⟨q + 1, (by first | kernel_rfl | rfl), (by first | kernel_rfl | rfl), (by first | kernel_rfl | rfl), (by show Value.int .i64 ((q : Int) + 1) = _; simp), (by omega), (by first | rfl | simp), F218⟩
                · simp [slot, intOf]; omega
          · skip
            have c136H := Lib.hid c136
            have c136a : decide ((h : Int) < 24 * (c.nd : Int)) = false := dec_f c136
            have b219 := hF117.bx11 0 rfl
            go_wp2_with fail
            clear b219
            have F220 : Bun w0 [rbox g 58 #[.slice aM ms.length cM, .slice aT ts.length cT, .slice ah lh.length cah, .slice aw lw.length caw, .slice af lf.length caf, .slice ak rows.length cak, .slice (some ⟨gR121, 0, none⟩) ts.length cR122, .slice (some ⟨gR123, 0, none⟩) ts.length cR124, .slice (some ⟨gR125, 0, none⟩) ts.length cR126, .slice (some ⟨gR127, 0, none⟩) ts.length cR128, .slice (some ⟨gR129, 0, none⟩) ts.length cR130], rown intEnc 3 1 b0 (.slice (some ⟨gR121, 0, none⟩) ts.length cR122) (mixF (c.sl ts.length h) (c.sl ts.length (h + 1)) ts.length q), rown intEnc 3 1 b0 (.slice (some ⟨gR123, 0, none⟩) ts.length cR124) (rowF (c.sb ts.length (h + 1)) ts.length), rown intEnc 3 1 b0 (.slice (some ⟨gR125, 0, none⟩) ts.length cR126) (rowF (c.se ts.length (h + 1)) ts.length), rown boEnc 4 1 b0 (.slice (some ⟨gR127, 0, none⟩) ts.length cR128) (rowF (c.sB ts.length (h + 1)) ts.length), rown boEnc 4 1 b0 (.slice (some ⟨gR129, 0, none⟩) ts.length cR130) (rowF (c.sD ts.length (h + 1)) ts.length), rbox gc 51 #[.slice ah lh.length cah, .slice aw lw.length caw, .slice af lf.length caf, .slice ak rows.length cak], rbox gj 25 #[.slice aM ms.length cM, .slice aT ts.length cT], rrwsl lo3 hi3 rows, rsl vEncS 1 lo3 hi3 (.slice ak rows.length cak) (rows.map (·.1)), rsl intEnc 1 lo3 hi3 (.slice af lf.length caf) lf, rsl intEnc 1 lo3 hi3 (.slice aw lw.length caw) lw, rsl intEnc 1 lo3 hi3 (.slice ah lh.length cah) lh, rafs lo hi ts, rsl tskEnc 8 lo hi (.slice aT ts.length cT) ts, rsl mchEnc 3 lo hi (.slice aM ms.length cM) ms] _ := hF117
            clear hF117
            rw [mixF_same (f := c.sl ts.length h) (g := c.sl ts.length (h + 1)) (fun k hk => (HSO.out.sl_idle hk (.inr (.inr (by omega)))).symm)] at F220
            have F221 : Bun w0 [rbox g 58 #[.slice aM ms.length cM, .slice aT ts.length cT, .slice ah lh.length cah, .slice aw lw.length caw, .slice af lf.length caf, .slice ak rows.length cak, .slice (some ⟨gR121, 0, none⟩) ts.length cR122, .slice (some ⟨gR123, 0, none⟩) ts.length cR124, .slice (some ⟨gR125, 0, none⟩) ts.length cR126, .slice (some ⟨gR127, 0, none⟩) ts.length cR128, .slice (some ⟨gR129, 0, none⟩) ts.length cR130], rown intEnc 3 1 b0 (.slice (some ⟨gR121, 0, none⟩) ts.length cR122) (rowF (c.sl ts.length (h + 1)) ts.length), rown intEnc 3 1 b0 (.slice (some ⟨gR123, 0, none⟩) ts.length cR124) (rowF (c.sb ts.length (h + 1)) ts.length), rown intEnc 3 1 b0 (.slice (some ⟨gR125, 0, none⟩) ts.length cR126) (rowF (c.se ts.length (h + 1)) ts.length), rown boEnc 4 1 b0 (.slice (some ⟨gR127, 0, none⟩) ts.length cR128) (rowF (c.sB ts.length (h + 1)) ts.length), rown boEnc 4 1 b0 (.slice (some ⟨gR129, 0, none⟩) ts.length cR130) (rowF (c.sD ts.length (h + 1)) ts.length), rbox gc 51 #[.slice ah lh.length cah, .slice aw lw.length caw, .slice af lf.length caf, .slice ak rows.length cak], rbox gj 25 #[.slice aM ms.length cM, .slice aT ts.length cT], rrwsl lo3 hi3 rows, rsl vEncS 1 lo3 hi3 (.slice ak rows.length cak) (rows.map (·.1)), rsl intEnc 1 lo3 hi3 (.slice af lf.length caf) lf, rsl intEnc 1 lo3 hi3 (.slice aw lw.length caw) lw, rsl intEnc 1 lo3 hi3 (.slice ah lh.length cah) lh, rafs lo hi ts, rsl tskEnc 8 lo hi (.slice aT ts.length cT) ts, rsl mchEnc 3 lo hi (.slice aM ms.length cM) ms] _ := F220.pick [0, 1, 2, 3, 4, 5, 6, 7, 8, 9, 10, 11, 12, 13, 14, 15] (by decide) rfl
            clear F220
            exact bodyPost_end (v := .tuple #[]) (by simp [results, Try.results68, go_sem]) rfl (⟨rfl, F221⟩)
        · skip
          have c120H := Lib.hid c120
          have c120a : decide ((q : Int) < (ts.length : Int)) = false := dec_f c120
          have b222 := hF117.bx11 0 rfl
          go_wp2_with fail
          clear b222
          have F223 : Bun w0 [rbox g 58 #[.slice aM ms.length cM, .slice aT ts.length cT, .slice ah lh.length cah, .slice aw lw.length caw, .slice af lf.length caf, .slice ak rows.length cak, vl, vb, ve, vB, vD], rown intEnc 3 1 b0 vl (mixF (c.sl ts.length h) (c.sl ts.length (h + 1)) ts.length q), rown intEnc 3 1 b0 vb (rowF (c.sb ts.length (h + 1)) ts.length), rown intEnc 3 1 b0 ve (rowF (c.se ts.length (h + 1)) ts.length), rown boEnc 4 1 b0 vB (rowF (c.sB ts.length (h + 1)) ts.length), rown boEnc 4 1 b0 vD (rowF (c.sD ts.length (h + 1)) ts.length), rbox gc 51 #[.slice ah lh.length cah, .slice aw lw.length caw, .slice af lf.length caf, .slice ak rows.length cak], rbox gj 25 #[.slice aM ms.length cM, .slice aT ts.length cT], rrwsl lo3 hi3 rows, rsl vEncS 1 lo3 hi3 (.slice ak rows.length cak) (rows.map (·.1)), rsl intEnc 1 lo3 hi3 (.slice af lf.length caf) lf, rsl intEnc 1 lo3 hi3 (.slice aw lw.length caw) lw, rsl intEnc 1 lo3 hi3 (.slice ah lh.length cah) lh, rafs lo hi ts, rsl tskEnc 8 lo hi (.slice aT ts.length cT) ts, rsl mchEnc 3 lo hi (.slice aM ms.length cM) ms] _ := hF117
          clear hF117
          rw [mix_rowF (f := c.sl ts.length h) (g := c.sl ts.length (h + 1)) (show q = ts.length by omega)] at F223
          have F224 : Bun w0 [rbox g 58 #[.slice aM ms.length cM, .slice aT ts.length cT, .slice ah lh.length cah, .slice aw lw.length caw, .slice af lf.length caf, .slice ak rows.length cak, vl, vb, ve, vB, vD], rown intEnc 3 1 b0 vl (rowF (c.sl ts.length (h + 1)) ts.length), rown intEnc 3 1 b0 vb (rowF (c.sb ts.length (h + 1)) ts.length), rown intEnc 3 1 b0 ve (rowF (c.se ts.length (h + 1)) ts.length), rown boEnc 4 1 b0 vB (rowF (c.sB ts.length (h + 1)) ts.length), rown boEnc 4 1 b0 vD (rowF (c.sD ts.length (h + 1)) ts.length), rbox gc 51 #[.slice ah lh.length cah, .slice aw lw.length caw, .slice af lf.length caf, .slice ak rows.length cak], rbox gj 25 #[.slice aM ms.length cM, .slice aT ts.length cT], rrwsl lo3 hi3 rows, rsl vEncS 1 lo3 hi3 (.slice ak rows.length cak) (rows.map (·.1)), rsl intEnc 1 lo3 hi3 (.slice af lf.length caf) lf, rsl intEnc 1 lo3 hi3 (.slice aw lw.length caw) lw, rsl intEnc 1 lo3 hi3 (.slice ah lh.length cah) lh, rafs lo hi ts, rsl tskEnc 8 lo hi (.slice aT ts.length cT) ts, rsl mchEnc 3 lo hi (.slice aM ms.length cM) ms] _ := F223.pick [0, 1, 2, 3, 4, 5, 6, 7, 8, 9, 10, 11, 12, 13, 14, 15] (by decide) rfl
          clear F223
          exact bodyPost_end (v := .tuple #[]) (by simp [results, Try.results68, go_sem]) rfl (⟨rfl, F224⟩)
      case atStart2 =>
        rw [HI116.out]
        exact ⟨0, (by first | kernel_rfl | rfl), (by first | kernel_rfl | rfl), (by first | kernel_rfl | rfl), rfl, Nat.zero_le _, rfl, F115⟩
  case atStart1 =>
    rw [HI1.out]
    exact ⟨0, (by first | kernel_rfl | rfl), (by first | kernel_rfl | rfl), (by first | kernel_rfl | rfl), rfl, Nat.zero_le _, rfl, hB⟩

end Go.Proofs.Ytokelpmngahnoaa
