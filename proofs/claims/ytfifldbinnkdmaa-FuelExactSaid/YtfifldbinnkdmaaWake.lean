/- awake: the chapter's examples that every statement asks. -/
import Derived.Test.YtfifldbinnkdmaaAwake
import Derived.Deep.RegionHeld3
set_option linter.unusedVariables false
set_option linter.unusedSimpArgs false
set_option linter.unnecessarySimpa false
namespace Go.Proofs.Ytfifldbinnkdmaa
open Go.RowKit Go.Shelf
set_option maxRecDepth 100000
attribute [local go_sem] run_store_func

def bookB : Bok := ⟨bookA, bookM⟩
theorem bookB_form : formedE bookB = 0 := by decide +kernel
theorem bookB_calm : calm bookB (2 ^ bookB.accs.length) := by unfold calm; decide +kernel
theorem bookB_check : checkE bookB = 0 := by rw [checkE, if_pos bookB_form, if_pos bookB_calm]
theorem bookB_l : lossL bookB = [⟨0, 10⟩, ⟨0, 30⟩, ⟨0, 0⟩] := by decide +kernel
theorem bookB_t : lossT bookB = ⟨0, 30⟩ := by decide +kernel
theorem bookB_names : nameOk bookA := by unfold nameOk; decide +kernel
theorem tankB_v : volV [0, 1000, 2000] [0, 5000, 12000] 500 1500 = .tuple #[.agg #[.int .i64 2500, .int .i64 8500], .int .i64 0] := by
  rw [volV_ok (by decide +kernel), show volLo [0, 1000, 2000] [0, 5000, 12000] 500 = 2500 by decide +kernel, show volHi [0, 1000, 2000] [0, 5000, 12000] 1500 = 8500 by decide +kernel]

theorem wakeSpans (w : World) : Sps 0 (w.alloc (.cells #[.int .i64 0, .int .i64 10, .int .i64 0, .int .i64 30, .int .i64 0, .int .i64 0] 40)).heap.size
    (w.alloc (.cells #[.int .i64 0, .int .i64 10, .int .i64 0, .int .i64 30, .int .i64 0, .int .i64 0] 40)) (.slice (some ⟨w.heap.size, 0, none⟩) 3 3) ([⟨0, 10⟩, ⟨0, 30⟩, ⟨0, 0⟩] : List Sp) :=
  Sl.of_bk (l := ([⟨0, 10⟩, ⟨0, 30⟩, ⟨0, 0⟩] : List Sp)) (Bk.new w _ _) rfl (fun _ => rfl) (by decide) (Nat.zero_le _) (Bk.new w 40 #[.int .i64 0, .int .i64 10, .int .i64 0, .int .i64 30, .int .i64 0, .int .i64 0]).lt
theorem awake_c (w : World) : Calls Try.prog 15 #[] w (Ret (.bool true) w) := by
  go_enter Try.func15, Try.ntmps15
  go_wp2_with fail
  refine (book_c _).mono ?_
  rintro e w1 ⟨va, vm, rfl, ha, hm, hg1⟩
  obtain ⟨a, c, eva⟩ := ha.any
  obtain ⟨a', c', evm⟩ := hm.any
  subst eva evm
  have HD := Lib.hid (And.intro ha hm)
  clear ha hm
  go_wp2_with fail
  refine (fLosses_c _ _ _ _ _ _ bookB _ HD.out.1 HD.out.2 bookB_names (Nat.le_refl _) (Nat.le_refl _)).mono ?_
  rintro e w2 (⟨h, _⟩ | ⟨_, v, rfl, ho, hg2⟩)
  · exact absurd bookB_check h
  rw [bookB_l] at ho
  have hs := ho.sl (fun _ => rfl)
  obtain ⟨b, o, c, rfl, _, _, _⟩ := hs.form (by decide)
  have HS := Lib.hid hs
  have hG2 := gb_trans hg1 hg2
  clear ho hs hg1 hg2
  rw [bookB_t]
  simp only [Sp.v, List.length_cons, List.length_nil]
  have hb1 := Bk.new w2 40 #[.int .i64 0, .int .i64 30]
  go_wp2_with fail
  refine (tank_c _).mono ?_
  rintro e w3 ⟨vh, vl, rfl, hh, hl, hg3⟩
  replace hb1 := hb1.gb hg3 (by simp)
  obtain ⟨a1, c1, e1⟩ := hh.any
  obtain ⟨a2, c2, e2⟩ := hl.any
  subst e1 e2
  replace HS := Lib.hid ((HS.out.alloc (.cells #[.int .i64 0, .int .i64 30] 40)).gb hg3 (fun _ e => by cases e))
  replace hG2 := gb_trans (gb_alloc hG2 (.cells #[.int .i64 0, .int .i64 30] 40)) hg3
  have HT := Lib.hid (And.intro hh hl)
  clear hh hl hg3
  go_wp2_with fail
  refine (span_c _ _ _).mono ?_
  rintro e w4 ⟨rfl, hg4⟩
  replace hb1 := hb1.gb hg4 (by simp)
  replace HS := Lib.hid (HS.out.gb hg4 (fun _ e => by cases e))
  replace hG2 := gb_trans hG2 hg4
  have HT2 := Lib.hid (And.intro (HT.out.1.gb hg4 (fun _ e => by cases e)) (HT.out.2.gb hg4 (fun _ e => by cases e)))
  have hz4 := hg4.size
  clear hg4 HT
  go_wp2_with fail
  refine (volume_c _ _ _ _ _ _ _ _ _ _ _ HT2.out.1 HT2.out.2 (by omega) (by omega)).mono ?_
  rintro e w5 ⟨rfl, hg5⟩
  replace hb1 := hb1.gb hg5 (by simp)
  replace HS := Lib.hid (HS.out.gb hg5 (fun _ e => by cases e))
  replace hG2 := gb_trans hG2 hg5
  clear hg5 HT2 hz4
  rw [tankB_v]
  have hb2 := Bk.new w5 40 #[.int .i64 2500, .int .i64 8500]
  replace hb1 := hb1.alloc (.cells #[.int .i64 2500, .int .i64 8500] 40)
  have q1 := hb1.c2
  have q2 := hb2.c2
  go_wp2_with fail
  replace hG2 := gb_drew (gb_alloc hG2 (.cells #[.int .i64 2500, .int .i64 8500] 40))
  replace HS := Lib.hid ((HS.out.alloc (.cells #[.int .i64 2500, .int .i64 8500] 40)).drew)
  replace hb1 := hb1.drew
  replace hb2 := hb2.drew
  go_region_held3 (fun W => W.cell? ⟨w2.heap.size, 0, none⟩ = some (.int .i64 0) ∧ W.cell? ⟨w2.heap.size, 1, none⟩ = some (.int .i64 30) ∧ W.cell? ⟨w5.heap.size, 0, none⟩ = some (.int .i64 2500) ∧ W.cell? ⟨w5.heap.size, 1, none⟩ = some (.int .i64 8500)) (go_keep)
    (first
    | (go_at_call 37; refine (span_c _ _ _).mono ?_; rintro e w6 ⟨rfl, hg⟩; replace hb1 := hb1.gb hg (by simp); replace hb2 := hb2.gb hg (by simp); replace q1 := hb1.c2; replace q2 := hb2.c2; replace HS := Lib.hid (HS.out.gb hg (fun _ e => by cases e)); replace hG2 := gb_trans hG2 hg; clear hg)
    | (go_at_call 24; refine (sameSpans_c _ _ _ _ _ _ [⟨0, 10⟩, ⟨0, 30⟩, ⟨0, 0⟩] [⟨0, 10⟩, ⟨0, 30⟩, ⟨0, 0⟩] _ (HS.out.alloc _) (wakeSpans _)).mono ?_; rintro e w7 ⟨rfl, hg⟩; rw [sameS_self]; replace hb1 := (hb1.alloc _).gb hg (by simp); replace hb2 := (hb2.alloc _).gb hg (by simp); replace q1 := hb1.c2; replace q2 := hb2.c2; replace hG2 := gb_trans (gb_alloc hG2 _) hg; clear hg))
  go_wp2_with fail
  go_ret
  exact ⟨rfl, hG2⟩
end Go.Proofs.Ytfifldbinnkdmaa
