/- The kit's copy of a book, whether two are equal; whether a book has more than the statements go through. -/
import Derived.Test.YtfifldbinnkdmaaCopy2
import Derived.Test.YtfifldbinnkdmaaHasB
import Derived.Test.YtfifldbinnkdmaaRef8
import Derived.Test.YtfifldbinnkdmaaReg
import Derived.Test.YtfifldbinnkdmaaMarks
set_option linter.unusedVariables false
set_option linter.unusedSimpArgs false
set_option linter.unnecessarySimpa false
namespace Go.Proofs.Ytfifldbinnkdmaa
open Go.RowKit Go.Shelf
set_option maxRecDepth 100000

theorem infoAc : (Try.prog.info? 79).map (fun i => (i.zero, i.size, i.bytes)) = some (some (.agg #[.string ByteArray.empty, .int .i64 0, .int .i64 0, .int .i64 0, .int .i64 0, .int .i64 0]), 6, 56) := by kernel_rfl
theorem okAc : ElemOk Try.prog 22 79 6 56 accEnc where
  under := Try.underlying22
  info := info5 infoAc rfl
  pos := by omega
  small := by omega
  len := fun _ => rfl
  one := fun x u hu => by
    simp [accEnc] at hu
    rcases hu with rfl | rfl | rfl | rfl | rfl | rfl <;> rfl
theorem infoMv : (Try.prog.info? 76).map (fun i => (i.zero, i.size, i.bytes)) = some (some (.agg #[.int .i64 0, .int .i64 0, .int .i64 0, .int .i64 0]), 4, 32) := by kernel_rfl
theorem okMv : ElemOk Try.prog 23 76 4 32 mvEnc where
  under := Try.underlying23
  info := info5 infoMv rfl
  pos := by omega
  small := by omega
  len := fun _ => rfl
  one := fun x u hu => by
    simp [mvEnc] at hu
    rcases hu with rfl | rfl | rfl | rfl <;> rfl
/-- A book of the call's own. -/
def BookNew (b : Bok) (w : World) (e : Ending) (w' : World) : Prop := ∃ va vm, e = .returned (.agg #[va, vm]) ∧ HasB w.heap.size w'.heap.size w' va vm b ∧ w.grownBy w' none

set_option maxHeartbeats 2000000 in
theorem ownBook_c (lo hi : Nat) (va vm : Value) (b : Bok) (w : World) (hb : HasB lo hi w va vm b) (h2 : hi ≤ w.heap.size) (hs1 : b.accs.length ≤ 100000000000) (hs2 : b.mvs.length ≤ 100000000000) :
    Calls Try.prog 19 #[.agg #[va, vm]] w (BookNew b w) := by
  obtain ⟨a1, c, a2, c2, rfl, rfl⟩ := hb.vals
  have F1 : Bun w [rbook lo hi (.slice a1 b.accs.length c) (.slice a2 b.mvs.length c2) b] _ := Bun.book hb h2
  clear hb
  go_enter Try.func19, Try.ntmps19
  have F2 : Bun w [rbox w.heap.size 25 #[.slice a1 b.accs.length c, .slice a2 b.mvs.length c2], rbook lo hi (.slice a1 b.accs.length c) (.slice a2 b.mvs.length c2) b] _ := F1.new 25 #[.slice a1 b.accs.length c, .slice a2 b.mvs.length c2] (n := w.heap.size) (by simp)
  clear F1
  have F3 : Bun w [rbox (w.heap.size + 1) 25 #[.slice none 0 0, .slice none 0 0], rbox w.heap.size 25 #[.slice a1 b.accs.length c, .slice a2 b.mvs.length c2], rbook lo hi (.slice a1 b.accs.length c) (.slice a2 b.mvs.length c2) b] _ := F2.new 25 #[.slice none 0 0, .slice none 0 0] (n := (w.heap.size + 1)) (by simp)
  clear F2
  have b4 : Bk _ w.heap.size 25 #[.slice a1 b.accs.length c, .slice a2 b.mvs.length c2] := F3.at 1 rfl
  have l5 := b4.lt
  have q6 : World.cell? _ ⟨w.heap.size, 0, none⟩ = some (.slice a1 b.accs.length c) := b4.cell 0
  have z7 := b4.frozen 0
  have q8 : World.cell? _ ⟨w.heap.size, 1, none⟩ = some (.slice a2 b.mvs.length c2) := b4.cell 1
  have z9 := b4.frozen 1
  go_wp2_with fail
  clear b4 l5 q6 z7 q8 z9
  have F10 : Bun w [rbox (w.heap.size + 1) 25 #[.slice none 0 0, .slice none 0 0], rbox w.heap.size 25 #[.slice a1 b.accs.length c, .slice a2 b.mvs.length c2], rbook lo hi (.slice a1 b.accs.length c) (.slice a2 b.mvs.length c2) b] _ := F3.drew
  clear F3
  refine ru_begin (fun W => W.cell? ⟨w.heap.size, 0, none⟩ = some (.slice a1 b.accs.length c) ∧ W.cell? ⟨w.heap.size, 1, none⟩ = some (.slice a2 b.mvs.length c2)) 9 (by kernel_rfl) ?_ ?_
  · exact ⟨((F10.at 1 rfl : Bk _ w.heap.size 25 #[.slice a1 b.accs.length c, .slice a2 b.mvs.length c2])).cell 0, ((F10.at 1 rfl : Bk _ w.heap.size 25 #[.slice a1 b.accs.length c, .slice a2 b.mvs.length c2])).cell 1⟩
  have hS11 : World.cell? _ ⟨w.heap.size, 0, none⟩ = some (.slice a1 b.accs.length c) ∧ World.cell? _ ⟨w.heap.size, 1, none⟩ = some (.slice a2 b.mvs.length c2) := ⟨((F10.at 1 rfl : Bk _ w.heap.size 25 #[.slice a1 b.accs.length c, .slice a2 b.mvs.length c2])).cell 0, ((F10.at 1 rfl : Bk _ w.heap.size 25 #[.slice a1 b.accs.length c, .slice a2 b.mvs.length c2])).cell 1⟩
  refine ru_t 1 [] ?_
  refine ru_t 2 [] ?_
  refine ru_t 5 [] ?_
  refine ru_t 6 [] ?_
  (try simp only [Act.put, List.setIfInBounds_toArray, List.set_cons_zero, List.set_cons_succ])
  clear hS11
  refine ru_two 0 4 rfl rfl (by kernel_rfl) ?_ ?_
  · intro K hK
    go_simp
    have F12 : Bun w [rbox (w.heap.size + 2) 79 #[], rbox (w.heap.size + 1) 25 #[.slice none 0 0, .slice none 0 0], rbox w.heap.size 25 #[.slice a1 b.accs.length c, .slice a2 b.mvs.length c2], rbook lo hi (.slice a1 b.accs.length c) (.slice a2 b.mvs.length c2) b] _ := F10.new 79 #[] (n := (w.heap.size + 2)) (by simp)
    clear F10
    refine ru_back hK (by exact ⟨((F12.at 2 rfl : Bk _ w.heap.size 25 #[.slice a1 b.accs.length c, .slice a2 b.mvs.length c2])).cell 0, ((F12.at 2 rfl : Bk _ w.heap.size 25 #[.slice a1 b.accs.length c, .slice a2 b.mvs.length c2])).cell 1⟩) (fun hHeld => ?_)
    clear hK K
    (try simp only [Act.put, List.setIfInBounds_toArray, List.set_cons_zero, List.set_cons_succ])
    refine ru_two 3 4 rfl rfl (by kernel_rfl) ?_ ?_
    · intro K hK
      refine step_copyB okAc rfl _ _ rfl w.heap.size (w.heap.size + 2) rfl F12 ((F12.ltAt 0 rfl _ rfl).2 rfl) _ _ _ b.accs rfl ((F12.at 3 rfl : HasB lo hi _ (.slice a1 b.accs.length c) (.slice a2 b.mvs.length c2) b)).1 (by omega) ?_
      intro xaw13 w13 F14 hsz_
      (try simp at hsz_)
      obtain ⟨pa15, pc16, e_⟩ := (Own.sl (F14.at 0 rfl : Own accEnc 79 6 w.heap.size _ xaw13 b.accs) (fun _ => rfl)).any
      subst e_
      refine ru_back hK (by exact ⟨((F14.at 2 rfl : Bk _ w.heap.size 25 #[.slice a1 b.accs.length c, .slice a2 b.mvs.length c2])).cell 0, ((F14.at 2 rfl : Bk _ w.heap.size 25 #[.slice a1 b.accs.length c, .slice a2 b.mvs.length c2])).cell 1⟩) (fun hHeld => ?_)
      clear hK K
      (try simp only [Act.put, List.setIfInBounds_toArray, List.set_cons_zero, List.set_cons_succ])
      refine ru_one 4 rfl (by kernel_rfl) (fun K hK => ?_)
      go_simp
      have F17 : Bun w [rbox w13.heap.size 76 #[], rown accEnc 79 6 w.heap.size (.slice pa15 b.accs.length pc16) b.accs, rbox (w.heap.size + 1) 25 #[.slice none 0 0, .slice none 0 0], rbox w.heap.size 25 #[.slice a1 b.accs.length c, .slice a2 b.mvs.length c2], rbook lo hi (.slice a1 b.accs.length c) (.slice a2 b.mvs.length c2) b] _ := F14.new 76 #[] (n := w13.heap.size) (by simp)
      clear F14
      refine ru_back hK (by exact ⟨((F17.at 3 rfl : Bk _ w.heap.size 25 #[.slice a1 b.accs.length c, .slice a2 b.mvs.length c2])).cell 0, ((F17.at 3 rfl : Bk _ w.heap.size 25 #[.slice a1 b.accs.length c, .slice a2 b.mvs.length c2])).cell 1⟩) (fun hHeld => ?_)
      clear hK K
      (try simp only [Act.put, List.setIfInBounds_toArray, List.set_cons_zero, List.set_cons_succ])
      refine ru_one 7 rfl (by kernel_rfl) (fun K hK => ?_)
      refine step_copyB okMv rfl _ _ rfl w.heap.size w13.heap.size rfl F17 ((F17.ltAt 0 rfl _ rfl).2 rfl) _ _ _ b.mvs rfl ((F17.at 4 rfl : HasB lo hi _ (.slice a1 b.accs.length c) (.slice a2 b.mvs.length c2) b)).2 (by omega) ?_
      intro xmw18 w18 F19 hsz_
      (try simp at hsz_)
      obtain ⟨pa20, pc21, e_⟩ := (Own.sl (F19.at 0 rfl : Own mvEnc 76 4 w.heap.size _ xmw18 b.mvs) (fun _ => rfl)).any
      subst e_
      refine ru_back hK (by exact ⟨((F19.at 3 rfl : Bk _ w.heap.size 25 #[.slice a1 b.accs.length c, .slice a2 b.mvs.length c2])).cell 0, ((F19.at 3 rfl : Bk _ w.heap.size 25 #[.slice a1 b.accs.length c, .slice a2 b.mvs.length c2])).cell 1⟩) (fun hHeld => ?_)
      clear hK K
      (try simp only [Act.put, List.setIfInBounds_toArray, List.set_cons_zero, List.set_cons_succ])
      refine ru_one 8 rfl (by kernel_rfl) (fun K hK => ?_)
      go_simp
      refine ru_back hK (by exact ⟨((F19.at 3 rfl : Bk _ w.heap.size 25 #[.slice a1 b.accs.length c, .slice a2 b.mvs.length c2])).cell 0, ((F19.at 3 rfl : Bk _ w.heap.size 25 #[.slice a1 b.accs.length c, .slice a2 b.mvs.length c2])).cell 1⟩) (fun hHeld => ?_)
      clear hK K
      (try simp only [Act.put, List.setIfInBounds_toArray, List.set_cons_zero, List.set_cons_succ])
      refine ru_one 9 rfl (by kernel_rfl) (fun K hK => ?_)
      have F22 : Bun w [rbox (w.heap.size + 1) 25 #[.slice none 0 0, .slice none 0 0], rown mvEnc 76 4 w.heap.size (.slice pa20 b.mvs.length pc21) b.mvs, rown accEnc 79 6 w.heap.size (.slice pa15 b.accs.length pc16) b.accs, rbox w.heap.size 25 #[.slice a1 b.accs.length c, .slice a2 b.mvs.length c2], rbook lo hi (.slice a1 b.accs.length c) (.slice a2 b.mvs.length c2) b] _ := F19.front 2 rfl rfl
      clear F19
      have kb : Bk _ (w.heap.size + 1) 25 #[.slice none 0 0, .slice none 0 0] := F22.at 0 rfl
      have kc := kb.c2
      have kl := kb.lt
      go_simp
      clear kc kl kb
      have F23 : Bun w [rbox (w.heap.size + 1) 25 #[.slice pa15 b.accs.length pc16, .slice pa20 b.mvs.length pc21], rown mvEnc 76 4 w.heap.size (.slice pa20 b.mvs.length pc21) b.mvs, rown accEnc 79 6 w.heap.size (.slice pa15 b.accs.length pc16) b.accs, rbox w.heap.size 25 #[.slice a1 b.accs.length c, .slice a2 b.mvs.length c2], rbook lo hi (.slice a1 b.accs.length c) (.slice a2 b.mvs.length c2) b] _ := (F22.set 0 (.slice pa15 b.accs.length pc16)).set 1 (.slice pa20 b.mvs.length pc21)
      clear F22
      refine ru_back_late hK (by kernel_rfl) ?_
      clear hK K
      (try simp only [Act.put, List.setIfInBounds_toArray, List.set_cons_zero, List.set_cons_succ])
      refine ru_done (by kernel_rfl) ?_
      have kb : Bk _ (w.heap.size + 1) 25 #[.slice pa15 b.accs.length pc16, .slice pa20 b.mvs.length pc21] := F23.at 0 rfl
      have kc := kb.c2
      go_wp2_with fail
      exact bodyPost_ret (v := .agg #[.slice pa15 b.accs.length pc16, .slice pa20 b.mvs.length pc21]) (by simp [results, Try.results19, go_sem, kc]) rfl ⟨_, _, rfl, ⟨((F23.at 2 rfl : Own accEnc 79 6 w.heap.size _ (.slice pa15 b.accs.length pc16) b.accs)).sl (fun _ => rfl), ((F23.at 1 rfl : Own mvEnc 76 4 w.heap.size _ (.slice pa20 b.mvs.length pc21) b.mvs)).sl (fun _ => rfl)⟩, F23.gb⟩
    · intro K hK
      go_simp
      have F24 : Bun w [rbox (w.heap.size + 3) 76 #[], rbox (w.heap.size + 2) 79 #[], rbox (w.heap.size + 1) 25 #[.slice none 0 0, .slice none 0 0], rbox w.heap.size 25 #[.slice a1 b.accs.length c, .slice a2 b.mvs.length c2], rbook lo hi (.slice a1 b.accs.length c) (.slice a2 b.mvs.length c2) b] _ := F12.new 76 #[] (n := (w.heap.size + 3)) (by simp)
      clear F12
      refine ru_back hK (by exact ⟨((F24.at 3 rfl : Bk _ w.heap.size 25 #[.slice a1 b.accs.length c, .slice a2 b.mvs.length c2])).cell 0, ((F24.at 3 rfl : Bk _ w.heap.size 25 #[.slice a1 b.accs.length c, .slice a2 b.mvs.length c2])).cell 1⟩) (fun hHeld => ?_)
      clear hK K
      (try simp only [Act.put, List.setIfInBounds_toArray, List.set_cons_zero, List.set_cons_succ])
      refine ru_one 3 rfl (by kernel_rfl) (fun K hK => ?_)
      have F25 : Bun w [rbox (w.heap.size + 2) 79 #[], rbox (w.heap.size + 3) 76 #[], rbox (w.heap.size + 1) 25 #[.slice none 0 0, .slice none 0 0], rbox w.heap.size 25 #[.slice a1 b.accs.length c, .slice a2 b.mvs.length c2], rbook lo hi (.slice a1 b.accs.length c) (.slice a2 b.mvs.length c2) b] _ := F24.front 1 rfl rfl
      clear F24
      refine step_copyB okAc rfl _ _ rfl w.heap.size (w.heap.size + 2) rfl F25 ((F25.ltAt 0 rfl _ rfl).2 rfl) _ _ _ b.accs rfl ((F25.at 4 rfl : HasB lo hi _ (.slice a1 b.accs.length c) (.slice a2 b.mvs.length c2) b)).1 (by omega) ?_
      intro xaw26 w26 F27 hsz_
      (try simp at hsz_)
      obtain ⟨pa28, pc29, e_⟩ := (Own.sl (F27.at 0 rfl : Own accEnc 79 6 w.heap.size _ xaw26 b.accs) (fun _ => rfl)).any
      subst e_
      refine ru_back hK (by exact ⟨((F27.at 3 rfl : Bk _ w.heap.size 25 #[.slice a1 b.accs.length c, .slice a2 b.mvs.length c2])).cell 0, ((F27.at 3 rfl : Bk _ w.heap.size 25 #[.slice a1 b.accs.length c, .slice a2 b.mvs.length c2])).cell 1⟩) (fun hHeld => ?_)
      clear hK K
      (try simp only [Act.put, List.setIfInBounds_toArray, List.set_cons_zero, List.set_cons_succ])
      refine ru_one 7 rfl (by kernel_rfl) (fun K hK => ?_)
      have F30 : Bun w [rbox (w.heap.size + 3) 76 #[], rown accEnc 79 6 w.heap.size (.slice pa28 b.accs.length pc29) b.accs, rbox (w.heap.size + 1) 25 #[.slice none 0 0, .slice none 0 0], rbox w.heap.size 25 #[.slice a1 b.accs.length c, .slice a2 b.mvs.length c2], rbook lo hi (.slice a1 b.accs.length c) (.slice a2 b.mvs.length c2) b] _ := F27.front 1 rfl rfl
      clear F27
      refine step_copyB okMv rfl _ _ rfl w.heap.size (w.heap.size + 3) rfl F30 ((F30.ltAt 0 rfl _ rfl).2 rfl) _ _ _ b.mvs rfl ((F30.at 4 rfl : HasB lo hi _ (.slice a1 b.accs.length c) (.slice a2 b.mvs.length c2) b)).2 (by omega) ?_
      intro xmw31 w31 F32 hsz_
      (try simp at hsz_)
      obtain ⟨pa33, pc34, e_⟩ := (Own.sl (F32.at 0 rfl : Own mvEnc 76 4 w.heap.size _ xmw31 b.mvs) (fun _ => rfl)).any
      subst e_
      refine ru_back hK (by exact ⟨((F32.at 3 rfl : Bk _ w.heap.size 25 #[.slice a1 b.accs.length c, .slice a2 b.mvs.length c2])).cell 0, ((F32.at 3 rfl : Bk _ w.heap.size 25 #[.slice a1 b.accs.length c, .slice a2 b.mvs.length c2])).cell 1⟩) (fun hHeld => ?_)
      clear hK K
      (try simp only [Act.put, List.setIfInBounds_toArray, List.set_cons_zero, List.set_cons_succ])
      refine ru_one 8 rfl (by kernel_rfl) (fun K hK => ?_)
      go_simp
      refine ru_back hK (by exact ⟨((F32.at 3 rfl : Bk _ w.heap.size 25 #[.slice a1 b.accs.length c, .slice a2 b.mvs.length c2])).cell 0, ((F32.at 3 rfl : Bk _ w.heap.size 25 #[.slice a1 b.accs.length c, .slice a2 b.mvs.length c2])).cell 1⟩) (fun hHeld => ?_)
      clear hK K
      (try simp only [Act.put, List.setIfInBounds_toArray, List.set_cons_zero, List.set_cons_succ])
      refine ru_one 9 rfl (by kernel_rfl) (fun K hK => ?_)
      have F35 : Bun w [rbox (w.heap.size + 1) 25 #[.slice none 0 0, .slice none 0 0], rown mvEnc 76 4 w.heap.size (.slice pa33 b.mvs.length pc34) b.mvs, rown accEnc 79 6 w.heap.size (.slice pa28 b.accs.length pc29) b.accs, rbox w.heap.size 25 #[.slice a1 b.accs.length c, .slice a2 b.mvs.length c2], rbook lo hi (.slice a1 b.accs.length c) (.slice a2 b.mvs.length c2) b] _ := F32.front 2 rfl rfl
      clear F32
      have kb : Bk _ (w.heap.size + 1) 25 #[.slice none 0 0, .slice none 0 0] := F35.at 0 rfl
      have kc := kb.c2
      have kl := kb.lt
      go_simp
      clear kc kl kb
      have F36 : Bun w [rbox (w.heap.size + 1) 25 #[.slice pa28 b.accs.length pc29, .slice pa33 b.mvs.length pc34], rown mvEnc 76 4 w.heap.size (.slice pa33 b.mvs.length pc34) b.mvs, rown accEnc 79 6 w.heap.size (.slice pa28 b.accs.length pc29) b.accs, rbox w.heap.size 25 #[.slice a1 b.accs.length c, .slice a2 b.mvs.length c2], rbook lo hi (.slice a1 b.accs.length c) (.slice a2 b.mvs.length c2) b] _ := (F35.set 0 (.slice pa28 b.accs.length pc29)).set 1 (.slice pa33 b.mvs.length pc34)
      clear F35
      refine ru_back_late hK (by kernel_rfl) ?_
      clear hK K
      (try simp only [Act.put, List.setIfInBounds_toArray, List.set_cons_zero, List.set_cons_succ])
      refine ru_done (by kernel_rfl) ?_
      have kb : Bk _ (w.heap.size + 1) 25 #[.slice pa28 b.accs.length pc29, .slice pa33 b.mvs.length pc34] := F36.at 0 rfl
      have kc := kb.c2
      go_wp2_with fail
      exact bodyPost_ret (v := .agg #[.slice pa28 b.accs.length pc29, .slice pa33 b.mvs.length pc34]) (by simp [results, Try.results19, go_sem, kc]) rfl ⟨_, _, rfl, ⟨((F36.at 2 rfl : Own accEnc 79 6 w.heap.size _ (.slice pa28 b.accs.length pc29) b.accs)).sl (fun _ => rfl), ((F36.at 1 rfl : Own mvEnc 76 4 w.heap.size _ (.slice pa33 b.mvs.length pc34) b.mvs)).sl (fun _ => rfl)⟩, F36.gb⟩
  · intro K hK
    go_simp
    have F37 : Bun w [rbox (w.heap.size + 2) 76 #[], rbox (w.heap.size + 1) 25 #[.slice none 0 0, .slice none 0 0], rbox w.heap.size 25 #[.slice a1 b.accs.length c, .slice a2 b.mvs.length c2], rbook lo hi (.slice a1 b.accs.length c) (.slice a2 b.mvs.length c2) b] _ := F10.new 76 #[] (n := (w.heap.size + 2)) (by simp)
    clear F10
    refine ru_back hK (by exact ⟨((F37.at 2 rfl : Bk _ w.heap.size 25 #[.slice a1 b.accs.length c, .slice a2 b.mvs.length c2])).cell 0, ((F37.at 2 rfl : Bk _ w.heap.size 25 #[.slice a1 b.accs.length c, .slice a2 b.mvs.length c2])).cell 1⟩) (fun hHeld => ?_)
    clear hK K
    (try simp only [Act.put, List.setIfInBounds_toArray, List.set_cons_zero, List.set_cons_succ])
    refine ru_one 0 rfl (by kernel_rfl) (fun K hK => ?_)
    go_simp
    have F38 : Bun w [rbox (w.heap.size + 3) 79 #[], rbox (w.heap.size + 2) 76 #[], rbox (w.heap.size + 1) 25 #[.slice none 0 0, .slice none 0 0], rbox w.heap.size 25 #[.slice a1 b.accs.length c, .slice a2 b.mvs.length c2], rbook lo hi (.slice a1 b.accs.length c) (.slice a2 b.mvs.length c2) b] _ := F37.new 79 #[] (n := (w.heap.size + 3)) (by simp)
    clear F37
    refine ru_back hK (by exact ⟨((F38.at 3 rfl : Bk _ w.heap.size 25 #[.slice a1 b.accs.length c, .slice a2 b.mvs.length c2])).cell 0, ((F38.at 3 rfl : Bk _ w.heap.size 25 #[.slice a1 b.accs.length c, .slice a2 b.mvs.length c2])).cell 1⟩) (fun hHeld => ?_)
    clear hK K
    (try simp only [Act.put, List.setIfInBounds_toArray, List.set_cons_zero, List.set_cons_succ])
    refine ru_one 3 rfl (by kernel_rfl) (fun K hK => ?_)
    refine step_copyB okAc rfl _ _ rfl w.heap.size (w.heap.size + 3) rfl F38 ((F38.ltAt 0 rfl _ rfl).2 rfl) _ _ _ b.accs rfl ((F38.at 4 rfl : HasB lo hi _ (.slice a1 b.accs.length c) (.slice a2 b.mvs.length c2) b)).1 (by omega) ?_
    intro xaw39 w39 F40 hsz_
    (try simp at hsz_)
    obtain ⟨pa41, pc42, e_⟩ := (Own.sl (F40.at 0 rfl : Own accEnc 79 6 w.heap.size _ xaw39 b.accs) (fun _ => rfl)).any
    subst e_
    refine ru_back hK (by exact ⟨((F40.at 3 rfl : Bk _ w.heap.size 25 #[.slice a1 b.accs.length c, .slice a2 b.mvs.length c2])).cell 0, ((F40.at 3 rfl : Bk _ w.heap.size 25 #[.slice a1 b.accs.length c, .slice a2 b.mvs.length c2])).cell 1⟩) (fun hHeld => ?_)
    clear hK K
    (try simp only [Act.put, List.setIfInBounds_toArray, List.set_cons_zero, List.set_cons_succ])
    refine ru_one 7 rfl (by kernel_rfl) (fun K hK => ?_)
    have F43 : Bun w [rbox (w.heap.size + 2) 76 #[], rown accEnc 79 6 w.heap.size (.slice pa41 b.accs.length pc42) b.accs, rbox (w.heap.size + 1) 25 #[.slice none 0 0, .slice none 0 0], rbox w.heap.size 25 #[.slice a1 b.accs.length c, .slice a2 b.mvs.length c2], rbook lo hi (.slice a1 b.accs.length c) (.slice a2 b.mvs.length c2) b] _ := F40.front 1 rfl rfl
    clear F40
    refine step_copyB okMv rfl _ _ rfl w.heap.size (w.heap.size + 2) rfl F43 ((F43.ltAt 0 rfl _ rfl).2 rfl) _ _ _ b.mvs rfl ((F43.at 4 rfl : HasB lo hi _ (.slice a1 b.accs.length c) (.slice a2 b.mvs.length c2) b)).2 (by omega) ?_
    intro xmw44 w44 F45 hsz_
    (try simp at hsz_)
    obtain ⟨pa46, pc47, e_⟩ := (Own.sl (F45.at 0 rfl : Own mvEnc 76 4 w.heap.size _ xmw44 b.mvs) (fun _ => rfl)).any
    subst e_
    refine ru_back hK (by exact ⟨((F45.at 3 rfl : Bk _ w.heap.size 25 #[.slice a1 b.accs.length c, .slice a2 b.mvs.length c2])).cell 0, ((F45.at 3 rfl : Bk _ w.heap.size 25 #[.slice a1 b.accs.length c, .slice a2 b.mvs.length c2])).cell 1⟩) (fun hHeld => ?_)
    clear hK K
    (try simp only [Act.put, List.setIfInBounds_toArray, List.set_cons_zero, List.set_cons_succ])
    refine ru_one 8 rfl (by kernel_rfl) (fun K hK => ?_)
    go_simp
    refine ru_back hK (by exact ⟨((F45.at 3 rfl : Bk _ w.heap.size 25 #[.slice a1 b.accs.length c, .slice a2 b.mvs.length c2])).cell 0, ((F45.at 3 rfl : Bk _ w.heap.size 25 #[.slice a1 b.accs.length c, .slice a2 b.mvs.length c2])).cell 1⟩) (fun hHeld => ?_)
    clear hK K
    (try simp only [Act.put, List.setIfInBounds_toArray, List.set_cons_zero, List.set_cons_succ])
    refine ru_one 9 rfl (by kernel_rfl) (fun K hK => ?_)
    have F48 : Bun w [rbox (w.heap.size + 1) 25 #[.slice none 0 0, .slice none 0 0], rown mvEnc 76 4 w.heap.size (.slice pa46 b.mvs.length pc47) b.mvs, rown accEnc 79 6 w.heap.size (.slice pa41 b.accs.length pc42) b.accs, rbox w.heap.size 25 #[.slice a1 b.accs.length c, .slice a2 b.mvs.length c2], rbook lo hi (.slice a1 b.accs.length c) (.slice a2 b.mvs.length c2) b] _ := F45.front 2 rfl rfl
    clear F45
    have kb : Bk _ (w.heap.size + 1) 25 #[.slice none 0 0, .slice none 0 0] := F48.at 0 rfl
    have kc := kb.c2
    have kl := kb.lt
    go_simp
    clear kc kl kb
    have F49 : Bun w [rbox (w.heap.size + 1) 25 #[.slice pa41 b.accs.length pc42, .slice pa46 b.mvs.length pc47], rown mvEnc 76 4 w.heap.size (.slice pa46 b.mvs.length pc47) b.mvs, rown accEnc 79 6 w.heap.size (.slice pa41 b.accs.length pc42) b.accs, rbox w.heap.size 25 #[.slice a1 b.accs.length c, .slice a2 b.mvs.length c2], rbook lo hi (.slice a1 b.accs.length c) (.slice a2 b.mvs.length c2) b] _ := (F48.set 0 (.slice pa41 b.accs.length pc42)).set 1 (.slice pa46 b.mvs.length pc47)
    clear F48
    refine ru_back_late hK (by kernel_rfl) ?_
    clear hK K
    (try simp only [Act.put, List.setIfInBounds_toArray, List.set_cons_zero, List.set_cons_succ])
    refine ru_done (by kernel_rfl) ?_
    have kb : Bk _ (w.heap.size + 1) 25 #[.slice pa41 b.accs.length pc42, .slice pa46 b.mvs.length pc47] := F49.at 0 rfl
    have kc := kb.c2
    go_wp2_with fail
    exact bodyPost_ret (v := .agg #[.slice pa41 b.accs.length pc42, .slice pa46 b.mvs.length pc47]) (by simp [results, Try.results19, go_sem, kc]) rfl ⟨_, _, rfl, ⟨((F49.at 2 rfl : Own accEnc 79 6 w.heap.size _ (.slice pa41 b.accs.length pc42) b.accs)).sl (fun _ => rfl), ((F49.at 1 rfl : Own mvEnc 76 4 w.heap.size _ (.slice pa46 b.mvs.length pc47) b.mvs)).sl (fun _ => rfl)⟩, F49.gb⟩
end Go.Proofs.Ytfifldbinnkdmaa
