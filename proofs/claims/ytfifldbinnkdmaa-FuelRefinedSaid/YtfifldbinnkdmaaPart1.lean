/- fuel: a copy of a book, each row in a block of its own; parts of spans. -/
import Derived.Test.YtfifldbinnkdmaaKitB
import Derived.Test.YtfifldbinnkdmaaAppS
import Derived.Test.YtfifldbinnkdmaaKP
import Derived.Test.YtfifldbinnkdmaaJoin2
import Derived.Test.YtfifldbinnkdmaaK1
import Derived.Test.YtfifldbinnkdmaaHasB
set_option linter.unusedVariables false
set_option linter.unusedSimpArgs false
set_option linter.unnecessarySimpa false
namespace Go.Proofs.Ytfifldbinnkdmaa
open Go.RowKit Go.Shelf
set_option maxRecDepth 100000

/-- A book of the call's own, each row in a block of its own. -/
def BookNewB (b : Bok) (w : World) (e : Ending) (w' : World) : Prop := ∃ (a1 : Option Addr) (c1 : Nat) (a2 : Option Addr) (c2 : Nat), e = .returned (.agg #[.slice a1 b.accs.length c1, .slice a2 b.mvs.length c2]) ∧
  Bun w [rown accEnc 79 6 w.heap.size (.slice a1 b.accs.length c1) b.accs, rown mvEnc 76 4 w.heap.size (.slice a2 b.mvs.length c2) b.mvs] w'
set_option maxHeartbeats 8000000 in
theorem ownBook_b (l1 h1 l2 h2 : Nat) (va vm : Value) (b : Bok) (w : World) (ha : Accs l1 h1 w va b.accs) (hm : Mvs l2 h2 w vm b.mvs) (b1 : h1 ≤ w.heap.size) (b2 : h2 ≤ w.heap.size) (hs1 : b.accs.length ≤ 100000000000) (hs2 : b.mvs.length ≤ 100000000000) :
    Calls Try.prog 19 #[.agg #[va, vm]] w (BookNewB b w) := by
  have F1 : Bun w [] w := Bun.nil _
  have hm_ac := ha.len
  unfold maxLen at hm_ac
  obtain ⟨aa, ak, rfl⟩ := ha.any
  have F2 := F1.sl0 ha b1 rfl
  clear F1
  clear ha
  have hm_mv := hm.len
  unfold maxLen at hm_mv
  obtain ⟨ma, mk, rfl⟩ := hm.any
  have F3 := F2.sl0 hm b2 rfl
  clear F2
  clear hm
  go_enter Try.func19, Try.ntmps19
  go_wp2_with fail
  have F4 := F3.new 25 #[.slice aa b.accs.length ak, .slice ma b.mvs.length mk] (n := w.heap.size) (by simp)
  clear F3
  have F5 := F4.new 25 #[.slice none 0 0, .slice none 0 0] (n := (w.heap.size + 1)) (by simp)
  clear F4
  obtain ⟨w6, hx7, F9, hxs8⟩ := (show Bun w [rbox (w.heap.size + 1) 25 #[.slice none 0 0, .slice none 0 0], rbox w.heap.size 25 #[.slice aa b.accs.length ak, .slice ma b.mvs.length mk], rsl mvEnc 4 l2 h2 (.slice ma b.mvs.length mk) b.mvs, rsl accEnc 6 l1 h1 (.slice aa b.accs.length ak) b.accs] _ from F5).name
  (try simp at hxs8)
  rw [hx7]
  clear hx7 F5
  have F10 := F9.drew
  clear F9
  refine ru_begin (fun W => W.cell? ⟨w.heap.size, 0, none⟩ = some (.slice aa b.accs.length ak) ∧ W.cell? ⟨w.heap.size, 1, none⟩ = some (.slice ma b.mvs.length mk)) 9 (by kernel_rfl) ?_ ?_
  · exact ⟨F10.cl 1 0 rfl rfl, F10.cl 1 1 rfl rfl⟩
  obtain ⟨wd12, hwd_⟩ : ∃ x : World, w6.drew = x := ⟨_, rfl⟩
  rw [hwd_] at F10 ⊢
  have wd12s : w6.heap.size ≤ wd12.heap.size := by rw [← hwd_]; exact Nat.le_refl _
  clear hwd_
  have hS11 := (And.intro (F10.cl 1 0 rfl rfl) (F10.cl 1 1 rfl rfl))
  refine ru_t 1 [] ?_
  refine ru_t 2 [] ?_
  refine ru_t 5 [] ?_
  refine ru_t 6 [] ?_
  (try simp only [Act.put, List.setIfInBounds_toArray, List.set_cons_zero, List.set_cons_succ])
  clear hS11
  refine ru_two 0 4 rfl rfl (by kernel_rfl) ?_ ?_
  · intro K hK
    go_simp
    have F13 := F10.new 79 #[] (n := wd12.heap.size) (by simp)
    clear F10
    refine ru_back hK (by exact ⟨F13.cl 2 0 rfl rfl, F13.cl 2 1 rfl rfl⟩) (fun hHeld => ?_)
    clear hK K
    (try simp only [Act.put, List.setIfInBounds_toArray, List.set_cons_zero, List.set_cons_succ])
    refine ru_two 3 4 rfl rfl (by kernel_rfl) ?_ ?_
    · intro K hK
      refine step_copyB okAc rfl _ _ rfl w.heap.size wd12.heap.size rfl (F13) (by first | omega | (simp; omega)) l1 h1 (.slice aa b.accs.length ak) b.accs rfl (F13.at 4 rfl) (by omega) ?_
      intro vc14 w15 hB16 hs17
      (try simp at hs17)
      have F18 := hB16
      clear F13
      obtain ⟨ca19, cap20, e_⟩ := (Own.sl (F18.at 0 rfl : Own accEnc 79 6 w.heap.size _ vc14 b.accs) (fun _ => rfl)).any
      subst e_
      refine ru_back hK (by exact ⟨F18.cl 2 0 rfl rfl, F18.cl 2 1 rfl rfl⟩) (fun hHeld => ?_)
      clear hK K
      (try simp only [Act.put, List.setIfInBounds_toArray, List.set_cons_zero, List.set_cons_succ])
      refine ru_one 4 rfl (by kernel_rfl) (fun K hK => ?_)
      go_simp
      have F21 := F18.new 76 #[] (n := w15.heap.size) (by simp)
      clear F18
      refine ru_back hK (by exact ⟨F21.cl 3 0 rfl rfl, F21.cl 3 1 rfl rfl⟩) (fun hHeld => ?_)
      clear hK K
      (try simp only [Act.put, List.setIfInBounds_toArray, List.set_cons_zero, List.set_cons_succ])
      refine ru_one 7 rfl (by kernel_rfl) (fun K hK => ?_)
      refine step_copyB okMv rfl _ _ rfl w.heap.size w15.heap.size rfl (F21) (by first | omega | (simp; omega)) l2 h2 (.slice ma b.mvs.length mk) b.mvs rfl (F21.at 4 rfl) (by omega) ?_
      intro vc22 w23 hB24 hs25
      (try simp at hs25)
      have F26 := hB24
      clear F21
      obtain ⟨ca27, cap28, e_⟩ := (Own.sl (F26.at 0 rfl : Own mvEnc 76 4 w.heap.size _ vc22 b.mvs) (fun _ => rfl)).any
      subst e_
      refine ru_back hK (by exact ⟨F26.cl 3 0 rfl rfl, F26.cl 3 1 rfl rfl⟩) (fun hHeld => ?_)
      clear hK K
      (try simp only [Act.put, List.setIfInBounds_toArray, List.set_cons_zero, List.set_cons_succ])
      refine ru_p 8 ?_
      (try simp only [Act.put, List.setIfInBounds_toArray, List.set_cons_zero, List.set_cons_succ])
      refine ru_one 9 rfl (by kernel_rfl) (fun K hK => ?_)
      have kb_ := F26.bx2 2 rfl
      go_simp
      clear kb_
      have F29 := (F26.front 2 rfl rfl).pt2 (.slice ca19 b.accs.length cap20) (.slice ca27 b.mvs.length cap28)
      clear F26
      refine ru_back_late hK (by kernel_rfl) ?_
      clear hK K
      (try simp only [Act.put, List.setIfInBounds_toArray, List.set_cons_zero, List.set_cons_succ])
      refine ru_done (by kernel_rfl) ?_
      obtain ⟨w30, hx31, F33, hxs32⟩ := (show Bun w [rbox (w.heap.size + 1) 25 #[.slice ca19 b.accs.length cap20, .slice ca27 b.mvs.length cap28], rown mvEnc 76 4 w.heap.size (.slice ca27 b.mvs.length cap28) b.mvs, rown accEnc 79 6 w.heap.size (.slice ca19 b.accs.length cap20) b.accs, rsl mvEnc 4 l2 h2 (.slice ma b.mvs.length mk) b.mvs, rsl accEnc 6 l1 h1 (.slice aa b.accs.length ak) b.accs] _ from (F29.drop 3 rfl)).name
      (try simp at hxs32)
      rw [hx31]
      clear hx31 F29
      go_wp2_with fail
      have kb34 := F33.bx2 0 rfl
      go_wp2_with fail
      exact bodyPost_ret (v := .agg #[.slice ca19 b.accs.length cap20, .slice ca27 b.mvs.length cap28]) (by simp [results, Try.results19, go_sem, kb34]) rfl (⟨_, _, _, _, rfl, F33.pick [2, 1] (by decide) rfl⟩)
    · intro K hK
      go_simp
      have F35 := F13.new 76 #[] (n := (wd12.heap.size + 1)) (by simp)
      clear F13
      refine ru_back hK (by exact ⟨F35.cl 3 0 rfl rfl, F35.cl 3 1 rfl rfl⟩) (fun hHeld => ?_)
      clear hK K
      (try simp only [Act.put, List.setIfInBounds_toArray, List.set_cons_zero, List.set_cons_succ])
      refine ru_one 3 rfl (by kernel_rfl) (fun K hK => ?_)
      refine step_copyB okAc rfl _ _ rfl w.heap.size wd12.heap.size rfl ((F35.front 1 rfl rfl)) (by first | omega | (simp; omega)) l1 h1 (.slice aa b.accs.length ak) b.accs rfl ((F35.front 1 rfl rfl).at 5 rfl) (by omega) ?_
      intro vc36 w37 hB38 hs39
      (try simp at hs39)
      have F40 := hB38
      clear F35
      obtain ⟨ca41, cap42, e_⟩ := (Own.sl (F40.at 0 rfl : Own accEnc 79 6 w.heap.size _ vc36 b.accs) (fun _ => rfl)).any
      subst e_
      refine ru_back hK (by exact ⟨F40.cl 3 0 rfl rfl, F40.cl 3 1 rfl rfl⟩) (fun hHeld => ?_)
      clear hK K
      (try simp only [Act.put, List.setIfInBounds_toArray, List.set_cons_zero, List.set_cons_succ])
      refine ru_one 7 rfl (by kernel_rfl) (fun K hK => ?_)
      refine step_copyB okMv rfl _ _ rfl w.heap.size (wd12.heap.size + 1) rfl ((F40.front 1 rfl rfl)) (by first | omega | (simp; omega)) l2 h2 (.slice ma b.mvs.length mk) b.mvs rfl ((F40.front 1 rfl rfl).at 4 rfl) (by omega) ?_
      intro vc43 w44 hB45 hs46
      (try simp at hs46)
      have F47 := hB45
      clear F40
      obtain ⟨ca48, cap49, e_⟩ := (Own.sl (F47.at 0 rfl : Own mvEnc 76 4 w.heap.size _ vc43 b.mvs) (fun _ => rfl)).any
      subst e_
      refine ru_back hK (by exact ⟨F47.cl 3 0 rfl rfl, F47.cl 3 1 rfl rfl⟩) (fun hHeld => ?_)
      clear hK K
      (try simp only [Act.put, List.setIfInBounds_toArray, List.set_cons_zero, List.set_cons_succ])
      refine ru_p 8 ?_
      (try simp only [Act.put, List.setIfInBounds_toArray, List.set_cons_zero, List.set_cons_succ])
      refine ru_one 9 rfl (by kernel_rfl) (fun K hK => ?_)
      have kb_ := F47.bx2 2 rfl
      go_simp
      clear kb_
      have F50 := (F47.front 2 rfl rfl).pt2 (.slice ca41 b.accs.length cap42) (.slice ca48 b.mvs.length cap49)
      clear F47
      refine ru_back_late hK (by kernel_rfl) ?_
      clear hK K
      (try simp only [Act.put, List.setIfInBounds_toArray, List.set_cons_zero, List.set_cons_succ])
      refine ru_done (by kernel_rfl) ?_
      obtain ⟨w51, hx52, F54, hxs53⟩ := (show Bun w [rbox (w.heap.size + 1) 25 #[.slice ca41 b.accs.length cap42, .slice ca48 b.mvs.length cap49], rown mvEnc 76 4 w.heap.size (.slice ca48 b.mvs.length cap49) b.mvs, rown accEnc 79 6 w.heap.size (.slice ca41 b.accs.length cap42) b.accs, rsl mvEnc 4 l2 h2 (.slice ma b.mvs.length mk) b.mvs, rsl accEnc 6 l1 h1 (.slice aa b.accs.length ak) b.accs] _ from (F50.drop 3 rfl)).name
      (try simp at hxs53)
      rw [hx52]
      clear hx52 F50
      go_wp2_with fail
      have kb55 := F54.bx2 0 rfl
      go_wp2_with fail
      exact bodyPost_ret (v := .agg #[.slice ca41 b.accs.length cap42, .slice ca48 b.mvs.length cap49]) (by simp [results, Try.results19, go_sem, kb55]) rfl (⟨_, _, _, _, rfl, F54.pick [2, 1] (by decide) rfl⟩)
  · intro K hK
    go_simp
    have F56 := F10.new 76 #[] (n := wd12.heap.size) (by simp)
    clear F10
    refine ru_back hK (by exact ⟨F56.cl 2 0 rfl rfl, F56.cl 2 1 rfl rfl⟩) (fun hHeld => ?_)
    clear hK K
    (try simp only [Act.put, List.setIfInBounds_toArray, List.set_cons_zero, List.set_cons_succ])
    refine ru_one 0 rfl (by kernel_rfl) (fun K hK => ?_)
    go_simp
    have F57 := F56.new 79 #[] (n := (wd12.heap.size + 1)) (by simp)
    clear F56
    refine ru_back hK (by exact ⟨F57.cl 3 0 rfl rfl, F57.cl 3 1 rfl rfl⟩) (fun hHeld => ?_)
    clear hK K
    (try simp only [Act.put, List.setIfInBounds_toArray, List.set_cons_zero, List.set_cons_succ])
    refine ru_one 3 rfl (by kernel_rfl) (fun K hK => ?_)
    refine step_copyB okAc rfl _ _ rfl w.heap.size (wd12.heap.size + 1) rfl (F57) (by first | omega | (simp; omega)) l1 h1 (.slice aa b.accs.length ak) b.accs rfl (F57.at 5 rfl) (by omega) ?_
    intro vc58 w59 hB60 hs61
    (try simp at hs61)
    have F62 := hB60
    clear F57
    obtain ⟨ca63, cap64, e_⟩ := (Own.sl (F62.at 0 rfl : Own accEnc 79 6 w.heap.size _ vc58 b.accs) (fun _ => rfl)).any
    subst e_
    refine ru_back hK (by exact ⟨F62.cl 3 0 rfl rfl, F62.cl 3 1 rfl rfl⟩) (fun hHeld => ?_)
    clear hK K
    (try simp only [Act.put, List.setIfInBounds_toArray, List.set_cons_zero, List.set_cons_succ])
    refine ru_one 7 rfl (by kernel_rfl) (fun K hK => ?_)
    refine step_copyB okMv rfl _ _ rfl w.heap.size wd12.heap.size rfl ((F62.front 1 rfl rfl)) (by first | omega | (simp; omega)) l2 h2 (.slice ma b.mvs.length mk) b.mvs rfl ((F62.front 1 rfl rfl).at 4 rfl) (by omega) ?_
    intro vc65 w66 hB67 hs68
    (try simp at hs68)
    have F69 := hB67
    clear F62
    obtain ⟨ca70, cap71, e_⟩ := (Own.sl (F69.at 0 rfl : Own mvEnc 76 4 w.heap.size _ vc65 b.mvs) (fun _ => rfl)).any
    subst e_
    refine ru_back hK (by exact ⟨F69.cl 3 0 rfl rfl, F69.cl 3 1 rfl rfl⟩) (fun hHeld => ?_)
    clear hK K
    (try simp only [Act.put, List.setIfInBounds_toArray, List.set_cons_zero, List.set_cons_succ])
    refine ru_p 8 ?_
    (try simp only [Act.put, List.setIfInBounds_toArray, List.set_cons_zero, List.set_cons_succ])
    refine ru_one 9 rfl (by kernel_rfl) (fun K hK => ?_)
    have kb_ := F69.bx2 2 rfl
    go_simp
    clear kb_
    have F72 := (F69.front 2 rfl rfl).pt2 (.slice ca63 b.accs.length cap64) (.slice ca70 b.mvs.length cap71)
    clear F69
    refine ru_back_late hK (by kernel_rfl) ?_
    clear hK K
    (try simp only [Act.put, List.setIfInBounds_toArray, List.set_cons_zero, List.set_cons_succ])
    refine ru_done (by kernel_rfl) ?_
    obtain ⟨w73, hx74, F76, hxs75⟩ := (show Bun w [rbox (w.heap.size + 1) 25 #[.slice ca63 b.accs.length cap64, .slice ca70 b.mvs.length cap71], rown mvEnc 76 4 w.heap.size (.slice ca70 b.mvs.length cap71) b.mvs, rown accEnc 79 6 w.heap.size (.slice ca63 b.accs.length cap64) b.accs, rsl mvEnc 4 l2 h2 (.slice ma b.mvs.length mk) b.mvs, rsl accEnc 6 l1 h1 (.slice aa b.accs.length ak) b.accs] _ from (F72.drop 3 rfl)).name
    (try simp at hxs75)
    rw [hx74]
    clear hx74 F72
    go_wp2_with fail
    have kb77 := F76.bx2 0 rfl
    go_wp2_with fail
    exact bodyPost_ret (v := .agg #[.slice ca63 b.accs.length cap64, .slice ca70 b.mvs.length cap71]) (by simp [results, Try.results19, go_sem, kb77]) rfl (⟨_, _, _, _, rfl, F76.pick [2, 1] (by decide) rfl⟩)

set_option maxHeartbeats 8000000 in
theorem partOf_c (sb : Nat) (x : Sp) (n : Int) (w : World) (hs : SeedAt w sb) (hx : x.lo ≤ n ∧ n ≤ x.hi) (hb : 0 ≤ x.lo ∧ x.hi ≤ 1000000000) :
    Calls Try.prog 90 #[.agg #[.pointer (some ⟨sb, 0, none⟩)], .agg #[.int .i64 x.lo, .int .i64 x.hi], .int .i64 n] w (fun e w' => ∃ c : Sp, e = .returned (.agg #[.int .i64 c.lo, .int .i64 c.hi]) ∧ partS c x n ∧ SeedAt w' sb ∧ w.grownBy w' (some sb)) := by
  have F1 : Bus w sb [rseed sb] w := Bus.ofSeed hs
  have hsl := hs.lt
  clear hs
  go_enter Try.func90, Try.ntmps90
  go_wp2_with fail
  have F6 := F1.new 126 #[.pointer (some ⟨sb, 0, none⟩)] (n := w.heap.size) (by simp)
  clear F1
  have F7 := F6.new 40 #[.int .i64 x.lo, .int .i64 x.hi] (n := (w.heap.size + 1)) (by simp)
  clear F6
  have F8 := F7.new 40 #[.int .i64 0, .int .i64 0] (n := (w.heap.size + 2)) (by simp)
  clear F7
  obtain ⟨w9, hx10, F12, hxs11⟩ := (show Bus w sb [rbox (w.heap.size + 2) 40 #[.int .i64 0, .int .i64 0], rbox (w.heap.size + 1) 40 #[.int .i64 x.lo, .int .i64 x.hi], rbox w.heap.size 126 #[.pointer (some ⟨sb, 0, none⟩)], rseed sb] _ from F8).name
  (try simp at hxs11)
  rw [hx10]
  clear hx10 F8
  have F13 := F12.drew
  clear F12
  refine ru_begin (fun W => W.cell? ⟨w.heap.size, 0, none⟩ = some (.pointer (some ⟨sb, 0, none⟩)) ∧ W.cell? ⟨(w.heap.size + 1), 0, none⟩ = some (.int .i64 x.lo) ∧ W.cell? ⟨(w.heap.size + 1), 1, none⟩ = some (.int .i64 x.hi)) 13 (by kernel_rfl) ?_ ?_
  · exact ⟨F13.cl 2 0 rfl rfl, F13.cl 1 0 rfl rfl, F13.cl 1 1 rfl rfl⟩
  obtain ⟨wd15, hwd_⟩ : ∃ x : World, w9.drew = x := ⟨_, rfl⟩
  rw [hwd_] at F13 ⊢
  have wd15s : w9.heap.size ≤ wd15.heap.size := by rw [← hwd_]; exact Nat.le_refl _
  clear hwd_
  have hS14 := (And.intro (F13.cl 2 0 rfl rfl) (And.intro (F13.cl 1 0 rfl rfl) (F13.cl 1 1 rfl rfl)))
  refine ru_t 0 [] ?_
  refine ru_t 1 [] ?_
  refine ru_t 2 [] ?_
  refine ru_t 3 [] ?_
  refine ru_t 4 [] ?_
  refine ru_t 6 [] ?_
  refine ru_t 7 [] ?_
  refine ru_t 8 [] ?_
  refine ru_t 9 [] ?_
  refine ru_t 10 [] ?_
  (try simp only [Act.put, List.setIfInBounds_toArray, List.set_cons_zero, List.set_cons_succ])
  clear hS14
  refine ru_one 5 rfl (by kernel_rfl) (fun K hK => ?_)
  go_simp
  refine (from_c sb x.lo n _ (F13.at 3 rfl : SeedAt _ sb) (by omega) (by omega) (by omega) (by omega)).mono ?_
  rintro e w20 ⟨r16, rfl, hr17, hs19, hg18⟩
  unfold fromR at hr17; have hr17b : x.lo ≤ r16 ∧ r16 ≤ n := (by omega); clear hr17
  have hg18s := hg18.size
  (try simp at hg18s)
  have F21 := F13.seedAt 3 rfl hg18 hs19
  clear F13
  refine ru_back hK (by exact ⟨F21.cl 2 0 rfl rfl, F21.cl 1 0 rfl rfl, F21.cl 1 1 rfl rfl⟩) (fun hHeld => ?_)
  clear hK K
  (try simp only [Act.put, List.setIfInBounds_toArray, List.set_cons_zero, List.set_cons_succ])
  refine ru_one 11 rfl (by kernel_rfl) (fun K hK => ?_)
  go_simp
  refine (from_c sb n x.hi _ (F21.at 3 rfl : SeedAt _ sb) (by omega) (by omega) (by omega) (by omega)).mono ?_
  rintro e w26 ⟨r22, rfl, hr23, hs25, hg24⟩
  unfold fromR at hr23; have hr23b : n ≤ r22 ∧ r22 ≤ x.hi := (by omega); clear hr23
  have hg24s := hg24.size
  (try simp at hg24s)
  have F27 := F21.seedAt 3 rfl hg24 hs25
  clear F21
  refine ru_back hK (by exact ⟨F27.cl 2 0 rfl rfl, F27.cl 1 0 rfl rfl, F27.cl 1 1 rfl rfl⟩) (fun hHeld => ?_)
  clear hK K
  (try simp only [Act.put, List.setIfInBounds_toArray, List.set_cons_zero, List.set_cons_succ])
  refine ru_p 12 ?_
  (try simp only [Act.put, List.setIfInBounds_toArray, List.set_cons_zero, List.set_cons_succ])
  refine ru_one 13 rfl (by kernel_rfl) (fun K hK => ?_)
  have kb_ := F27.bx2 0 rfl
  go_simp
  clear kb_
  have F28 := F27.pt2 (.int .i64 r16) (.int .i64 r22)
  clear F27
  refine ru_back_late hK (by kernel_rfl) ?_
  clear hK K
  (try simp only [Act.put, List.setIfInBounds_toArray, List.set_cons_zero, List.set_cons_succ])
  refine ru_done (by kernel_rfl) ?_
  obtain ⟨w29, hx30, F32, hxs31⟩ := (show Bus w sb [rbox (w.heap.size + 2) 40 #[.int .i64 r16, .int .i64 r22], rseed sb] _ from ((F28.drop 1 rfl).drop 1 rfl)).name
  (try simp at hxs31)
  rw [hx30]
  clear hx30 F28
  go_wp2_with fail
  have kb33 := F32.bx2 0 rfl
  go_wp2_with fail
  exact bodyPost_ret (v := .agg #[.int .i64 r16, .int .i64 r22]) (by simp [results, Try.results90, go_sem, kb33]) rfl (⟨⟨r16, r22⟩, rfl, ⟨⟨by simp only; omega, by simp only; omega⟩, by simp only; omega, by simp only; omega⟩, (F32.at 1 rfl : SeedAt _ sb), F32.gb⟩)

end Go.Proofs.Ytfifldbinnkdmaa
