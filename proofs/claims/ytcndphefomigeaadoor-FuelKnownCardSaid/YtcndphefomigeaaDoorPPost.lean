/- fuel: copies; a book with one more move. -/
import Derived.Test.YtcndphefomigeaaDoorPG9
import Derived.Test.YtcndphefomigeaaDoorPG7
import Derived.Test.YtcndphefomigeaaDoorPG10
import Derived.Test.YtcndphefomigeaaDoorPG11
import Derived.Test.YtcndphefomigeaaDoorPK1
import Derived.Test.YtcndphefomigeaaDoorPCheck
import Derived.Lib.SliceRun
set_option linter.unusedVariables false
set_option linter.unusedSimpArgs false
set_option linter.unnecessarySimpa false
namespace Go.Proofs.YtcndphefomigeaaDoor
open Go.RowKit Go.Shelf
set_option maxRecDepth 100000

/-- A copy is handed back. -/
def CloneP {α : Type} (enc : α → List Value) (e : TypeId) (sz b0 : Nat) (l : List α) (w : World) : Ending → World → Prop := fun en w' => ∃ (a : Option Addr) (c : Nat), en = .returned (.slice a l.length c) ∧ Own enc e sz b0 w' (.slice a l.length c) l ∧ (∀ g, (Value.slice a l.length c).ownBlock = some g → w.heap.size ≤ g ∧ g < w'.heap.size) ∧ w.grownBy w' none
theorem CloneP.of {α : Type} {enc : α → List Value} {e : TypeId} {sz b0 : Nat} {l : List α} {w w' : World} {a : Option Addr} {c : Nat} (hb : b0 ≤ w.heap.size) (hB : Bun w [rown enc e sz w.heap.size (.slice a l.length c) l] w') : CloneP enc e sz b0 l w (.returned (.slice a l.length c)) w' := by
  have ho : Own enc e sz w.heap.size w' (.slice a l.length c) l := hB.at 0 rfl
  refine ⟨a, c, rfl, ?_, ho.lt, hB.gb⟩
  obtain ⟨h1, h2⟩ := ho
  refine ⟨h1, ?_⟩
  rcases h2 with h2 | ⟨g, cap, cur, hv, hg, h3⟩
  · exact .inl h2
  · exact .inr ⟨g, cap, cur, hv, Nat.le_trans hb hg, h3⟩
theorem CloneP.nil {α : Type} {enc : α → List Value} {e : TypeId} {sz b0 : Nat} {w w' : World} (hg : w.grownBy w' none) : CloneP enc e sz b0 ([] : List α) w (.returned (.slice none 0 0)) w' := ⟨none, 0, rfl, Own.nil _ _ _ _ _, (fun _ h => by cases h), hg⟩
theorem Sl.nilOr {α : Type} {enc : α → List Value} {sz lo hi : Nat} {w : World} {v : Value} {l : List α} (h : Sl enc sz lo hi w v l) : (l = [] ∧ ∃ c, v = .slice none 0 c) ∨ ∃ x ox c, v = .slice (some ⟨x, ox, none⟩) l.length c ∨ (l = [] ∧ ∃ p, v = .slice (some p) 0 c) := by
  obtain ⟨_, a, c, rfl, h2⟩ := h
  rcases h2 with rfl | ⟨b, off, rfl, _⟩
  · cases a with
    | none => exact .inl ⟨rfl, c, rfl⟩
    | some p => exact .inr ⟨0, 0, c, .inr ⟨rfl, p, rfl⟩⟩
  · exact .inr ⟨b, off, c, .inl rfl⟩
set_option maxHeartbeats 4000000 in
theorem cloneAcc_nil (b0 c : Nat) (w : World) (hb : b0 ≤ w.heap.size) :
    Calls Tryd.prog 65 #[.slice none 0 c] w (CloneP accEnc 41 6 b0 ([] : List Acc) w) := by
  have F1 : Bun w [] w := Bun.nil _
  go_enter Tryd.func65, Tryd.ntmps65
  have hqn : ∀ W : World, (binOp .eql 35 (.slice none 0 c) (.slice none 0 0)).run Tryd.prog W = .ok (.bool true) W := fun W => by rw [Lib.run_eql_slice_nil W _ _ _ _ _ _ _ Tryd.underlying35]; rfl
  go_wp2_with fail
  exact bodyPost_ret (v := .slice none 0 0) (by simp [results, Tryd.results65, go_sem]) rfl (CloneP.nil F1.gb)

set_option maxHeartbeats 4000000 in
theorem cloneAcc_some (b0 lo hi : Nat) (p : Addr) (c : Nat) (l : List Acc) (w : World) (hl : Sl accEnc 6 lo hi w (.slice (some p) l.length c) l) (h2 : hi ≤ w.heap.size) (hs : l.length ≤ 100000000000) (hb : b0 ≤ w.heap.size) :
    Calls Tryd.prog 65 #[.slice (some p) l.length c] w (CloneP accEnc 41 6 b0 l w) := by
  have F1 : Bun w [] w := Bun.nil _
  have hm_ := hl.len
  unfold maxLen at hm_
  have F2 := F1.sl0 hl h2 rfl
  clear F1
  clear hl
  go_enter Tryd.func65, Tryd.ntmps65
  have hqn : ∀ W : World, (binOp .eql 35 (.slice (some p) l.length c) (.slice none 0 0)).run Tryd.prog W = .ok (.bool false) W := fun W => by rw [Lib.run_eql_slice_nil W _ _ _ _ _ _ _ Tryd.underlying35]; rfl
  go_wp2_with (at_builtin; refine wpList_copyB okAc rfl _ _ rfl w.heap.size w.heap.size rfl (F2.new 41 #[] (n := w.heap.size) (by simp)) (by first | omega | (simp; omega)) lo hi (.slice (some p) l.length c) l rfl ((F2.new 41 #[] (n := w.heap.size) (by simp)).at 1 rfl) (by omega) ?_; intro vc3 w4 hB5 hs6; refine Hid.out ?_)
  refine Lib.hid ?_
  (try simp at hs6)
  have F7 := hB5
  clear F2
  obtain ⟨ca8, cap9, e_⟩ := (Own.sl (F7.at 0 rfl : Own accEnc 41 6 w.heap.size _ vc3 l) (fun _ => rfl)).any
  subst e_
  go_wp2_with fail
  exact bodyPost_ret (v := .slice ca8 l.length cap9) (by simp [results, Tryd.results65, go_sem]) rfl (CloneP.of hb (F7.pick [0] (by decide) rfl))

theorem cloneAcc_c (b0 lo hi : Nat) (v : Value) (l : List Acc) (w : World) (hl : Sl accEnc 6 lo hi w v l) (h2 : hi ≤ w.heap.size) (hs : l.length ≤ 100000000000) (hb : b0 ≤ w.heap.size) : Calls Tryd.prog 65 #[v] w (CloneP accEnc 41 6 b0 l w) := by
  obtain ⟨a, c, rfl⟩ := hl.any
  cases a with
  | none =>
    have e : l = [] := by
      rcases hl.nilOr with ⟨rfl, _⟩ | ⟨x, ox, c', h | ⟨rfl, _⟩⟩
      · rfl
      · injection h with h; cases h
      · rfl
    subst e
    exact cloneAcc_nil b0 c w hb
  | some p => exact cloneAcc_some b0 lo hi p c l w hl h2 hs hb

set_option maxHeartbeats 4000000 in
theorem cloneMv_nil (b0 c : Nat) (w : World) (hb : b0 ≤ w.heap.size) :
    Calls Tryd.prog 66 #[.slice none 0 c] w (CloneP mvEnc 43 4 b0 ([] : List Mv) w) := by
  have F1 : Bun w [] w := Bun.nil _
  go_enter Tryd.func66, Tryd.ntmps66
  have hqn : ∀ W : World, (binOp .eql 36 (.slice none 0 c) (.slice none 0 0)).run Tryd.prog W = .ok (.bool true) W := fun W => by rw [Lib.run_eql_slice_nil W _ _ _ _ _ _ _ Tryd.underlying36]; rfl
  go_wp2_with fail
  exact bodyPost_ret (v := .slice none 0 0) (by simp [results, Tryd.results66, go_sem]) rfl (CloneP.nil F1.gb)

set_option maxHeartbeats 4000000 in
theorem cloneMv_some (b0 lo hi : Nat) (p : Addr) (c : Nat) (l : List Mv) (w : World) (hl : Sl mvEnc 4 lo hi w (.slice (some p) l.length c) l) (h2 : hi ≤ w.heap.size) (hs : l.length ≤ 100000000000) (hb : b0 ≤ w.heap.size) :
    Calls Tryd.prog 66 #[.slice (some p) l.length c] w (CloneP mvEnc 43 4 b0 l w) := by
  have F1 : Bun w [] w := Bun.nil _
  have hm_ := hl.len
  unfold maxLen at hm_
  have F2 := F1.sl0 hl h2 rfl
  clear F1
  clear hl
  go_enter Tryd.func66, Tryd.ntmps66
  have hqn : ∀ W : World, (binOp .eql 36 (.slice (some p) l.length c) (.slice none 0 0)).run Tryd.prog W = .ok (.bool false) W := fun W => by rw [Lib.run_eql_slice_nil W _ _ _ _ _ _ _ Tryd.underlying36]; rfl
  go_wp2_with (at_builtin; refine wpList_copyB okMv rfl _ _ rfl w.heap.size w.heap.size rfl (F2.new 43 #[] (n := w.heap.size) (by simp)) (by first | omega | (simp; omega)) lo hi (.slice (some p) l.length c) l rfl ((F2.new 43 #[] (n := w.heap.size) (by simp)).at 1 rfl) (by omega) ?_; intro vc3 w4 hB5 hs6; refine Hid.out ?_)
  refine Lib.hid ?_
  (try simp at hs6)
  have F7 := hB5
  clear F2
  obtain ⟨ca8, cap9, e_⟩ := (Own.sl (F7.at 0 rfl : Own mvEnc 43 4 w.heap.size _ vc3 l) (fun _ => rfl)).any
  subst e_
  go_wp2_with fail
  exact bodyPost_ret (v := .slice ca8 l.length cap9) (by simp [results, Tryd.results66, go_sem]) rfl (CloneP.of hb (F7.pick [0] (by decide) rfl))

theorem cloneMv_c (b0 lo hi : Nat) (v : Value) (l : List Mv) (w : World) (hl : Sl mvEnc 4 lo hi w v l) (h2 : hi ≤ w.heap.size) (hs : l.length ≤ 100000000000) (hb : b0 ≤ w.heap.size) : Calls Tryd.prog 66 #[v] w (CloneP mvEnc 43 4 b0 l w) := by
  obtain ⟨a, c, rfl⟩ := hl.any
  cases a with
  | none =>
    have e : l = [] := by
      rcases hl.nilOr with ⟨rfl, _⟩ | ⟨x, ox, c', h | ⟨rfl, _⟩⟩
      · rfl
      · injection h with h; cases h
      · rfl
    subst e
    exact cloneMv_nil b0 c w hb
  | some p => exact cloneMv_some b0 lo hi p c l w hl h2 hs hb

set_option maxHeartbeats 8000000 in
theorem fown_b (l1 h1 l2 h2 : Nat) (va vm : Value) (b : Bok) (w : World) (ha : Accs l1 h1 w va b.accs) (hm : Mvs l2 h2 w vm b.mvs) (b1 : h1 ≤ w.heap.size) (b2 : h2 ≤ w.heap.size) (hs1 : b.accs.length ≤ 100000000000) (hs2 : b.mvs.length ≤ 100000000000) :
    Calls Tryd.prog 56 #[.agg #[va, vm]] w (BookNewB b w) := by
  have F1 : Bun w [] w := Bun.nil _
  have hm_ac := ha.len
  unfold maxLen at hm_ac
  obtain ⟨aa, ak, rfl⟩ := ha.any
  have F2 := F1.sl0 ha b1 rfl
  clear F1
  clear ha
  have hm_mv := hm.len
  unfold maxLen at hm_mv
  obtain ⟨ma, mk, rfl⟩ := hm.any
  have F3 := F2.sl0 hm b2 rfl
  clear F2
  clear hm
  go_enter Tryd.func56, Tryd.ntmps56
  go_wp2_with fail
  have F4 := F3.new 38 #[.slice aa b.accs.length ak, .slice ma b.mvs.length mk] (n := w.heap.size) (by simp)
  clear F3
  have F5 := F4.new 38 #[.slice none 0 0, .slice none 0 0] (n := (w.heap.size + 1)) (by simp)
  clear F4
  obtain ⟨w6, hx7, F9, hxs8⟩ := (show Bun w [rbox (w.heap.size + 1) 38 #[.slice none 0 0, .slice none 0 0], rbox w.heap.size 38 #[.slice aa b.accs.length ak, .slice ma b.mvs.length mk], rsl mvEnc 4 l2 h2 (.slice ma b.mvs.length mk) b.mvs, rsl accEnc 6 l1 h1 (.slice aa b.accs.length ak) b.accs] _ from F5).name
  (try simp at hxs8)
  rw [hx7]
  clear hx7 F5
  have F10 := F9.drew
  clear F9
  refine ru_begin (fun W => W.cell? ⟨w.heap.size, 0, none⟩ = some (.slice aa b.accs.length ak) ∧ W.cell? ⟨w.heap.size, 1, none⟩ = some (.slice ma b.mvs.length mk)) 7 (by kernel_rfl) ?_ ?_
  · exact ⟨F10.cl 1 0 rfl rfl, F10.cl 1 1 rfl rfl⟩
  obtain ⟨wd12, hwd_⟩ : ∃ x : World, w6.drew = x := ⟨_, rfl⟩
  rw [hwd_] at F10 ⊢
  have wd12s : w6.heap.size ≤ wd12.heap.size := by rw [← hwd_]; exact Nat.le_refl _
  clear hwd_
  have hS11 := (And.intro (F10.cl 1 0 rfl rfl) (F10.cl 1 1 rfl rfl))
  refine ru_t 0 [] ?_
  refine ru_t 1 [] ?_
  refine ru_t 3 [] ?_
  refine ru_t 4 [] ?_
  (try simp only [Act.put, List.setIfInBounds_toArray, List.set_cons_zero, List.set_cons_succ])
  clear hS11
  refine ru_one 2 rfl (by kernel_rfl) (fun K hK => ?_)
  go_simp
  refine (cloneAcc_c w.heap.size _ _ _ b.accs _ (F10.at 3 rfl : Sl accEnc 6 l1 h1 _ (.slice aa b.accs.length ak) b.accs) (by first | omega | (simp; omega)) (by omega) F10.gb.size).mono ?_
  rintro e w15 ⟨acA, ccA, rfl, hocA, hxcA, hg13⟩
  have hg13s := hg13.size
  (try simp at hg13s)
  have F16 := F10.add (rown accEnc 41 6 w.heap.size (.slice acA b.accs.length ccA) b.accs) hg13 (hocA) (hxcA)
  clear F10
  refine ru_back hK (by exact ⟨F16.cl 2 0 rfl rfl, F16.cl 2 1 rfl rfl⟩) (fun hHeld => ?_)
  clear hK K
  (try simp only [Act.put, List.setIfInBounds_toArray, List.set_cons_zero, List.set_cons_succ])
  refine ru_one 5 rfl (by kernel_rfl) (fun K hK => ?_)
  go_simp
  refine (cloneMv_c w.heap.size _ _ _ b.mvs _ (F16.at 3 rfl : Sl mvEnc 4 l2 h2 _ (.slice ma b.mvs.length mk) b.mvs) (by first | omega | (simp; omega)) (by omega) F16.gb.size).mono ?_
  rintro e w19 ⟨acM, ccM, rfl, hocM, hxcM, hg17⟩
  have hg17s := hg17.size
  (try simp at hg17s)
  have F20 := F16.add (rown mvEnc 43 4 w.heap.size (.slice acM b.mvs.length ccM) b.mvs) hg17 (hocM) (hxcM)
  clear F16
  refine ru_back hK (by exact ⟨F20.cl 3 0 rfl rfl, F20.cl 3 1 rfl rfl⟩) (fun hHeld => ?_)
  clear hK K
  (try simp only [Act.put, List.setIfInBounds_toArray, List.set_cons_zero, List.set_cons_succ])
  refine ru_p 6 ?_
  (try simp only [Act.put, List.setIfInBounds_toArray, List.set_cons_zero, List.set_cons_succ])
  refine ru_one 7 rfl (by kernel_rfl) (fun K hK => ?_)
  have kb_ := F20.bx2 2 rfl
  go_simp
  clear kb_
  have F21 := (F20.front 2 rfl rfl).pt2 (.slice acA b.accs.length ccA) (.slice acM b.mvs.length ccM)
  clear F20
  refine ru_back_late hK (by kernel_rfl) ?_
  clear hK K
  (try simp only [Act.put, List.setIfInBounds_toArray, List.set_cons_zero, List.set_cons_succ])
  refine ru_done (by kernel_rfl) ?_
  obtain ⟨w22, hx23, F25, hxs24⟩ := (show Bun w [rbox (w.heap.size + 1) 38 #[.slice acA b.accs.length ccA, .slice acM b.mvs.length ccM], rown mvEnc 43 4 w.heap.size (.slice acM b.mvs.length ccM) b.mvs, rown accEnc 41 6 w.heap.size (.slice acA b.accs.length ccA) b.accs, rsl mvEnc 4 l2 h2 (.slice ma b.mvs.length mk) b.mvs, rsl accEnc 6 l1 h1 (.slice aa b.accs.length ak) b.accs] _ from (F21.drop 3 rfl)).name
  (try simp at hxs24)
  rw [hx23]
  clear hx23 F21
  go_wp2_with fail
  have kb26 := F25.bx2 0 rfl
  go_wp2_with fail
  exact bodyPost_ret (v := .agg #[.slice acA b.accs.length ccA, .slice acM b.mvs.length ccM]) (by simp [results, Tryd.results56, go_sem, kb26]) rfl (⟨_, _, _, _, rfl, F25.pick [2, 1] (by decide) rfl⟩)

/-- A book with one more move. -/
def PostB (b : Bok) (m : Mv) (w : World) : Ending → World → Prop := fun e w' => ∃ (a1 : Option Addr) (c1 : Nat) (a2 : Option Addr) (c2 lo hi : Nat), e = .returned (.tuple #[.agg #[.slice a1 b.accs.length c1, .slice a2 (b.mvs.length + 1) c2], .int .i64 0]) ∧ (w.heap.size ≤ lo ∧ hi ≤ w'.heap.size) ∧
  HasB lo hi w' (.slice a1 b.accs.length c1) (.slice a2 (b.mvs.length + 1) c2) (addM b m) ∧ w.grownBy w' none
theorem check_zero {b : Bok} {w w' : World} {e : Ending} (h : Ret (.int .i64 (checkE b)) w e w') (h0 : checkE b = 0) : Ret (.int .i64 0) w e w' := by rw [h0] at h; exact h
set_option maxHeartbeats 8000000 in
theorem fpost_c (l1 h1 l2 h2 : Nat) (va vm : Value) (b : Bok) (m : Mv) (w : World) (ha : Accs l1 h1 w va b.accs) (hm : Mvs l2 h2 w vm b.mvs) (b1 : h1 ≤ w.heap.size) (b2 : h2 ≤ w.heap.size) (hn : nameOk b.accs) (hck : checkE b = 0) (hcd : checkE (addM b m) = 0) (hs1 : b.accs.length ≤ 100000000000) (hs2 : b.mvs.length ≤ 10000000000) :
    Calls Tryd.prog 33 #[.agg #[va, vm], .agg #[.int .i64 m.fr, .int .i64 m.to, .int .i64 m.li.lo, .int .i64 m.li.hi]] w (PostB b m w) := by
  have F1 : Bun w [] w := Bun.nil _
  have hm_ac := ha.len
  unfold maxLen at hm_ac
  obtain ⟨aa, ak, rfl⟩ := ha.any
  have F2 := F1.sl0 ha b1 rfl
  clear F1
  clear ha
  have hm_mv := hm.len
  unfold maxLen at hm_mv
  obtain ⟨ma, mk, rfl⟩ := hm.any
  have F3 := F2.sl0 hm b2 rfl
  clear F2
  clear hm
  have HN := Lib.hid hn
  have HC := Lib.hid hck
  have HD := Lib.hid hcd
  clear hn hck hcd
  go_enter Tryd.func33, Tryd.ntmps33
  go_wp2_with fail
  have F4 := F3.new 38 #[.slice aa b.accs.length ak, .slice ma b.mvs.length mk] (n := w.heap.size) (by simp)
  clear F3
  have F5 := F4.new 43 #[.int .i64 m.fr, .int .i64 m.to, .int .i64 m.li.lo, .int .i64 m.li.hi] (n := (w.heap.size + 1)) (by simp)
  clear F4
  have F6 := F5.new 38 #[.slice none 0 0, .slice none 0 0] (n := (w.heap.size + 2)) (by simp)
  clear F5
  refine ((check_c _ _ _ _ _ _ b _ (F6.at 4 rfl : Sl accEnc 6 l1 h1 _ (.slice aa b.accs.length ak) b.accs) (F6.at 3 rfl : Sl mvEnc 4 l2 h2 _ (.slice ma b.mvs.length mk) b.mvs) HN.out (by first | omega | (simp; omega)) (by first | omega | (simp; omega))).mono (fun _ _ h_ => check_zero h_ HC.out)).mono ?_
  rintro e w9 ⟨rfl, hg7⟩
  have hg7s := hg7.size
  (try simp at hg7s)
  have F10 := F6.gn hg7
  clear F6
  clear hg7
  have b11 := F10.bx2 2 rfl
  go_wp2_with fail
  clear b11
  obtain ⟨w12, hx13, F15, hxs14⟩ := (show Bun w [rbox (w.heap.size + 2) 38 #[.slice none 0 0, .slice none 0 0], rbox (w.heap.size + 1) 43 #[.int .i64 m.fr, .int .i64 m.to, .int .i64 m.li.lo, .int .i64 m.li.hi], rbox w.heap.size 38 #[.slice aa b.accs.length ak, .slice ma b.mvs.length mk], rsl mvEnc 4 l2 h2 (.slice ma b.mvs.length mk) b.mvs, rsl accEnc 6 l1 h1 (.slice aa b.accs.length ak) b.accs] _ from F10).name
  (try simp at hxs14)
  rw [hx13]
  clear hx13 F10
  refine (fown_b _ _ _ _ _ _ b _ (F15.at 4 rfl : Sl accEnc 6 l1 h1 _ (.slice aa b.accs.length ak) b.accs) (F15.at 3 rfl : Sl mvEnc 4 l2 h2 _ (.slice ma b.mvs.length mk) b.mvs) (by first | omega | (simp; omega)) (by first | omega | (simp; omega)) (by omega) (by omega)).mono ?_
  rintro e w16 ⟨pA, kA, pM, kM, rfl, hB17⟩
  have hB17s := hB17.gb.size
  (try simp at hB17s)
  have F18 := F15.joinN (L2 := [rown accEnc 41 6 w12.heap.size (.slice pA b.accs.length kA) b.accs, rown mvEnc 43 4 w12.heap.size (.slice pM b.mvs.length kM) b.mvs]) hB17 rfl
  clear F15
  clear hB17
  (try dsimp only [List.cons_append, List.nil_append] at F18)
  have b19 := F18.bx4 3 rfl
  have F20 := F18.new 38 #[.slice pA b.accs.length kA, .slice pM b.mvs.length kM] (n := w16.heap.size) (by simp)
  clear F18
  go_wp2_with (at_builtin; refine wpList_app _ okMv rfl _ _ rfl w12.heap.size (.slice pM b.mvs.length kM) b.mvs [m] rfl (by exact ((F20.at 2 rfl : Own mvEnc 43 4 w12.heap.size _ (.slice pM b.mvs.length kM) b.mvs)).alloc _) ⟨_, 0, none⟩ 1 1 rfl rfl (by decide) (news_of (Bk.newAt _ _ _ (by simp))) (b.mvs.length + 1) (by simp) (by omega) (by first | omega | (simp; omega)) _ rfl ?_; intro g21 cap22 w23 hp24; refine Hid.out ?_)
  refine Lib.hid ?_
  have hp24s := hp24.gb.size
  (try simp at hp24s)
  clear b19
  have F25 := ((F20.alloc (.cells #[.int .i64 m.fr, .int .i64 m.to, .int .i64 m.li.lo, .int .i64 m.li.hi] 43)).front 2 rfl rfl).app hp24 (by simp)
  clear F20
  have b26 := F25.bx2 1 rfl
  go_wp2_with fail
  clear b26
  have F27 := ((F25.front 1 rfl rfl).set 1 (.slice (some ⟨g21, 0, none⟩) (b.mvs.length + 1) cap22)).nf #[.slice pA b.accs.length kA, .slice (some ⟨g21, 0, none⟩) (b.mvs.length + 1) cap22] rfl
  clear F25
  refine ((check_c _ _ _ _ _ _ (addM b m) _ (Own.sl (F27.at 2 rfl : Own accEnc 41 6 w12.heap.size _ (.slice pA b.accs.length kA) b.accs) (fun _ => rfl)) (Own.sl (F27.at 1 rfl : Own mvEnc 43 4 w12.heap.size _ (.slice (some ⟨g21, 0, none⟩) (b.mvs.length + 1) cap22) (b.mvs ++ [m])) (fun _ => rfl)) HN.out (Nat.le_refl _) (Nat.le_refl _)).mono (fun _ _ h_ => check_zero h_ HD.out)).mono ?_
  rintro e w30 ⟨rfl, hg28⟩
  have hg28s := hg28.size
  (try simp at hg28s)
  have F31 := F27.gn hg28
  clear F27
  clear hg28
  have b32 := F31.bx2 0 rfl
  have b33 := F31.bx2 3 rfl
  go_wp2_with fail
  clear b32 b33
  have F34 := (F31.front 3 rfl rfl).pt2 (.slice pA b.accs.length kA) (.slice (some ⟨g21, 0, none⟩) (b.mvs.length + 1) cap22)
  clear F31
  have kb35 := F34.bx2 0 rfl
  go_wp2_with fail
  exact bodyPost_ret (v := .tuple #[.agg #[.slice pA b.accs.length kA, .slice (some ⟨g21, 0, none⟩) (b.mvs.length + 1) cap22], .int .i64 0]) (by simp [results, Tryd.results33, go_sem, kb35]) rfl (⟨_, _, _, _, w.heap.size, _, rfl, ⟨Nat.le_refl _, Nat.le_refl _⟩, ⟨Sl.wide (Own.sl (F34.at 3 rfl : Own accEnc 41 6 w12.heap.size _ (.slice pA b.accs.length kA) b.accs) (fun _ => rfl)) (by first | omega | (simp; omega)) (Nat.le_refl _), Sl.wide (Own.sl (F34.at 2 rfl : Own mvEnc 43 4 w12.heap.size _ (.slice (some ⟨g21, 0, none⟩) (b.mvs.length + 1) cap22) (b.mvs ++ [m])) (fun _ => rfl)) (by first | omega | (simp; omega)) (Nat.le_refl _)⟩, F34.gb⟩)

end Go.Proofs.YtcndphefomigeaaDoor
