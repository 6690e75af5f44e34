/- frost: Step, Core, Bearing. -/
import Derived.Test.YtgkjicejaalijaaDoorF9
set_option linter.unusedVariables false
set_option linter.unusedSimpArgs false
set_option linter.unnecessarySimpa false
namespace Go.Proofs.YtgkjicejaalijaaDoor
open Go.RowKit
set_option maxRecDepth 100000

theorem flat_at {α : Type} {enc : α → List Value} {sz : Nat} (hsz : ∀ x, (enc x).length = sz) : ∀ (l : List α) (i : Nat) (x : α), l[i]? = some x → ∀ j u, (enc x)[j]? = some u → (l.flatMap enc)[i * sz + j]? = some u := by
  intro l
  induction l with
  | nil => intro i x h; simp at h
  | cons y l ih =>
    intro i x hi j u hj
    have hjl : j < sz := by have := (List.getElem?_eq_some_iff.1 hj).1; rw [hsz] at this; exact this
    rw [List.flatMap_cons]
    cases i with
    | zero =>
      simp at hi
      subst hi
      rw [List.getElem?_append_left (by rw [hsz]; omega)]
      simpa using hj
    | succ i =>
      rw [List.getElem?_append_right (by rw [hsz, Nat.succ_mul]; omega), hsz]
      have : (i + 1) * sz + j - sz = i * sz + j := by rw [Nat.succ_mul]; omega
      rw [this]
      exact ih i x (by simpa using hi) j u hj
/-- A literal reads as a list. -/
theorem Sl.of_bk {α : Type} {enc : α → List Value} {sz : Nat} {w : World} {g : Nat} {t : TypeId} {cs : Array Value} {l : List α} (h : Bk w g t cs) (hsz : ∀ x, (enc x).length = sz) (hcs : cs.toList = l.flatMap enc) (hl : l.length ≤ maxLen) (c : Nat) :
    Sl enc sz g (g + 1) w (.slice (some ⟨g, 0, none⟩) l.length c) l :=
  ⟨hl, _, c, rfl, .inr ⟨g, 0, rfl, Nat.le_refl _, by omega, fun i x hi j u hj => by
    have h1 := flat_at hsz l i x hi j u hj
    rw [← hcs] at h1
    rw [show 0 + i * sz + j = i * sz + j by omega, h.cell]
    simpa using h1⟩⟩
theorem allOk {l : Fro} {x : Ice} {ds : List Wea} (h : allE l x ds = 0) : LawOk l ∧ iceErr x = 0 ∧ IceK x 0 0 ∧ ds.length ≤ 400 ∧ ∀ d ∈ ds, WeaOk d := by
  unfold allE at h
  split at h
  · contradiction
  · rename_i h1
    split at h
    · contradiction
    · rename_i h2
      have h2' := Classical.not_not.1 h2
      refine ⟨lawOk (Classical.not_not.1 h1), h2', iceK h2', ?_, ?_⟩
      · unfold daysE at h; split at h
        · cases h
        · omega
      · unfold daysE at h; split at h
        · cases h
        · have key : ∀ ds : List Wea, daysErr ds = 0 → ∀ d ∈ ds, WeaOk d := by
            intro ds
            induction ds with
            | nil => intro _ d hd; cases hd
            | cons c cs ih =>
              intro h d hd
              unfold daysErr at h
              split at h
              · contradiction
              · rename_i h3
                rcases List.mem_cons.1 hd with rfl | hd
                · exact weaOk (Classical.not_not.1 h3)
                · exact ih h d hd
          exact key ds h
def ice0 : Ice := ⟨⟨0, 0⟩, ⟨0, 0⟩, ⟨0, 0⟩, ⟨0, 0⟩⟩
open Classical in
noncomputable def stepI (l : Fro) (x : Ice) (d : Wea) : Ice := if allE l x [d] = 0 then aft l x d else ice0
/-- What ice and a core allow together. -/
def both (a b : Ice) : Ice := ⟨⟨max a.bl.lo b.bl.lo, min a.bl.hi b.bl.hi⟩, ⟨max a.wh.lo b.wh.lo, min a.wh.hi b.wh.hi⟩, ⟨max a.we.lo b.we.lo, min a.we.hi b.we.hi⟩, ⟨max a.sn.lo b.sn.lo, min a.sn.hi b.sn.hi⟩⟩
def coreE (a b : Ice) : Int := if ¬ iceErr a = 0 then iceErr a else if ¬ iceErr b = 0 then iceErr b else
  if (both a b).bl.hi < (both a b).bl.lo ∨ (both a b).wh.hi < (both a b).wh.lo ∨ (both a b).we.hi < (both a b).we.lo ∨ (both a b).sn.hi < (both a b).sn.lo then 12 else 0
def coreI (a b : Ice) : Ice := if coreE a b = 0 then both a b else ice0
def soundV (x : Ice) : Int := if x.we.hi = 0 then 1 else if 0 < x.we.lo then 2 else 3
def bearE (l : Fro) (x : Ice) : Int := allE l x []
def bearT (l : Fro) (x : Ice) : Sp := if allE l x [] = 0 then brs l x else ⟨0, 0⟩
def bearS (l : Fro) (x : Ice) : Int := if allE l x [] = 0 then soundV x else 0
set_option maxHeartbeats 8000000 in
theorem step_c (lo hi : Nat) (v : Value) (l : Fro) (x : Ice) (d : Wea) (w : World) (hl : Sl covEnc 3 lo hi w v l.cov) (h2 : hi ≤ w.heap.size) :
    Calls Tryd.prog 14 #[.agg (froC l v), .agg (iceC x), .agg (weaC d d.clear)] w (Ret (.tuple #[.agg #[.int .i64 ((stepI l x d).bl.lo), .int .i64 ((stepI l x d).bl.hi), .int .i64 ((stepI l x d).wh.lo), .int .i64 ((stepI l x d).wh.hi), .int .i64 ((stepI l x d).we.lo), .int .i64 ((stepI l x d).we.hi), .int .i64 ((stepI l x d).sn.lo), .int .i64 ((stepI l x d).sn.hi)], .int .i64 (allE l x [d])]) w) := by
  have F1 : Bun w [] w := Bun.nil _
  have hm_cs := hl.len
  unfold maxLen at hm_cs
  obtain ⟨sa, sc, rfl⟩ := hl.any
  have F2 := F1.sl0 hl h2 rfl
  clear F1
  clear hl
  go_enter Tryd.func14, Tryd.ntmps14
  go_wp2_with fail
  have F3 := F2.new 26 (froC l (.slice sa l.cov.length sc)) (n := w.heap.size) (by simp)
  clear F2
  have F4 := F3.new 37 (iceC x) (n := (w.heap.size + 1)) (by simp)
  clear F3
  have F5 := F4.new 42 (weaC d d.clear) (n := (w.heap.size + 2)) (by simp)
  clear F4
  have F6 := F5.new 37 (z8) (n := (w.heap.size + 3)) (by simp)
  clear F5
  have F7 := F6.new 42 (weaC d d.clear) (n := (w.heap.size + 4)) (by simp)
  clear F6
  refine (checkAll_c lo hi _ l x (w.heap.size + 4) ((w.heap.size + 4) + 1) _ [d] _ (F7.at 5 rfl : Sl covEnc 3 lo hi _ (.slice sa l.cov.length sc) l.cov) (Nat.le_trans h2 F7.gb.size) (Sl.of_bk (enc := weaEnc) (sz := 6) (l := [d]) (F7.at 0 rfl : Bk _ (w.heap.size + 4) 42 (weaC d d.clear)) (fun _ => rfl) rfl (by show (1 : Nat) ≤ maxLen; unfold maxLen; omega) 1) ((F7.at 0 rfl : Bk _ (w.heap.size + 4) 42 (weaC d d.clear))).lt).mono ?_
  rintro e w10 ⟨rfl, hg8⟩
  have hg8s := hg8.size
  (try simp at hg8s)
  have F11 := F7.gn hg8
  clear F7
  clear hg8
  by_cases c12 : allE l x [d] = 0
  · skip
    have c12a : ((allE l x [d]) == 0) = true := beq_t c12
    have c12b : ((allE l x [d]) != 0) = false := bne_f c12
    have c12H := Lib.hid c12
    clear c12
    have HOK := Lib.hid (allOk c12H.out)
    go_wp2_with fail
    have F13 := F11.drew
    clear F11
    refine ru_begin (fun W => W.cell? ⟨w.heap.size, 0, none⟩ = some (.int .i64 l.gr) ∧ W.cell? ⟨w.heap.size, 1, none⟩ = some (.int .i64 l.la) ∧ W.cell? ⟨w.heap.size, 2, none⟩ = some (.slice sa l.cov.length sc) ∧ W.cell? ⟨w.heap.size, 3, none⟩ = some (.int .i64 l.melt.lo) ∧ W.cell? ⟨w.heap.size, 4, none⟩ = some (.int .i64 l.melt.hi) ∧ W.cell? ⟨w.heap.size, 5, none⟩ = some (.int .i64 l.soak) ∧ W.cell? ⟨w.heap.size, 6, none⟩ = some (.int .i64 l.white.lo) ∧ W.cell? ⟨w.heap.size, 7, none⟩ = some (.int .i64 l.white.hi) ∧ W.cell? ⟨(w.heap.size + 1), 0, none⟩ = some (.int .i64 x.bl.lo) ∧ W.cell? ⟨(w.heap.size + 1), 1, none⟩ = some (.int .i64 x.bl.hi) ∧ W.cell? ⟨(w.heap.size + 1), 2, none⟩ = some (.int .i64 x.wh.lo) ∧ W.cell? ⟨(w.heap.size + 1), 3, none⟩ = some (.int .i64 x.wh.hi) ∧ W.cell? ⟨(w.heap.size + 1), 4, none⟩ = some (.int .i64 x.we.lo) ∧ W.cell? ⟨(w.heap.size + 1), 5, none⟩ = some (.int .i64 x.we.hi) ∧ W.cell? ⟨(w.heap.size + 1), 6, none⟩ = some (.int .i64 x.sn.lo) ∧ W.cell? ⟨(w.heap.size + 1), 7, none⟩ = some (.int .i64 x.sn.hi) ∧ W.cell? ⟨(w.heap.size + 2), 0, none⟩ = some (.int .i64 d.cold.lo) ∧ W.cell? ⟨(w.heap.size + 2), 1, none⟩ = some (.int .i64 d.cold.hi) ∧ W.cell? ⟨(w.heap.size + 2), 2, none⟩ = some (.int .i64 d.fall.lo) ∧ W.cell? ⟨(w.heap.size + 2), 3, none⟩ = some (.int .i64 d.fall.hi) ∧ W.cell? ⟨(w.heap.size + 2), 4, none⟩ = some (.int .i64 d.water) ∧ W.cell? ⟨(w.heap.size + 2), 5, none⟩ = some (.bool d.clear)) 7 (by kernel_rfl) ?_ ?_
    · exact ⟨F13.cl 4 0 rfl rfl, F13.cl 4 1 rfl rfl, F13.cl 4 2 rfl rfl, F13.cl 4 3 rfl rfl, F13.cl 4 4 rfl rfl, F13.cl 4 5 rfl rfl, F13.cl 4 6 rfl rfl, F13.cl 4 7 rfl rfl, F13.cl 3 0 rfl rfl, F13.cl 3 1 rfl rfl, F13.cl 3 2 rfl rfl, F13.cl 3 3 rfl rfl, F13.cl 3 4 rfl rfl, F13.cl 3 5 rfl rfl, F13.cl 3 6 rfl rfl, F13.cl 3 7 rfl rfl, F13.cl 2 0 rfl rfl, F13.cl 2 1 rfl rfl, F13.cl 2 2 rfl rfl, F13.cl 2 3 rfl rfl, F13.cl 2 4 rfl rfl, F13.cl 2 5 rfl rfl⟩
    obtain ⟨wd15, hwd_⟩ : ∃ x : World, w10.drew = x := ⟨_, rfl⟩
    rw [hwd_] at F13 ⊢
    have wd15s : w10.heap.size ≤ wd15.heap.size := by rw [← hwd_]; exact Nat.le_refl _
    clear hwd_
    have hS14 := (And.intro (F13.cl 4 0 rfl rfl) (And.intro (F13.cl 4 1 rfl rfl) (And.intro (F13.cl 4 2 rfl rfl) (And.intro (F13.cl 4 3 rfl rfl) (And.intro (F13.cl 4 4 rfl rfl) (And.intro (F13.cl 4 5 rfl rfl) (And.intro (F13.cl 4 6 rfl rfl) (And.intro (F13.cl 4 7 rfl rfl) (And.intro (F13.cl 3 0 rfl rfl) (And.intro (F13.cl 3 1 rfl rfl) (And.intro (F13.cl 3 2 rfl rfl) (And.intro (F13.cl 3 3 rfl rfl) (And.intro (F13.cl 3 4 rfl rfl) (And.intro (F13.cl 3 5 rfl rfl) (And.intro (F13.cl 3 6 rfl rfl) (And.intro (F13.cl 3 7 rfl rfl) (And.intro (F13.cl 2 0 rfl rfl) (And.intro (F13.cl 2 1 rfl rfl) (And.intro (F13.cl 2 2 rfl rfl) (And.intro (F13.cl 2 3 rfl rfl) (And.intro (F13.cl 2 4 rfl rfl) (F13.cl 2 5 rfl rfl))))))))))))))))))))))
    refine ru_t 0 [] ?_
    refine ru_t 1 [] ?_
    refine ru_t 2 [] ?_
    refine ru_t 4 [] ?_
    (try simp only [Act.put, List.setIfInBounds_toArray, List.set_cons_zero, List.set_cons_succ])
    clear hS14
    refine ru_one 3 rfl (by kernel_rfl) (fun K hK => ?_)
    go_simp
    refine (layersOf_c x _).mono ?_
    rintro e w18 ⟨rfl, hg16⟩
    have hg16s := hg16.size
    (try simp at hg16s)
    have F19 := F13.gn hg16
    clear F13
    refine ru_back hK (by exact ⟨F19.cl 4 0 rfl rfl, F19.cl 4 1 rfl rfl, F19.cl 4 2 rfl rfl, F19.cl 4 3 rfl rfl, F19.cl 4 4 rfl rfl, F19.cl 4 5 rfl rfl, F19.cl 4 6 rfl rfl, F19.cl 4 7 rfl rfl, F19.cl 3 0 rfl rfl, F19.cl 3 1 rfl rfl, F19.cl 3 2 rfl rfl, F19.cl 3 3 rfl rfl, F19.cl 3 4 rfl rfl, F19.cl 3 5 rfl rfl, F19.cl 3 6 rfl rfl, F19.cl 3 7 rfl rfl, F19.cl 2 0 rfl rfl, F19.cl 2 1 rfl rfl, F19.cl 2 2 rfl rfl, F19.cl 2 3 rfl rfl, F19.cl 2 4 rfl rfl, F19.cl 2 5 rfl rfl⟩) (fun hHeld => ?_)
    clear hK K
    (try simp only [Act.put, List.setIfInBounds_toArray, List.set_cons_zero, List.set_cons_succ])
    refine ru_one 5 rfl (by kernel_rfl) (fun K hK => ?_)
    go_simp
    refine (after_c lo hi _ l x 0 d _ (F19.at 5 rfl : Sl covEnc 3 lo hi _ (.slice sa l.cov.length sc) l.cov) (Nat.le_trans h2 F19.gb.size) HOK.out.1 HOK.out.2.2.1 (by omega) (HOK.out.2.2.2.2 d (.head _))).mono ?_
    rintro e w22 ⟨rfl, hg20⟩
    have hg20s := hg20.size
    (try simp at hg20s)
    have F23 := F19.gn hg20
    clear F19
    refine ru_back hK (by exact ⟨F23.cl 4 0 rfl rfl, F23.cl 4 1 rfl rfl, F23.cl 4 2 rfl rfl, F23.cl 4 3 rfl rfl, F23.cl 4 4 rfl rfl, F23.cl 4 5 rfl rfl, F23.cl 4 6 rfl rfl, F23.cl 4 7 rfl rfl, F23.cl 3 0 rfl rfl, F23.cl 3 1 rfl rfl, F23.cl 3 2 rfl rfl, F23.cl 3 3 rfl rfl, F23.cl 3 4 rfl rfl, F23.cl 3 5 rfl rfl, F23.cl 3 6 rfl rfl, F23.cl 3 7 rfl rfl, F23.cl 2 0 rfl rfl, F23.cl 2 1 rfl rfl, F23.cl 2 2 rfl rfl, F23.cl 2 3 rfl rfl, F23.cl 2 4 rfl rfl, F23.cl 2 5 rfl rfl⟩) (fun hHeld => ?_)
    clear hK K
    (try simp only [Act.put, List.setIfInBounds_toArray, List.set_cons_zero, List.set_cons_succ])
    refine ru_one 6 rfl (by kernel_rfl) (fun K hK => ?_)
    go_simp
    refine (lice_c (aft l x d) _).mono ?_
    rintro e w26 ⟨rfl, hg24⟩
    have hg24s := hg24.size
    (try simp at hg24s)
    have F27 := F23.gn hg24
    clear F23
    refine ru_back hK (by exact ⟨F27.cl 4 0 rfl rfl, F27.cl 4 1 rfl rfl, F27.cl 4 2 rfl rfl, F27.cl 4 3 rfl rfl, F27.cl 4 4 rfl rfl, F27.cl 4 5 rfl rfl, F27.cl 4 6 rfl rfl, F27.cl 4 7 rfl rfl, F27.cl 3 0 rfl rfl, F27.cl 3 1 rfl rfl, F27.cl 3 2 rfl rfl, F27.cl 3 3 rfl rfl, F27.cl 3 4 rfl rfl, F27.cl 3 5 rfl rfl, F27.cl 3 6 rfl rfl, F27.cl 3 7 rfl rfl, F27.cl 2 0 rfl rfl, F27.cl 2 1 rfl rfl, F27.cl 2 2 rfl rfl, F27.cl 2 3 rfl rfl, F27.cl 2 4 rfl rfl, F27.cl 2 5 rfl rfl⟩) (fun hHeld => ?_)
    clear hK K
    (try simp only [Act.put, List.setIfInBounds_toArray, List.set_cons_zero, List.set_cons_succ])
    refine ru_one 7 rfl (by kernel_rfl) (fun K hK => ?_)
    have kb_ := F27.bx8 1 rfl
    go_simp
    clear kb_
    have F28 := (F27.front 1 rfl rfl).pt8 (.int .i64 ((aft l x d).bl.lo)) (.int .i64 ((aft l x d).bl.hi)) (.int .i64 ((aft l x d).wh.lo)) (.int .i64 ((aft l x d).wh.hi)) (.int .i64 ((aft l x d).we.lo)) (.int .i64 ((aft l x d).we.hi)) (.int .i64 ((aft l x d).sn.lo)) (.int .i64 ((aft l x d).sn.hi))
    clear F27
    refine ru_back_late hK (by kernel_rfl) ?_
    clear hK K
    (try simp only [Act.put, List.setIfInBounds_toArray, List.set_cons_zero, List.set_cons_succ])
    refine ru_one 8 rfl (by kernel_rfl) (fun K hK => ?_)
    go_simp
    refine ru_back_late hK (by kernel_rfl) ?_
    clear hK K
    (try simp only [Act.put, List.setIfInBounds_toArray, List.set_cons_zero, List.set_cons_succ])
    refine ru_done (by kernel_rfl) ?_
    obtain ⟨w29, hx30, F32, hxs31⟩ := (show Bun w [rbox (w.heap.size + 3) 37 #[.int .i64 ((aft l x d).bl.lo), .int .i64 ((aft l x d).bl.hi), .int .i64 ((aft l x d).wh.lo), .int .i64 ((aft l x d).wh.hi), .int .i64 ((aft l x d).we.lo), .int .i64 ((aft l x d).we.hi), .int .i64 ((aft l x d).sn.lo), .int .i64 ((aft l x d).sn.hi)], rsl covEnc 3 lo hi (.slice sa l.cov.length sc) l.cov] _ from ((((F28.drop 1 rfl).drop 1 rfl).drop 1 rfl).drop 1 rfl)).name
    (try simp at hxs31)
    rw [hx30]
    clear hx30 F28
    have Hx33 := Lib.hid (show (((stepI l x d).bl.lo : Int)) = (aft l x d).bl.lo by rw [stepI, if_pos c12H.out]; (try rfl))
    have Hx34 := Lib.hid (show (((stepI l x d).bl.hi : Int)) = (aft l x d).bl.hi by rw [stepI, if_pos c12H.out]; (try rfl))
    have Hx35 := Lib.hid (show (((stepI l x d).wh.lo : Int)) = (aft l x d).wh.lo by rw [stepI, if_pos c12H.out]; (try rfl))
    have Hx36 := Lib.hid (show (((stepI l x d).wh.hi : Int)) = (aft l x d).wh.hi by rw [stepI, if_pos c12H.out]; (try rfl))
    have Hx37 := Lib.hid (show (((stepI l x d).we.lo : Int)) = (aft l x d).we.lo by rw [stepI, if_pos c12H.out]; (try rfl))
    have Hx38 := Lib.hid (show (((stepI l x d).we.hi : Int)) = (aft l x d).we.hi by rw [stepI, if_pos c12H.out]; (try rfl))
    have Hx39 := Lib.hid (show (((stepI l x d).sn.lo : Int)) = (aft l x d).sn.lo by rw [stepI, if_pos c12H.out]; (try rfl))
    have Hx40 := Lib.hid (show (((stepI l x d).sn.hi : Int)) = (aft l x d).sn.hi by rw [stepI, if_pos c12H.out]; (try rfl))
    have Hx41 := Lib.hid (show ((allE l x [d] : Int)) = 0 by exact c12H.out)
    go_wp2_with fail
    have kb42 := F32.bx8 0 rfl
    go_wp2_with fail
    exact bodyPost_ret (v := .tuple #[.agg #[.int .i64 ((aft l x d).bl.lo), .int .i64 ((aft l x d).bl.hi), .int .i64 ((aft l x d).wh.lo), .int .i64 ((aft l x d).wh.hi), .int .i64 ((aft l x d).we.lo), .int .i64 ((aft l x d).we.hi), .int .i64 ((aft l x d).sn.lo), .int .i64 ((aft l x d).sn.hi)], .int .i64 0]) (by simp [results, Tryd.results14, go_sem, kb42]) rfl (⟨by rw [Hx33.out, Hx34.out, Hx35.out, Hx36.out, Hx37.out, Hx38.out, Hx39.out, Hx40.out, Hx41.out] <;> rfl, F32.gb⟩)
  · skip
    have c12a : ((allE l x [d]) == 0) = false := beq_f c12
    have c12b : ((allE l x [d]) != 0) = true := bne_t c12
    have c12H := Lib.hid c12
    clear c12
    have Hx43 := Lib.hid (show (((stepI l x d).bl.lo : Int)) = 0 by rw [stepI, if_neg c12H.out]; (try rfl))
    have Hx44 := Lib.hid (show (((stepI l x d).bl.hi : Int)) = 0 by rw [stepI, if_neg c12H.out]; (try rfl))
    have Hx45 := Lib.hid (show (((stepI l x d).wh.lo : Int)) = 0 by rw [stepI, if_neg c12H.out]; (try rfl))
    have Hx46 := Lib.hid (show (((stepI l x d).wh.hi : Int)) = 0 by rw [stepI, if_neg c12H.out]; (try rfl))
    have Hx47 := Lib.hid (show (((stepI l x d).we.lo : Int)) = 0 by rw [stepI, if_neg c12H.out]; (try rfl))
    have Hx48 := Lib.hid (show (((stepI l x d).we.hi : Int)) = 0 by rw [stepI, if_neg c12H.out]; (try rfl))
    have Hx49 := Lib.hid (show (((stepI l x d).sn.lo : Int)) = 0 by rw [stepI, if_neg c12H.out]; (try rfl))
    have Hx50 := Lib.hid (show (((stepI l x d).sn.hi : Int)) = 0 by rw [stepI, if_neg c12H.out]; (try rfl))
    have b51 := F11.bx8 1 rfl
    go_wp2_with fail
    clear b51
    have F52 := (F11.front 1 rfl rfl).pt8 (.int .i64 0) (.int .i64 0) (.int .i64 0) (.int .i64 0) (.int .i64 0) (.int .i64 0) (.int .i64 0) (.int .i64 0)
    clear F11
    have kb53 := F52.bx8 0 rfl
    go_wp2_with fail
    exact bodyPost_ret (v := .tuple #[.agg (z8), .int .i64 (allE l x [d])]) (by simp [results, Tryd.results14, go_sem, kb53]) rfl (⟨by rw [Hx43.out, Hx44.out, Hx45.out, Hx46.out, Hx47.out, Hx48.out, Hx49.out, Hx50.out] <;> rfl, F52.gb⟩)

end Go.Proofs.YtgkjicejaalijaaDoor
