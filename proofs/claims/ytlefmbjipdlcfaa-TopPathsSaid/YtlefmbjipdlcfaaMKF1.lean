/- frost: Step, Core, Bearing. -/
import Derived.Test.YtlefmbjipdlcfaaMF9
import Derived.Test.YtlefmbjipdlcfaaMK1
import Derived.TacticsInMore
import Derived.OwnWalkIn
import Derived.LoopIn
import Derived.Test.YtlefmbjipdlcfaaMF8
set_option linter.unusedVariables false
set_option linter.unusedSimpArgs false
set_option linter.unnecessarySimpa false
namespace Go.Proofs.Ytlefmbjipdlcfaa
open Go.RowKit
set_option maxRecDepth 100000
theorem flat_at {α : Type} {enc : α -> List Value} {sz : Nat} (hsz : ∀ x, (enc x).length = sz) : ∀ (l : List α) (i : Nat) (x : α), l[i]? = some x -> ∀ j u, (enc x)[j]? = some u -> (l.flatMap enc)[i * sz + j]? = some u := by
 intro l
 induction l with
 | nil => intro i x h; simp at h
 | cons y l ih =>
  intro i x hi j u hj
  have hjl : j < sz := by have := (List.getElem?_eq_some_iff.1 hj).1; rw [hsz] at this; exact this
  rw [List.flatMap_cons]
  cases i with
  | zero =>
   simp at hi
   subst hi
   rw [List.getElem?_append_left (by rw [hsz]; omega)]
   simpa using hj
  | succ i =>
   rw [List.getElem?_append_right (by rw [hsz, Nat.succ_mul]; omega), hsz]
   have : (i + 1) * sz + j - sz = i * sz + j := by rw [Nat.succ_mul]; omega
   rw [this]
   exact ih i x (by simpa using hi) j u hj
theorem Sl.of_bk {α : Type} {enc : α -> List Value} {sz : Nat} {w : World} {g : Nat} {t : TypeId} {cs : Array Value} {l : List α} (h : Bk w g t cs) (hsz : ∀ x, (enc x).length = sz) (hcs : cs.toList = l.flatMap enc) (hl : l.length <= maxLen) (c : Nat) :
  Sl enc sz g (g + 1) w (.slice (some ⟨g, 0, none⟩) l.length c) l :=
 ⟨hl, _, c, rfl, .inr ⟨g, 0, rfl, Nat.le_refl _, by omega, fun i x hi j u hj => by
  have h1 := flat_at hsz l i x hi j u hj
  rw [← hcs] at h1
  rw [show 0 + i * sz + j = i * sz + j by omega, h.cell]
  simpa using h1⟩⟩
theorem allOk {l : Fro} {x : Ice} {ds : List Wea} (h : allE l x ds = 0) : LawOk l /\ iceErr x = 0 /\ IceK x 0 0 /\ ds.length <= 400 /\ ∀ d ∈ ds, WeaOk d := by
 unfold allE at h
 split at h
 · contradiction
 rename_i h1
 split at h
 · contradiction
 rename_i h2
 have h2' := Classical.not_not.1 h2
 refine ⟨lawOk (Classical.not_not.1 h1), h2', iceK h2', ?_, ?_⟩
 ·
  unfold daysE at h; split at h
  · cases h
  · omega
 unfold daysE at h; split at h
 · cases h
 have key : ∀ ds : List Wea, daysErr ds = 0 -> ∀ d ∈ ds, WeaOk d := by
  intro ds
  induction ds with
  | nil => intro _ d hd; cases hd
  | cons c cs ih =>
   intro h d hd
   unfold daysErr at h
   split at h
   · contradiction
   rename_i h3
   rcases List.mem_cons.1 hd with rfl | hd
   · exact weaOk (Classical.not_not.1 h3)
   · exact ih h d hd
 exact key ds h
def ice0 : Ice := ⟨⟨0, 0⟩, ⟨0, 0⟩, ⟨0, 0⟩, ⟨0, 0⟩⟩
open Classical in
noncomputable def stepI (l : Fro) (x : Ice) (d : Wea) : Ice := if allE l x [d] = 0 then aft l x d else ice0
set_option maxHeartbeats 8000000 in
theorem step_c (lo hi : Nat) (v : Value) (l : Fro) (x : Ice) (d : Wea) (w : World) (hl : Sl covEnc 3 lo hi w v l.cov) (h2 : hi <= w.heap.size) :
  Calls Try.prog 58 #[.agg (froC l v), .agg (iceC x), .agg (weaC d d.clear)] w (Ret (.tuple #[.agg #[.int .i64 ((stepI l x d).bl.lo), .int .i64 ((stepI l x d).bl.hi), .int .i64 ((stepI l x d).wh.lo), .int .i64 ((stepI l x d).wh.hi), .int .i64 ((stepI l x d).we.lo), .int .i64 ((stepI l x d).we.hi), .int .i64 ((stepI l x d).sn.lo), .int .i64 ((stepI l x d).sn.hi)], .int .i64 (allE l x [d])]) w) := by
 have F1 : Bun w [] w := Bun.nil _
 have hm_cs := hl.len
 unfold maxLen at hm_cs
 obtain ⟨sa, sc, rfl⟩ := hl.any
 replace F1 := F1.sl0 hl h2 rfl
 clear hl
 go_enter Try.func58, Try.ntmps58
 go_wp2_with fail
 replace F1 := F1.new 120 (froC l (.slice sa l.cov.length sc)) (n := w.heap.size) (by simp)
 replace F1 := F1.new 122 (iceC x) (n := (w.heap.size + 1)) (by simp)
 replace F1 := F1.new 126 (weaC d d.clear) (n := (w.heap.size + 2)) (by simp)
 replace F1 := F1.new 122 (z8) (n := (w.heap.size + 3)) (by simp)
 replace F1 := F1.new 126 (weaC d d.clear) (n := (w.heap.size + 4)) (by simp)
 refine (checkAll_c lo hi _ l x (w.heap.size + 4) ((w.heap.size + 4) + 1) _ [d] _ (F1.at 5 rfl : Sl covEnc 3 lo hi _ (.slice sa l.cov.length sc) l.cov) (Nat.le_trans h2 F1.gb.size) (Sl.of_bk (enc := weaEnc) (sz := 6) (l := [d]) (F1.at 0 rfl : Bk _ (w.heap.size + 4) 126 (weaC d d.clear)) (fun _ => rfl) rfl (by show (1 : Nat) <= maxLen; unfold maxLen; omega) 1) ((F1.at 0 rfl : Bk _ (w.heap.size + 4) 126 (weaC d d.clear))).lt).mono ?_
 rintro e w10 ⟨rfl, hg8⟩
 have hg8s := hg8.size
 (try simp at hg8s)
 replace F1 := F1.gn hg8
 clear hg8
 by_cases c12 : allE l x [d] = 0
 ·
  have c12a : ((allE l x [d]) == 0) = true := beq_t c12
  have c12b : ((allE l x [d]) != 0) = false := bne_f c12
  have c12H := lhd c12
  clear c12
  have HOK := lhd (allOk c12H.out)
  go_wp2_with fail
  replace F1 := F1.drew
  refine ru_begin (fun W => W.cell? ⟨w.heap.size, 0, none⟩ = some (.int .i64 l.gr) /\ W.cell? ⟨w.heap.size, 1, none⟩ = some (.int .i64 l.la) /\ W.cell? ⟨w.heap.size, 2, none⟩ = some (.slice sa l.cov.length sc) /\ W.cell? ⟨w.heap.size, 3, none⟩ = some (.int .i64 l.melt.lo) /\ W.cell? ⟨w.heap.size, 4, none⟩ = some (.int .i64 l.melt.hi) /\ W.cell? ⟨w.heap.size, 5, none⟩ = some (.int .i64 l.soak) /\ W.cell? ⟨w.heap.size, 6, none⟩ = some (.int .i64 l.white.lo) /\ W.cell? ⟨w.heap.size, 7, none⟩ = some (.int .i64 l.white.hi) /\ W.cell? ⟨(w.heap.size + 1), 0, none⟩ = some (.int .i64 x.bl.lo) /\ W.cell? ⟨(w.heap.size + 1), 1, none⟩ = some (.int .i64 x.bl.hi) /\ W.cell? ⟨(w.heap.size + 1), 2, none⟩ = some (.int .i64 x.wh.lo) /\ W.cell? ⟨(w.heap.size + 1), 3, none⟩ = some (.int .i64 x.wh.hi) /\ W.cell? ⟨(w.heap.size + 1), 4, none⟩ = some (.int .i64 x.we.lo) /\ W.cell? ⟨(w.heap.size + 1), 5, none⟩ = some (.int .i64 x.we.hi) /\ W.cell? ⟨(w.heap.size + 1), 6, none⟩ = some (.int .i64 x.sn.lo) /\ W.cell? ⟨(w.heap.size + 1), 7, none⟩ = some (.int .i64 x.sn.hi) /\ W.cell? ⟨(w.heap.size + 2), 0, none⟩ = some (.int .i64 d.cold.lo) /\ W.cell? ⟨(w.heap.size + 2), 1, none⟩ = some (.int .i64 d.cold.hi) /\ W.cell? ⟨(w.heap.size + 2), 2, none⟩ = some (.int .i64 d.fall.lo) /\ W.cell? ⟨(w.heap.size + 2), 3, none⟩ = some (.int .i64 d.fall.hi) /\ W.cell? ⟨(w.heap.size + 2), 4, none⟩ = some (.int .i64 d.water) /\ W.cell? ⟨(w.heap.size + 2), 5, none⟩ = some (.bool d.clear)) 7 (by kernel_rfl) ?_ ?_
  · exact ⟨F1.q 4 0, F1.q 4 1, F1.q 4 2, F1.q 4 3, F1.q 4 4, F1.q 4 5, F1.q 4 6, F1.q 4 7, F1.q 3 0, F1.q 3 1, F1.q 3 2, F1.q 3 3, F1.q 3 4, F1.q 3 5, F1.q 3 6, F1.q 3 7, F1.q 2 0, F1.q 2 1, F1.q 2 2, F1.q 2 3, F1.q 2 4, F1.q 2 5⟩
  obtain ⟨wd15, hwd_⟩ : ∃ x : World, w10.drew = x := ⟨_, rfl⟩
  rw [hwd_] at F1 ⊢
  have wd15s : w10.heap.size <= wd15.heap.size := by rw [← hwd_]; exact Nat.le_refl _
  clear hwd_
  have hS14 := (And.intro (F1.q 4 0) (And.intro (F1.q 4 1) (And.intro (F1.q 4 2) (And.intro (F1.q 4 3) (And.intro (F1.q 4 4) (And.intro (F1.q 4 5) (And.intro (F1.q 4 6) (And.intro (F1.q 4 7) (And.intro (F1.q 3 0) (And.intro (F1.q 3 1) (And.intro (F1.q 3 2) (And.intro (F1.q 3 3) (And.intro (F1.q 3 4) (And.intro (F1.q 3 5) (And.intro (F1.q 3 6) (And.intro (F1.q 3 7) (And.intro (F1.q 2 0) (And.intro (F1.q 2 1) (And.intro (F1.q 2 2) (And.intro (F1.q 2 3) (And.intro (F1.q 2 4) (F1.q 2 5))))))))))))))))))))))
  refine ru_t 0 [] ?_
  refine ru_t 1 [] ?_
  refine ru_t 2 [] ?_
  refine ru_t 4 [] ?_
  (try simp only [lpX])
  clear hS14
  refine ru_one 3 rfl (by kernel_rfl) (fun K hK => ?_)
  go_simp
  refine (layersOf_c x _).mono ?_
  rintro e w18 ⟨rfl, hg16⟩
  have hg16s := hg16.size
  (try simp at hg16s)
  replace F1 := F1.gn hg16
  refine ru_back hK (by exact ⟨F1.q 4 0, F1.q 4 1, F1.q 4 2, F1.q 4 3, F1.q 4 4, F1.q 4 5, F1.q 4 6, F1.q 4 7, F1.q 3 0, F1.q 3 1, F1.q 3 2, F1.q 3 3, F1.q 3 4, F1.q 3 5, F1.q 3 6, F1.q 3 7, F1.q 2 0, F1.q 2 1, F1.q 2 2, F1.q 2 3, F1.q 2 4, F1.q 2 5⟩) (fun _ => ?_)
  clear hK K
  (try simp only [lpX])
  refine ru_one 5 rfl (by kernel_rfl) (fun K hK => ?_)
  go_simp
  refine (after_c lo hi _ l x 0 d _ (F1.at 5 rfl : Sl covEnc 3 lo hi _ (.slice sa l.cov.length sc) l.cov) (Nat.le_trans h2 F1.gb.size) HOK.out.1 HOK.out.2.2.1 (by omega) (HOK.out.2.2.2.2 d (.head _))).mono ?_
  rintro e w22 ⟨rfl, hg20⟩
  have hg20s := hg20.size
  (try simp at hg20s)
  replace F1 := F1.gn hg20
  refine ru_back hK (by exact ⟨F1.q 4 0, F1.q 4 1, F1.q 4 2, F1.q 4 3, F1.q 4 4, F1.q 4 5, F1.q 4 6, F1.q 4 7, F1.q 3 0, F1.q 3 1, F1.q 3 2, F1.q 3 3, F1.q 3 4, F1.q 3 5, F1.q 3 6, F1.q 3 7, F1.q 2 0, F1.q 2 1, F1.q 2 2, F1.q 2 3, F1.q 2 4, F1.q 2 5⟩) (fun _ => ?_)
  clear hK K
  (try simp only [lpX])
  refine ru_one 6 rfl (by kernel_rfl) (fun K hK => ?_)
  go_simp
  refine (lice_c (aft l x d) _).mono ?_
  rintro e w26 ⟨rfl, hg24⟩
  have hg24s := hg24.size
  (try simp at hg24s)
  replace F1 := F1.gn hg24
  refine ru_back hK (by exact ⟨F1.q 4 0, F1.q 4 1, F1.q 4 2, F1.q 4 3, F1.q 4 4, F1.q 4 5, F1.q 4 6, F1.q 4 7, F1.q 3 0, F1.q 3 1, F1.q 3 2, F1.q 3 3, F1.q 3 4, F1.q 3 5, F1.q 3 6, F1.q 3 7, F1.q 2 0, F1.q 2 1, F1.q 2 2, F1.q 2 3, F1.q 2 4, F1.q 2 5⟩) (fun _ => ?_)
  clear hK K
  (try simp only [lpX])
  refine ru_one 7 rfl (by kernel_rfl) (fun K hK => ?_)
  have kb_ := F1.bx8 1 rfl
  go_simp
  clear kb_
  have F28 := (F1.front 1 rfl rfl).pt8 (.int .i64 ((aft l x d).bl.lo)) (.int .i64 ((aft l x d).bl.hi)) (.int .i64 ((aft l x d).wh.lo)) (.int .i64 ((aft l x d).wh.hi)) (.int .i64 ((aft l x d).we.lo)) (.int .i64 ((aft l x d).we.hi)) (.int .i64 ((aft l x d).sn.lo)) (.int .i64 ((aft l x d).sn.hi))
  clear F1
  refine ru_back_late hK (by kernel_rfl) ?_
  clear hK K
  (try simp only [lpX])
  refine ru_one 8 rfl (by kernel_rfl) (fun K hK => ?_)
  go_simp
  refine ru_back_late hK (by kernel_rfl) ?_
  clear hK K
  (try simp only [lpX])
  refine ru_done (by kernel_rfl) ?_
  obtain ⟨w29, hx30, F32, hxs31⟩ := (show Bun w [rbox (w.heap.size + 3) 122 #[.int .i64 ((aft l x d).bl.lo), .int .i64 ((aft l x d).bl.hi), .int .i64 ((aft l x d).wh.lo), .int .i64 ((aft l x d).wh.hi), .int .i64 ((aft l x d).we.lo), .int .i64 ((aft l x d).we.hi), .int .i64 ((aft l x d).sn.lo), .int .i64 ((aft l x d).sn.hi)], rsl covEnc 3 lo hi (.slice sa l.cov.length sc) l.cov] _ from ((((F28.drop 1 rfl).drop 1 rfl).drop 1 rfl).drop 1 rfl)).name
  (try simp at hxs31)
  rw [hx30]
  clear hx30 F28
  have Hx33 := lhd (show (((stepI l x d).bl.lo : Int)) = (aft l x d).bl.lo by rw [stepI, if_pos c12H.out]; (try rfl))
  have Hx34 := lhd (show (((stepI l x d).bl.hi : Int)) = (aft l x d).bl.hi by rw [stepI, if_pos c12H.out]; (try rfl))
  have Hx35 := lhd (show (((stepI l x d).wh.lo : Int)) = (aft l x d).wh.lo by rw [stepI, if_pos c12H.out]; (try rfl))
  have Hx36 := lhd (show (((stepI l x d).wh.hi : Int)) = (aft l x d).wh.hi by rw [stepI, if_pos c12H.out]; (try rfl))
  have Hx37 := lhd (show (((stepI l x d).we.lo : Int)) = (aft l x d).we.lo by rw [stepI, if_pos c12H.out]; (try rfl))
  have Hx38 := lhd (show (((stepI l x d).we.hi : Int)) = (aft l x d).we.hi by rw [stepI, if_pos c12H.out]; (try rfl))
  have Hx39 := lhd (show (((stepI l x d).sn.lo : Int)) = (aft l x d).sn.lo by rw [stepI, if_pos c12H.out]; (try rfl))
  have Hx40 := lhd (show (((stepI l x d).sn.hi : Int)) = (aft l x d).sn.hi by rw [stepI, if_pos c12H.out]; (try rfl))
  have Hx41 := lhd (show ((allE l x [d] : Int)) = 0 by exact c12H.out)
  go_wp2_with fail
  have kb42 := F32.bx8 0 rfl
  go_wp2_with fail
  exact bodyPost_ret (v := .tuple #[.agg #[.int .i64 ((aft l x d).bl.lo), .int .i64 ((aft l x d).bl.hi), .int .i64 ((aft l x d).wh.lo), .int .i64 ((aft l x d).wh.hi), .int .i64 ((aft l x d).we.lo), .int .i64 ((aft l x d).we.hi), .int .i64 ((aft l x d).sn.lo), .int .i64 ((aft l x d).sn.hi)], .int .i64 0]) (by simp [results, Try.results58, go_sem, kb42]) rfl (⟨by rw [Hx33.out, Hx34.out, Hx35.out, Hx36.out, Hx37.out, Hx38.out, Hx39.out, Hx40.out, Hx41.out] <;> rfl, F32.gb⟩)
 have c12a : ((allE l x [d]) == 0) = false := beq_f c12
 have c12b : ((allE l x [d]) != 0) = true := bne_t c12
 have c12H := lhd c12
 clear c12
 have Hx43 := lhd (show (((stepI l x d).bl.lo : Int)) = 0 by rw [stepI, if_neg c12H.out]; (try rfl))
 have Hx44 := lhd (show (((stepI l x d).bl.hi : Int)) = 0 by rw [stepI, if_neg c12H.out]; (try rfl))
 have Hx45 := lhd (show (((stepI l x d).wh.lo : Int)) = 0 by rw [stepI, if_neg c12H.out]; (try rfl))
 have Hx46 := lhd (show (((stepI l x d).wh.hi : Int)) = 0 by rw [stepI, if_neg c12H.out]; (try rfl))
 have Hx47 := lhd (show (((stepI l x d).we.lo : Int)) = 0 by rw [stepI, if_neg c12H.out]; (try rfl))
 have Hx48 := lhd (show (((stepI l x d).we.hi : Int)) = 0 by rw [stepI, if_neg c12H.out]; (try rfl))
 have Hx49 := lhd (show (((stepI l x d).sn.lo : Int)) = 0 by rw [stepI, if_neg c12H.out]; (try rfl))
 have Hx50 := lhd (show (((stepI l x d).sn.hi : Int)) = 0 by rw [stepI, if_neg c12H.out]; (try rfl))
 have b51 := F1.bx8 1 rfl
 go_wp2_with fail
 clear b51
 have F52 := (F1.front 1 rfl rfl).pt8 (.int .i64 0) (.int .i64 0) (.int .i64 0) (.int .i64 0) (.int .i64 0) (.int .i64 0) (.int .i64 0) (.int .i64 0)
 clear F1
 have kb53 := F52.bx8 0 rfl
 go_wp2_with fail
 exact bodyPost_ret (v := .tuple #[.agg (z8), .int .i64 (allE l x [d])]) (by simp [results, Try.results58, go_sem, kb53]) rfl (⟨by rw [Hx43.out, Hx44.out, Hx45.out, Hx46.out, Hx47.out, Hx48.out, Hx49.out, Hx50.out] <;> rfl, F52.gb⟩)
end Go.Proofs.Ytlefmbjipdlcfaa
/- frost: Bearing. -/
namespace Go.Proofs.Ytlefmbjipdlcfaa
open Go.RowKit
set_option maxRecDepth 100000
end Go.Proofs.Ytlefmbjipdlcfaa
/- frost: what is known after each of some days, as an iterator. -/
namespace Go.Proofs.Ytlefmbjipdlcfaa
open Go.RowKit Go.Shelf
set_option maxRecDepth 100000
structure HoldC (pd : Nat) (lo1 h1 lo2 h2 : Nat) (v vd : Value) (l : Fro) (x : Ice) (dl : List Wea) (A : World) : Prop where
 bd : Bk A pd 134 (froC l v)
 bx : Bk A (pd + 1) 132 (iceC x)
 bs : Bk A (pd + 2) 130 #[vd]
 cs : Sl covEnc 3 lo1 h1 A v l.cov
 ds : Sl weaEnc 6 lo2 h2 A vd dl
 n1 : h1 <= pd
 n2 : h2 <= pd
theorem HoldC.gb {pd lo1 h1 lo2 h2 : Nat} {v vd : Value} {l : Fro} {x : Ice} {dl : List Wea} {A B : World} (h : HoldC pd lo1 h1 lo2 h2 v vd l x dl A) {r : Option Nat} (hg : A.grownBy B r) (hr : ∀ g, r = some g -> pd + 3 <= g) : HoldC pd lo1 h1 lo2 h2 v vd l x dl B :=
 ⟨h.bd.gb hg (fun e => by have := hr _ e.symm; omega), h.bx.gb hg (fun e => by have := hr _ e.symm; omega), h.bs.gb hg (fun e => by have := hr _ e.symm; omega),
  h.cs.gb hg (fun g e => by have := hr g e; have := h.n1; omega), h.ds.gb hg (fun g e => by have := hr g e; have := h.n2; omega), h.n1, h.n2⟩
end Go.Proofs.Ytlefmbjipdlcfaa
/- frost: course; Run. -/
namespace Go.Proofs.Ytlefmbjipdlcfaa
open Go.RowKit Go.Shelf
set_option maxRecDepth 100000
def HoldX (pd : Nat) (v vd : Value) (l : Fro) (x : Ice) (A : World) : Prop := Bk A pd 134 (froC l v) /\ Bk A (pd + 1) 132 (iceC x) /\ Bk A (pd + 2) 130 #[vd]
theorem HoldX.gb {pd : Nat} {v vd : Value} {l : Fro} {x : Ice} {A B : World} (h : HoldX pd v vd l x A) {r : Option Nat} (hg : A.grownBy B r) (hr : ∀ g, r = some g -> ¬ (pd <= g /\ g < pd + 3)) : HoldX pd v vd l x B :=
 ⟨h.1.gb hg (fun e => by have := hr _ e.symm; omega), h.2.1.gb hg (fun e => by have := hr _ e.symm; omega), h.2.2.gb hg (fun e => by have := hr _ e.symm; omega)⟩
end Go.Proofs.Ytlefmbjipdlcfaa
/- frost: Run. -/
namespace Go.Proofs.Ytlefmbjipdlcfaa
open Go.RowKit Go.Shelf
set_option maxRecDepth 100000
attribute [local go_sem] Oper.semAt_some
theorem Bun.nilrow {α : Type} (enc : α -> List Value) (e : TypeId) (sz : Nat) {w0 A : World} {L : List Res} (h : Bun w0 L A) : Bun w0 (rown enc e sz w0.heap.size (.slice none 0 0) [] :: L) A :=
 h.add (rown enc e sz w0.heap.size (.slice none 0 0) []) (gb_refl _ _) (Own.nil _ _ _ _ _) fun g e => by cases e
end Go.Proofs.Ytlefmbjipdlcfaa
/- frost: Ready. -/
namespace Go.Proofs.Ytlefmbjipdlcfaa
open Go.RowKit Go.Shelf
set_option maxRecDepth 100000
attribute [local go_sem] Oper.semAt_some
end Go.Proofs.Ytlefmbjipdlcfaa
