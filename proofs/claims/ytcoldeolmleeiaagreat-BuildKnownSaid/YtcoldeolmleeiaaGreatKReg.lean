/- A region that draws its order and ends in stores: an operation that only reads may be taken first where its fact holds until operation d comes up, which waits for it. -/
import Derived.Test.YtcoldeolmleeiaaGreatKBase
import Derived.OrdersHeld
import Derived.Deep.RegionHeld
set_option linter.unusedVariables false
set_option linter.unusedSimpArgs false
set_option linter.unnecessarySimpa false
namespace Go.Proofs.YtcoldeolmleeiaaGreat
open Go.RowKit
section
variable {P : Program} {ops : Array Oper} {Q : Exit -> Act -> World -> Prop} {md : Region.Mode} {S : World -> Prop} {d : Nat}
def wpAnyU (P : Program) (md : Region.Mode) (ops : Array Oper) (Q : Exit -> Act -> World -> Prop) (S : World -> Prop) (d : Nat) : Nat -> Array Bool -> Act -> World -> Prop
 | 0, listed, a, w => Region.ready md ops listed = [] /\ Q .normal a w
 | fuel + 1, listed, a, w =>
  (Region.ready md ops listed = [] -> Q .normal a w) ∧
  ∀ i ∈ Region.ready md ops listed, wpOp P ops Q i (fun a' w' => ((listed.setIfInBounds i true).getD d true = false -> S w') /\ wpAnyU P md ops Q S d fuel (listed.setIfInBounds i true) a' w') a w
theorem wpAny_of_U : ∀ (fuel : Nat) (listed : Array Bool) (a : Act) (w : World), wpAnyU P md ops Q S d fuel listed a w -> wpAny P md ops Q fuel listed a w
 | 0, _, _, _, h => h
 | fuel + 1, _, _, _, h => ⟨h.1, fun i hi => wpOp_mono (fun a' w' h' => wpAny_of_U fuel _ a' w' h'.2) (h.2 i hi)⟩
def waitsB (md : Region.Mode) (ops : Array Oper) (d i : Nat) : Bool :=
 match ops[d]? with
 | some od => od.after.any fun e => Region.binds md e && e.on == i
 | none => false
theorem waitsB_edge {i : Nat} (h : waitsB md ops d i = true) : ∃ od, ops[d]? = some od /\ ∃ e ∈ od.after, Region.binds md e = true /\ e.on = i := by
 unfold waitsB at h
 split at h
 ·
  rename_i od hod
  obtain ⟨e, he, hb⟩ := Array.any_eq_true'.1 h
  simp only [Bool.and_eq_true, beq_iff_eq] at hb
  exact ⟨od, hod, e, he, hb.1, hb.2⟩
 · cases h
def pathB (md : Region.Mode) (ops : Array Oper) : Nat -> List Nat -> Nat -> Bool
 | d, [], i => waitsB md ops d i
 | d, j :: l, i => waitsB md ops d j && pathB md ops j l i
def Closed (md : Region.Mode) (ops : Array Oper) (listed : Array Bool) : Prop := ∀ j oj, ops[j]? = some oj -> listed.getD j false = true -> ∀ e ∈ oj.after, Region.binds md e = true -> listed.getD e.on false = true
def closedB (md : Region.Mode) (ops : Array Oper) (listed : Array Bool) : Bool :=
 (List.range ops.size).all fun j => !listed.getD j false || (match ops[j]? with | some oj => oj.after.all (fun e => !Region.binds md e || listed.getD e.on false) | none => true)
theorem closedB_spec {listed : Array Bool} (h : closedB md ops listed = true) : Closed md ops listed := by
 intro j oj hj hl e he hb
 have hlt : j < ops.size := (Array.getElem?_eq_some_iff.1 hj).1
 have h1 := List.all_eq_true.1 h j (List.mem_range.2 hlt)
 rw [hl, hj] at h1
 simp only [Bool.not_true, Bool.false_or] at h1
 have h2 := Array.all_eq_true'.1 h1 e he
 rw [hb] at h2
 simpa using h2
theorem Closed.set {listed : Array Bool} {j : Nat} (h : Closed md ops listed) (hj : j ∈ Region.ready md ops listed) : Closed md ops (listed.setIfInBounds j true) := by
 obtain ⟨_, oj, hoj, hall⟩ := mem_ready.1 hj
 have up : ∀ k, listed.getD k false = true -> (listed.setIfInBounds j true).getD k false = true := fun k hk => by
  by_cases e : j = k
  ·
   subst e
   rcases Nat.lt_or_ge j listed.size with h' | h'
   · simp [h']
   · simp [Array.getElem?_eq_none h'] at hk
  · rw [getD_set_ne false e]; exact hk
 intro k ok hk hl e he hb
 by_cases hjk : j = k
 ·
  subst hjk
  have : ok = oj := Option.some.inj (hk.symm.trans hoj)
  subst this
  exact up _ (hall e he hb)
 rw [getD_set_ne false hjk] at hl
 exact up _ (h k ok hk hl e he hb)
theorem path_listed {i : Nat} {listed : Array Bool} (hc : Closed md ops listed) : ∀ (l : List Nat) (d : Nat), pathB md ops d l i = true -> listed.getD d false = true -> listed.getD i false = true
 | [], d, h, hd => by
  obtain ⟨od, hod, e, he, hb, rfl⟩ := waitsB_edge h
  exact hc d od hod hd e he hb
 | j :: l, d, h, hd => by
  simp only [pathB, Bool.and_eq_true] at h
  obtain ⟨od, hod, e, he, hb, rfl⟩ := waitsB_edge h.1
  exact path_listed hc l _ h.2 (hc d od hod hd e he hb)
theorem path_ready {i : Nat} {listed : Array Bool} (hc : Closed md ops listed) {l : List Nat} (h : pathB md ops d l i = true) (hd : d ∈ Region.ready md ops listed) : listed.getD i false = true := by
 obtain ⟨_, od, hod, hall⟩ := mem_ready.1 hd
 cases l with
 | nil =>
  obtain ⟨od', hod', e, he, hb, rfl⟩ := waitsB_edge h
  have : od' = od := Option.some.inj (hod'.symm.trans hod)
  subst this
  exact hall e he hb
 | cons j l =>
  simp only [pathB, Bool.and_eq_true] at h
  obtain ⟨od', hod', e, he, hb, rfl⟩ := waitsB_edge h.1
  have : od' = od := Option.some.inj (hod'.symm.trans hod)
  subst this
  exact path_listed hc l _ h.2 (hall e he hb)
theorem wpAnyU_first {i : Nat} {oi : Oper} {v : Value} (hi : ops[i]? = some oi) (hsel : ∀ (j : Nat) (o : Oper) cs b, ops[j]? = some o -> o.op ≠ .select cs b)
  (hQ : ∀ c a w, Q (.panic c) (a.put oi.dst v) w -> Q (.panic c) a w) {path : List Nat} (hdi : pathB md ops d path i = true) (hne : i ≠ d) :
  ∀ (fuel : Nat) (listed : Array Bool) (a : Act) (w : World), listed.getD d true = false -> Closed md ops listed →
   (∀ j oj, ops[j]? = some oj -> j ≠ i -> listed.getD j true = false -> (∀ e ∈ oj.after, Region.binds md e = true -> e.on ≠ i) -> oi.apart ops oj = true) →
   i ∈ Region.ready md ops listed -> YieldsIf P ops S oi v a -> S w →
   wpAnyU P md ops Q S d fuel (listed.setIfInBounds i true) (a.put oi.dst v) w -> wpAnyU P md ops Q S d (fuel + 1) listed a w := by
 have unl : ∀ {listed : Array Bool}, i ∈ Region.ready md ops listed -> listed.getD i false = false := fun {listed} hr => by
  have h0 := (mem_ready.1 hr).1
  rcases Nat.lt_or_ge i listed.size with h' | h'
  · simp [h'] at h0 ⊢; exact h0
  · simp [Array.getElem?_eq_none h'] at h0
 intro fuel
 induction fuel with
 | zero =>
  intro listed a w _ _ _ hr hy hS H
  refine ⟨fun h => (by rw [h] at hr; cases hr), fun j hj => ?_⟩
  by_cases hji : j = i
  · subst hji; exact hy.wpOp hi hS ⟨fun _ => hS, H⟩
  have := ready_mono hj hji
  rw [H.1] at this
  cases this
 | succ fuel ih =>
  intro listed a w hld hcl hfree hr hy hS H
  refine ⟨fun h => (by rw [h] at hr; cases hr), fun j hj => ?_⟩
  by_cases hji : j = i
  · subst hji; exact hy.wpOp hi hS ⟨fun _ => hS, H⟩
  have h1 := H.2 j (ready_mono hj hji)
  have hjd : j ≠ d := by
   rintro rfl
   have := path_ready hcl hdi hj
   rw [unl hr] at this
   cases this
  obtain ⟨hjun, oj, hoj, hall⟩ := mem_ready.1 hj
  have hnot : ∀ e ∈ oj.after, Region.binds md e = true -> e.on ≠ i := fun e he hb heq => by
   have h1 := hall e he hb
   rw [heq, unl hr] at h1
   cases h1
  have h2 := wpOp_putIf hoj (hfree j oj hoj hji hjun hnot) (fun cs b => hsel i oi cs b hi) (fun cs b => hsel j oj cs b hoj) hQ hy h1
  have hfree' : ∀ k ok, ops[k]? = some ok -> k ≠ i -> (listed.setIfInBounds j true).getD k true = false →
    (∀ e ∈ ok.after, Region.binds md e = true -> e.on ≠ i) -> oi.apart ops ok = true := fun k ok hk hki hun hno => by
   refine hfree k ok hk hki ?_ hno
   by_cases hjk : j = k
   · subst hjk; exact hjun
   · rw [getD_set_ne true hjk] at hun; exact hun
  have hld' : (listed.setIfInBounds j true).getD d true = false := by rw [getD_set_ne true hjd]; exact hld
  have hld2 : ((listed.setIfInBounds i true).setIfInBounds j true).getD d true = false := by rw [getD_set_ne true hjd, getD_set_ne true hne]; exact hld
  refine wpOp_mono (fun a' w' h3 => ⟨fun _ => h3.2.1 hld2, ih (listed.setIfInBounds j true) a' w' hld' (hcl.set hj) hfree' (ready_mono hr (Ne.symm hji)) h3.1 (h3.2.1 hld2) ?_⟩) h2
  rw [Array.setIfInBounds_comm _ _ hji]
  exact h3.2.2
theorem wpAnyU_pure {i : Nat} {oi : Oper} {v : Value} (hi : ops[i]? = some oi) (hsel : ∀ (j : Nat) (o : Oper) cs b, ops[j]? = some o -> o.op ≠ .select cs b)
  (hQ : ∀ c a w, Q (.panic c) (a.put oi.dst v) w -> Q (.panic c) a w) (hne : i ≠ d) :
  ∀ (fuel : Nat) (listed : Array Bool) (a : Act) (w : World), Closed md ops listed →
   (∀ j oj, ops[j]? = some oj -> j ≠ i -> listed.getD j true = false -> (∀ e ∈ oj.after, Region.binds md e = true -> e.on ≠ i) -> oi.apart ops oj = true) →
   i ∈ Region.ready md ops listed -> YieldsIf P ops (fun _ => True) oi v a -> (listed.getD d true = false -> S w) →
   wpAnyU P md ops Q S d fuel (listed.setIfInBounds i true) (a.put oi.dst v) w -> wpAnyU P md ops Q S d (fuel + 1) listed a w := by
 have unl : ∀ {listed : Array Bool}, i ∈ Region.ready md ops listed -> listed.getD i false = false := fun {listed} hr => by
  have h0 := (mem_ready.1 hr).1
  rcases Nat.lt_or_ge i listed.size with h' | h'
  · simp [h'] at h0 ⊢; exact h0
  · simp [Array.getElem?_eq_none h'] at h0
 have low : ∀ {listed : Array Bool}, (listed.setIfInBounds i true).getD d true = false -> listed.getD d true = false := fun {listed} h => by
  rw [getD_set_ne true hne] at h; exact h
 intro fuel
 induction fuel with
 | zero =>
  intro listed a w _ _ hr hy hS H
  refine ⟨fun h => (by rw [h] at hr; cases hr), fun j hj => ?_⟩
  by_cases hji : j = i
  · subst hji; exact hy.wpOp hi trivial ⟨fun h => hS (low h), H⟩
  have := ready_mono hj hji
  rw [H.1] at this
  cases this
 | succ fuel ih =>
  intro listed a w hcl hfree hr hy hS H
  refine ⟨fun h => (by rw [h] at hr; cases hr), fun j hj => ?_⟩
  by_cases hji : j = i
  · subst hji; exact hy.wpOp hi trivial ⟨fun h => hS (low h), H⟩
  have h1 := H.2 j (ready_mono hj hji)
  obtain ⟨hjun, oj, hoj, hall⟩ := mem_ready.1 hj
  have hnot : ∀ e ∈ oj.after, Region.binds md e = true -> e.on ≠ i := fun e he hb heq => by
   have h1 := hall e he hb
   rw [heq, unl hr] at h1
   cases h1
  have h2 := wpOp_putIf hoj (hfree j oj hoj hji hjun hnot) (fun cs b => hsel i oi cs b hi) (fun cs b => hsel j oj cs b hoj) hQ hy h1
  have hfree' : ∀ k ok, ops[k]? = some ok -> k ≠ i -> (listed.setIfInBounds j true).getD k true = false →
    (∀ e ∈ ok.after, Region.binds md e = true -> e.on ≠ i) -> oi.apart ops ok = true := fun k ok hk hki hun hno => by
   refine hfree k ok hk hki ?_ hno
   by_cases hjk : j = k
   · subst hjk; exact hjun
   · rw [getD_set_ne true hjk] at hun; exact hun
  have com : (listed.setIfInBounds j true).setIfInBounds i true = (listed.setIfInBounds i true).setIfInBounds j true := Array.setIfInBounds_comm _ _ hji
  refine wpOp_mono (fun a' w' h3 => ?_) h2
  have hS' : (listed.setIfInBounds j true).getD d true = false -> S w' := fun h => h3.2.1 (by rw [← com, getD_set_ne true hne]; exact h)
  refine ⟨hS', ih (listed.setIfInBounds j true) a' w' (hcl.set hj) hfree' (ready_mono hr (Ne.symm hji)) h3.1 hS' ?_⟩
  rw [com]
  exact h3.2.2
/-! ### the moves -/
theorem ru_begin {id : Nat} {a : Act} {w : World} (S : World -> Prop) (d : Nat) (hm : P.follows .mixedOrders = true) (hS : S w.drew)
  (h : wpAnyU P .any ops Q S d ops.size (Array.replicate ops.size false) a w.drew) : (Code.region id ops true).wp P Q a w :=
 wp_region_any hm (wpAny_of_U _ _ _ _ h)
theorem ru_take (i : Nat) (path : List Nat) {oi : Oper} {v : Value} {fuel : Nat} {listed : Array Bool} {a : Act} {w : World} (hi : ops[i]? = some oi)
  (hc : (Region.noSelect ops && Region.free md ops listed i && (Region.ready md ops listed).contains i && pathB md ops d path i && decide (i ≠ d) && !listed.getD d true && closedB md ops listed) = true)
  (hQ : ∀ c a w, Q (.panic c) (a.put oi.dst v) w -> Q (.panic c) a w) (hS : S w) (hy : YieldsIf P ops S oi v a)
  (h : wpAnyU P md ops Q S d fuel (listed.setIfInBounds i true) (a.put oi.dst v) w) : wpAnyU P md ops Q S d (fuel + 1) listed a w := by
 simp only [Bool.and_eq_true, decide_eq_true_eq, Bool.not_eq_true'] at hc
 exact wpAnyU_first hi (Region.noSelect_spec hc.1.1.1.1.1.1) hQ hc.1.1.1.2 hc.1.1.2 fuel listed a w hc.1.2 (closedB_spec hc.2) (Region.free_spec hi hc.1.1.1.1.1.2) (by simpa using hc.1.1.1.1.2) hy hS h
theorem ru_pure (i : Nat) {oi : Oper} {v : Value} {fuel : Nat} {listed : Array Bool} {a : Act} {w : World} (hi : ops[i]? = some oi)
  (hc : (Region.noSelect ops && Region.free md ops listed i && (Region.ready md ops listed).contains i && decide (i ≠ d) && closedB md ops listed) = true)
  (hQ : ∀ c a w, Q (.panic c) (a.put oi.dst v) w -> Q (.panic c) a w) (hS : listed.getD d true = false -> S w) (hy : YieldsIf P ops (fun _ => True) oi v a)
  (h : wpAnyU P md ops Q S d fuel (listed.setIfInBounds i true) (a.put oi.dst v) w) : wpAnyU P md ops Q S d (fuel + 1) listed a w := by
 simp only [Bool.and_eq_true, decide_eq_true_eq] at hc
 exact wpAnyU_pure hi (Region.noSelect_spec hc.1.1.1.1) hQ hc.1.2 fuel listed a w (closedB_spec hc.2) (Region.free_spec hi hc.1.1.1.2) (by simpa using hc.1.1.2) hy hS h
theorem ru_one (i : Nat) {oi : Oper} {fuel : Nat} {listed : Array Bool} {a : Act} {w : World} (hi : ops[i]? = some oi) (hr : Region.ready md ops listed = [i])
  (h : ∀ K : Act -> World -> Prop, Shut (∀ a w, ((listed.setIfInBounds i true).getD d true = false -> S w) -> wpAnyU P md ops Q S d fuel (listed.setIfInBounds i true) a w -> K a w) →
   if Region.wanted oi (yielded ops a.tmps) = true then Oper.wp P oi a w K Q else K (a.put oi.dst undef) w) : wpAnyU P md ops Q S d (fuel + 1) listed a w := by
 refine ⟨fun h0 => (by rw [hr] at h0; cases h0), fun j hj => ?_⟩
 rw [hr, List.mem_singleton] at hj
 subst hj
 exact wpOp_step hi fun K hK => h K (fun a w hS hW => hK a w ⟨hS, hW⟩)
theorem ru_o (i : Nat) {oi : Oper} {fuel : Nat} {listed : Array Bool} {a : Act} {w : World} (h : ∀ K : Act -> World -> Prop, Shut (∀ a w, ((listed.setIfInBounds i true).getD d true = false -> S w) -> wpAnyU P md ops Q S d fuel (listed.setIfInBounds i true) a w -> K a w) -> if Region.wanted oi (yielded ops a.tmps) = true then Oper.wp P oi a w K Q else K (a.put oi.dst undef) w) (hi : ops[i]? = some oi := by exact rfl) (hr : Region.ready md ops listed = [i] := by kernel_rfl) : wpAnyU P md ops Q S d (fuel + 1) listed a w := ru_one i hi hr h
def RuStep (P : Program) (md : Region.Mode) (ops : Array Oper) (Q : Exit -> Act -> World -> Prop) (S : World -> Prop) (d fuel : Nat) (listed : Array Bool) (a : Act) (w : World) (i : Nat) (oi : Oper) : Prop :=
 ∀ K : Act -> World -> Prop, Shut (∀ a w, ((listed.setIfInBounds i true).getD d true = false -> S w) -> wpAnyU P md ops Q S d fuel (listed.setIfInBounds i true) a w -> K a w) →
   if Region.wanted oi (yielded ops a.tmps) = true then Oper.wp P oi a w K Q else K (a.put oi.dst undef) w
theorem RuStep.op {fuel : Nat} {listed : Array Bool} {a : Act} {w : World} {i : Nat} {oi : Oper} (hi : ops[i]? = some oi) (h : RuStep P md ops Q S d fuel listed a w i oi) :
  wpOp P ops Q i (fun a' w' => ((listed.setIfInBounds i true).getD d true = false -> S w') /\ wpAnyU P md ops Q S d fuel (listed.setIfInBounds i true) a' w') a w :=
 wpOp_step hi fun K hK => h K (fun a w hS hW => hK a w ⟨hS, hW⟩)
theorem ru_two (i j : Nat) {oi oj : Oper} {fuel : Nat} {listed : Array Bool} {a : Act} {w : World} (hi : ops[i]? = some oi) (hj : ops[j]? = some oj) (hr : Region.ready md ops listed = [i, j])
  (h1 : RuStep P md ops Q S d fuel listed a w i oi) (h2 : RuStep P md ops Q S d fuel listed a w j oj) : wpAnyU P md ops Q S d (fuel + 1) listed a w := by
 refine ⟨fun h0 => (by rw [hr] at h0; cases h0), fun k hk => ?_⟩
 rw [hr] at hk
 rcases List.mem_cons.1 hk with rfl | hk
 · exact h1.op hi
 · rw [List.mem_singleton] at hk; subst hk; exact h2.op hj
theorem ru_three (i j k : Nat) {oi oj ok : Oper} {fuel : Nat} {listed : Array Bool} {a : Act} {w : World} (hi : ops[i]? = some oi) (hj : ops[j]? = some oj) (hk : ops[k]? = some ok) (hr : Region.ready md ops listed = [i, j, k])
  (h1 : RuStep P md ops Q S d fuel listed a w i oi) (h2 : RuStep P md ops Q S d fuel listed a w j oj) (h3 : RuStep P md ops Q S d fuel listed a w k ok) : wpAnyU P md ops Q S d (fuel + 1) listed a w := by
 refine ⟨fun h0 => (by rw [hr] at h0; cases h0), fun x hx => ?_⟩
 rw [hr] at hx
 rcases List.mem_cons.1 hx with rfl | hx
 · exact h1.op hi
 rcases List.mem_cons.1 hx with rfl | hx
 · exact h2.op hj
 · rw [List.mem_singleton] at hx; subst hx; exact h3.op hk
theorem ru_done {fuel : Nat} {listed : Array Bool} {a : Act} {w : World} (hr : Region.ready md ops listed = []) (h : Q .normal a w) : wpAnyU P md ops Q S d fuel listed a w := by
 cases fuel with
 | zero => exact ⟨hr, h⟩
 | succ f => exact ⟨fun _ => h, by rw [hr]; simp⟩
theorem ru_back {fuel : Nat} {l : Array Bool} {a : Act} {w : World} {K : Act -> World -> Prop} (hK : Shut (∀ a w, (l.getD d true = false -> S w) -> wpAnyU P md ops Q S d fuel l a w -> K a w)) (hS : S w)
  (h : S w -> wpAnyU P md ops Q S d fuel l a w) : K a w := hK.out a w (fun _ => hS) (h hS)
theorem ru_back_late {fuel : Nat} {l : Array Bool} {a : Act} {w : World} {K : Act -> World -> Prop} (hK : Shut (∀ a w, (l.getD d true = false -> S w) -> wpAnyU P md ops Q S d fuel l a w -> K a w)) (hx : l.getD d true = true)
  (h : wpAnyU P md ops Q S d fuel l a w) : K a w := hK.out a w (fun h => by rw [hx] at h; cases h) h
end
section
variable {P : Program} {ops : Array Oper} {Q : Exit -> Act -> World -> Prop} {md : Region.Mode} {S : World -> Prop} {d : Nat}
theorem ru_t (i : Nat) (path : List Nat) {oi : Oper} {v : Value} {fuel : Nat} {listed : Array Bool} {a : Act} {w : World}
  (h : wpAnyU P md ops Q S d fuel (listed.setIfInBounds i true) (a.put oi.dst v) w) (hi : ops[i]? = some oi := by rfl)
  (hc : (Region.noSelect ops && Region.free md ops listed i && (Region.ready md ops listed).contains i && pathB md ops d path i && decide (i ≠ d) && !listed.getD d true && closedB md ops listed) = true := by kernel_rfl)
  (hQ : ∀ c a w, Q (.panic c) (a.put oi.dst v) w -> Q (.panic c) a w := by exact fun _ _ _ h => h) (hS : S w := by assumption)
  (hw : Region.wanted oi (yielded ops a.tmps) = true := by first | kernel_rfl | rfl) (hy : ∀ w, S w -> (execOp a.eval oi).run P w = .ok (.value v) w := by (intro wS hwS; (try dsimp only at hwS); go_simp; (try with_reducible rfl))) : wpAnyU P md ops Q S d (fuel + 1) listed a w :=
 ru_take i path hi hc hQ hS (.inl ⟨hw, hy⟩) h
theorem ru_p (i : Nat) {oi : Oper} {v : Value} {fuel : Nat} {listed : Array Bool} {a : Act} {w : World}
  (h : wpAnyU P md ops Q S d fuel (listed.setIfInBounds i true) (a.put oi.dst v) w) (hi : ops[i]? = some oi := by rfl)
  (hc : (Region.noSelect ops && Region.free md ops listed i && (Region.ready md ops listed).contains i && decide (i ≠ d) && closedB md ops listed) = true := by kernel_rfl)
  (hQ : ∀ c a w, Q (.panic c) (a.put oi.dst v) w -> Q (.panic c) a w := by exact fun _ _ _ h => h) (hS : listed.getD d true = false -> S w := by exact fun hd_ => by first | (exact absurd hd_ (by decide)) | assumption)
  (hw : Region.wanted oi (yielded ops a.tmps) = true := by first | kernel_rfl | rfl) (hy : ∀ w, (fun _ => True) w -> (execOp a.eval oi).run P w = .ok (.value v) w := by (intro wS hwS; clear hwS; go_simp; (try with_reducible rfl))) : wpAnyU P md ops Q S d (fuel + 1) listed a w :=
 ru_pure i hi hc hQ hS (.inl ⟨hw, hy⟩) h
end
end Go.Proofs.YtcoldeolmleeiaaGreat
