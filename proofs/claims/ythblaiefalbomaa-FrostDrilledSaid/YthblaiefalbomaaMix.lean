/- A region that draws, with allocations that may come up anywhere beside a chain of calls: one step for each operation, whatever the order. -/
import Derived.Test.YthblaiefalbomaaMk
set_option linter.unusedVariables false
set_option linter.unusedSimpArgs false
set_option linter.unnecessarySimpa false
namespace Go.Proofs.Ythblaiefalbomaa
open Go.RowKit Go.Shelf

structure AllocS where
  k : Nat
  d : Nat
  t : TypeId
  cs : Array Value
def mrk (l : Array Bool) : List Nat → Array Bool
  | [] => l
  | i :: is => mrk (l.setIfInBounds i true) is
theorem mrk_size : ∀ (is : List Nat) (l : Array Bool), (mrk l is).size = l.size
  | [], _ => rfl
  | i :: is, l => by rw [mrk, mrk_size is]; simp
theorem mrk_get : ∀ (is : List Nat) (l : Array Bool) (i : Nat), i < l.size → ((mrk l is).getD i false = true ↔ l.getD i false = true ∨ i ∈ is)
  | [], l, i, h => by simp [mrk]
  | x :: is, l, i, h => by
    rw [mrk, mrk_get is _ i (by simpa using h)]
    by_cases e : x = i
    · subst e; simp [h]
    · rw [getD_set_ne false e]
      simp [Ne.symm e]
/-- What has come up. -/
def Ups (l0 listed : Array Bool) (X : Nat → Prop) : Prop := listed.size = l0.size ∧ ∀ i, i < l0.size → (listed.getD i false = true ↔ l0.getD i false = true ∨ X i)
theorem getD_tf {l : Array Bool} {i : Nat} (h : i < l.size) : l.getD i true = l.getD i false := by simp [h]
theorem getD_lt {l : Array Bool} {i : Nat} (h : l.getD i true = false) : i < l.size := by
  rcases Nat.lt_or_ge i l.size with h' | h'
  · exact h'
  · simp [Array.getElem?_eq_none h'] at h
theorem getD_lt' {l : Array Bool} {i : Nat} (h : l.getD i false = true) : i < l.size := by
  rcases Nat.lt_or_ge i l.size with h' | h'
  · exact h'
  · simp [Array.getElem?_eq_none h'] at h
section
variable {ops : Array Oper} {md : Region.Mode} {l0 listed : Array Bool} {X : Nat → Prop}
theorem Ups.mrk (l0 : Array Bool) (xs : List Nat) : Ups l0 (mrk l0 xs) (fun i => i ∈ xs) := ⟨mrk_size xs l0, fun i hi => mrk_get xs l0 i hi⟩
theorem Ups.set {i : Nat} (h : Ups l0 listed X) : Ups l0 (listed.setIfInBounds i true) (fun x => X x ∨ x = i) := by
  refine ⟨by simpa using h.1, fun x hx => ?_⟩
  by_cases e : i = x
  · subst e
    have : i < listed.size := by rw [h.1]; exact hx
    simp [this]
  · rw [getD_set_ne false e, h.2 x hx]
    constructor
    · rintro (a | a)
      · exact .inl a
      · exact .inr (.inl a)
    · rintro (a | a | a)
      · exact .inl a
      · exact .inr a
      · exact absurd a.symm e
theorem Ups.ext {listed' : Array Bool} (h : Ups l0 listed X) (h' : Ups l0 listed' X) : listed = listed' := by
  refine Array.ext (h.1.trans h'.1.symm) fun i h1 h2 => ?_
  have hi : i < l0.size := by rw [← h.1]; exact h1
  have a := (h.2 i hi).trans (h'.2 i hi).symm
  simp only [Array.getD_eq_getD_getElem?, Array.getElem?_eq_getElem h1, Array.getElem?_eq_getElem h2, Option.getD_some] at a
  cases e1 : listed[i] <;> cases e2 : listed'[i] <;> simp_all
theorem Ups.congr {Y : Nat → Prop} (h : Ups l0 listed X) (hxy : ∀ i, X i ↔ Y i) : Ups l0 listed Y := ⟨h.1, fun i hi => by rw [h.2 i hi, hxy i]⟩
/-- What may come up may come up when more has come up, itself not. -/
theorem ready_more {listed' : Array Bool} {Y : Nat → Prop} {i : Nat} (h : Ups l0 listed X) (h' : Ups l0 listed' Y) (hxy : ∀ x, X x → Y x) (hi : i ∈ Region.ready md ops listed) (hn : ¬ Y i) : i ∈ Region.ready md ops listed' := by
  rw [mem_ready] at hi ⊢
  obtain ⟨h0, o, ho, ha⟩ := hi
  have hl := getD_lt h0
  rw [getD_tf hl] at h0
  have hl0 : i < l0.size := by rw [← h.1]; exact hl
  have hl' : i < listed'.size := by rw [h'.1]; exact hl0
  refine ⟨?_, o, ho, fun e he hb => ?_⟩
  · rw [getD_tf hl']
    have : ¬ listed'.getD i false = true := fun e => by
      rcases (h'.2 i hl0).1 e with e1 | e1
      · have := (h.2 i hl0).2 (.inl e1); rw [h0] at this; cases this
      · exact hn e1
    simpa using this
  · have h1 := ha e he hb
    have hx : e.on < l0.size := by rw [← h.1]; exact getD_lt' h1
    rcases (h.2 _ hx).1 h1 with h2 | h2
    · exact (h'.2 _ hx).2 (.inl h2)
    · exact (h'.2 _ hx).2 (.inr (hxy _ h2))
end

def upd (t : Nat → Value) (d : Nat) (v : Value) : Nat → Value := fun i => if i = d then v else t i
theorem slot_put {a : Act} {d : Nat} {v : Value} (h : d < a.tmps.size) : slot (a.put (some d) v).tmps = upd (slot a.tmps) d v := by
  funext i
  unfold slot upd
  by_cases e : i = d
  · subst e; simp [Act.put, h]
  · simp [Act.put, e, Array.getElem?_setIfInBounds_ne (Ne.symm e)]
theorem frame_slots {T : Array Value} {n : Nat} (hT : T.size = n) : T = ((List.range n).map (slot T)).toArray := by
  refine Array.ext (by simp [hT]) fun i h1 h2 => ?_
  simp [slot, h1]

section
variable {P : Program} {ops : Array Oper} {Q : Exit → Act → World → Prop} {md : Region.Mode} {S : World → Prop} {d : Nat}
/-- What the texts' walk has in hand, by the world. -/
structure GoodG (G : List Res → World → Prop) : Prop where
  gn : ∀ L A B, G L A → A.grownBy B none → G L B
  new : ∀ L A t cs, G L A → G (rbox A.heap.size t cs :: L) (A.alloc (.cells cs t))
  perm : ∀ L L' A, G L A → L.Perm L' → G L' A
theorem goodBun (w0 : World) : GoodG (Bun w0) := ⟨fun _ _ _ h hg => h.gn hg, fun _ _ t cs h => h.new t cs rfl, fun _ _ _ h hp => h.perm hp⟩
theorem goodBus (w0 : World) (sd : Nat) : GoodG (Bus w0 sd) := ⟨fun _ _ _ h hg => h.gn hg, fun _ _ t cs h => h.new t cs rfl, fun _ _ _ h hp => h.perm hp⟩
theorem goodBunS (w0 : World) (k : Nat) : GoodG (fun L W => Bun w0 L W ∧ k ≤ W.heap.size) := ⟨fun _ _ _ h hg => ⟨h.1.gn hg, Nat.le_trans h.2 hg.size⟩, fun _ _ t cs h => ⟨h.1.new t cs rfl, by have := h.2; simp; omega⟩, fun _ _ _ h hp => ⟨h.1.perm hp, h.2⟩⟩
theorem goodBusS (w0 : World) (sd k : Nat) : GoodG (fun L W => Bus w0 sd L W ∧ k ≤ W.heap.size) := ⟨fun _ _ _ h hg => ⟨h.1.gn hg, Nat.le_trans h.2 hg.size⟩, fun _ _ t cs h => ⟨h.1.new t cs rfl, by have := h.2; simp; omega⟩, fun _ _ _ h hp => ⟨h.1.perm hp, h.2⟩⟩
def boxOf (p : AllocS × Nat) : Res := rbox p.2 p.1.t p.1.cs
def ptrOf (g : Nat) : Value := .pointer (some ⟨g, 0, none⟩)
structure St (G : List Res → World → Prop) (n : Nat) (U : (Nat → Value) → Prop) (Lb : List Res) (done : List (AllocS × Nat)) (a : Act) (w : World) : Prop where
  size : a.tmps.size = n
  defers : a.defers = []
  u : U (slot a.tmps)
  ptr : ∀ p ∈ done, slot a.tmps p.1.d = ptrOf p.2
  g : G (done.map boxOf ++ Lb) w
/-- One operation of the chain that is carried out: what it leaves. -/
def Step (P : Program) (ops : Array Oper) (Q : Exit → Act → World → Prop) (S : World → Prop) (G : List Res → World → Prop) (n : Nat) (ls : List AllocS) (i : Nat) (U U' : (Nat → Value) → Prop) (Lb Lb' : List Res) : Prop :=
  ∀ (t : Nat → Value) (w : World) (LA : List Res), U t → G (Lb ++ LA) w →
    wpOp P ops Q i (fun a' w' => a'.tmps.size = n ∧ a'.defers = [] ∧ U' (slot a'.tmps) ∧ (∀ al ∈ ls, slot a'.tmps al.d = t al.d) ∧ G (Lb' ++ LA) w' ∧ S w') { tmps := ((List.range n).map t).toArray, defers := [] } w
def StepP (P : Program) (ops : Array Oper) (n : Nat) (ls : List AllocS) (oi : Oper) (U U' : (Nat → Value) → Prop) : Prop :=
  ∀ (t : Nat → Value), U t → ∃ v, YieldsIf P ops (fun _ => True) oi v { tmps := ((List.range n).map t).toArray, defers := [] } ∧
    ((Act.put { tmps := ((List.range n).map t).toArray, defers := [] } oi.dst v).tmps.size = n ∧ (Act.put { tmps := ((List.range n).map t).toArray, defers := [] } oi.dst v).defers = []) ∧
    U' (slot (Act.put { tmps := ((List.range n).map t).toArray, defers := [] } oi.dst v).tmps) ∧ ∀ al ∈ ls, slot (Act.put { tmps := ((List.range n).map t).toArray, defers := [] } oi.dst v).tmps al.d = t al.d
inductive Chain (P : Program) (ops : Array Oper) (Q : Exit → Act → World → Prop) (G : List Res → World → Prop) (S : World → Prop) (n : Nat) (ls : List AllocS) (md : Region.Mode) (l0 : Array Bool) (d : Nat) : List Nat → List Nat → ((Nat → Value) → Prop) → List Res → ((Nat → Value) → Prop) → List Res → Prop
  | nil (pre : List Nat) (U : (Nat → Value) → Prop) (Lb : List Res) (hst : ∀ al ∈ ls, ∀ t v, U t → U (upd t al.d v)) (hS : ∀ LA w, G (Lb ++ LA) w → S w) : Chain P ops Q G S n ls md l0 d pre [] U Lb U Lb
  | call (pre : List Nat) (i : Nat) (is : List Nat) (U U' Um : (Nat → Value) → Prop) (Lb Lb' Lm : List Res)
      (hst : ∀ al ∈ ls, ∀ t v, U t → U (upd t al.d v)) (hS : ∀ LA w, G (Lb ++ LA) w → S w) (hc : (Region.ready md ops (mrk l0 (pre ++ ls.map (·.k))) == [i] && (Region.ready md ops (mrk l0 pre)).contains i && decide (i ≠ d) && closedB md ops (mrk l0 pre)) = true)
      (hs : Step P ops Q S G n ls i U U' Lb Lb') (hr : Chain P ops Q G S n ls md l0 d (pre ++ [i]) is U' Lb' Um Lm) : Chain P ops Q G S n ls md l0 d pre (i :: is) U Lb Um Lm
  | pure (pre : List Nat) (i : Nat) (oi : Oper) (is : List Nat) (U U' Um : (Nat → Value) → Prop) (Lb Lm : List Res) (hi : ops[i]? = some oi)
      (hst : ∀ al ∈ ls, ∀ t v, U t → U (upd t al.d v)) (hS : ∀ LA w, G (Lb ++ LA) w → S w) (hc : (Region.free md ops (mrk l0 pre) i && (Region.ready md ops (mrk l0 pre)).contains i && decide (i ≠ d) && closedB md ops (mrk l0 pre)) = true)
      (hs : StepP P ops n ls oi U U') (hr : Chain P ops Q G S n ls md l0 d (pre ++ [i]) is U' Lb Um Lm) : Chain P ops Q G S n ls md l0 d pre (i :: is) U Lb Um Lm
theorem Chain.callS {P : Program} {ops : Array Oper} {Q : Exit → Act → World → Prop} {G : List Res → World → Prop} {S : World → Prop} {n : Nat} {ls : List AllocS} {md : Region.Mode} {l0 : Array Bool} {d : Nat} {pre : List Nat} (i : Nat) {is : List Nat} {U : (Nat → Value) → Prop} (U' : (Nat → Value) → Prop) {Um : (Nat → Value) → Prop} {Lb Lm : List Res}
    (hst : ∀ al ∈ ls, ∀ t v, U t → U (upd t al.d v)) (hS : ∀ LA w, G (Lb ++ LA) w → S w) (hc : (Region.ready md ops (mrk l0 (pre ++ ls.map (·.k))) == [i] && (Region.ready md ops (mrk l0 pre)).contains i && decide (i ≠ d) && closedB md ops (mrk l0 pre)) = true)
    (hs : Step P ops Q S G n ls i U U' Lb Lb) (hr : Chain P ops Q G S n ls md l0 d (pre ++ [i]) is U' Lb Um Lm) : Chain P ops Q G S n ls md l0 d pre (i :: is) U Lb Um Lm := Chain.call _ _ _ _ U' _ _ Lb _ hst hS hc hs hr
theorem Chain.pureS {P : Program} {ops : Array Oper} {Q : Exit → Act → World → Prop} {G : List Res → World → Prop} {S : World → Prop} {n : Nat} {ls : List AllocS} {md : Region.Mode} {l0 : Array Bool} {d : Nat} {pre : List Nat} (i : Nat) {oi : Oper} {is : List Nat} {U : (Nat → Value) → Prop} (U' : (Nat → Value) → Prop) {Um : (Nat → Value) → Prop} {Lb Lm : List Res} (hi : ops[i]? = some oi)
    (hst : ∀ al ∈ ls, ∀ t v, U t → U (upd t al.d v)) (hS : ∀ LA w, G (Lb ++ LA) w → S w) (hc : (Region.free md ops (mrk l0 pre) i && (Region.ready md ops (mrk l0 pre)).contains i && decide (i ≠ d) && closedB md ops (mrk l0 pre)) = true)
    (hs : StepP P ops n ls oi U U') (hr : Chain P ops Q G S n ls md l0 d (pre ++ [i]) is U' Lb Um Lm) : Chain P ops Q G S n ls md l0 d pre (i :: is) U Lb Um Lm := Chain.pure _ _ _ _ _ U' _ _ _ hi hst hS hc hs hr
theorem wpOp_stepH {P : Program} {ops : Array Oper} {Q : Exit → Act → World → Prop} {i : Nat} {o : Oper} {K : Act → World → Prop} {a : Act} {w : World} (ho : ops[i]? = some o)
    (h : ∀ K' : Act → World → Prop, Hid (∀ a w, K a w → K' a w) → if Region.wanted o (yielded ops a.tmps) = true then Oper.wp P o a w K' Q else K' (a.put o.dst undef) w) : wpOp P ops Q i K a w := wpOp_step ho fun K' hK => h K' (Lib.hid hK)
def mixOk (ops : Array Oper) (md : Region.Mode) (l0 : Array Bool) (is : List Nat) (ls : List AllocS) (d : Nat) : Bool :=
  Region.noSelect ops && decide (l0.size = ops.size) && !l0.getD d true && is.all (fun i => decide (i ≠ d)) &&
  ls.all (fun al => (match ops[al.k]? with | some o => o.after.all (fun e => !Region.binds md e || l0.getD e.on false) | none => false) && decide (al.k ≠ d) && !l0.getD al.k true && !is.contains al.k &&
    (Region.ready md ops (mrk l0 (is ++ ((ls.map (·.k)).filter (fun k => k != al.k)))) == [al.k])) && decide (ls.map (·.k)).Nodup
theorem closed_more {l0 listed : Array Bool} {pre : List Nat} {done : List (AllocS × Nat)} (hU : Ups l0 listed (fun i => i ∈ pre ∨ i ∈ done.map (·.1.k))) (hc : closedB md ops (mrk l0 pre) = true)
    (hd : ∀ p ∈ done, ∀ o, ops[p.1.k]? = some o → ∀ e ∈ o.after, Region.binds md e = true → l0.getD e.on false = true) : Closed md ops listed := by
  intro j oj hj hl e he hb
  have hjl := getD_lt' hl
  have hj0 : j < l0.size := by rw [← hU.1]; exact hjl
  have up : ∀ x, l0.getD x false = true ∨ x ∈ pre → x < l0.size → listed.getD x false = true := fun x hx hlt => (hU.2 x hlt).2 (hx.imp id .inl)
  rcases (hU.2 j hj0).1 hl with h | h | h
  · have h1 := closedB_spec hc j oj hj ((mrk_get pre l0 j hj0).2 (.inl h)) e he hb
    have hx := getD_lt' h1
    rw [mrk_size] at hx
    exact up _ ((mrk_get pre l0 _ hx).1 h1) hx
  · have h1 := closedB_spec hc j oj hj ((mrk_get pre l0 j hj0).2 (.inr h)) e he hb
    have hx := getD_lt' h1
    rw [mrk_size] at hx
    exact up _ ((mrk_get pre l0 _ hx).1 h1) hx
  · obtain ⟨p, hp, rfl⟩ := List.mem_map.1 h
    have h1 := hd p hp oj hj e he hb
    exact up _ (.inl h1) (getD_lt' h1)
structure MixOk (ops : Array Oper) (md : Region.Mode) (l0 : Array Bool) (isA : List Nat) (ls : List AllocS) (d : Nat) : Prop where
  sel : Region.noSelect ops = true
  size : l0.size = ops.size
  dd : l0.getD d true = false
  isd : ∀ i ∈ isA, i ≠ d
  dep : ∀ al ∈ ls, ∃ o, ops[al.k]? = some o ∧ ∀ e ∈ o.after, Region.binds md e = true → l0.getD e.on false = true
  kd : ∀ al ∈ ls, al.k ≠ d
  k0 : ∀ al ∈ ls, l0.getD al.k true = false
  ki : ∀ al ∈ ls, al.k ∉ isA
  last : ∀ al ∈ ls, Region.ready md ops (mrk l0 (isA ++ ((ls.map (·.k)).filter (fun k => k != al.k)))) = [al.k]
  nodup : (ls.map (·.k)).Nodup
theorem mixOk_spec {l0 : Array Bool} {isA : List Nat} {ls : List AllocS} (h : mixOk ops md l0 isA ls d = true) : MixOk ops md l0 isA ls d := by
  unfold mixOk at h
  simp only [Bool.and_eq_true, decide_eq_true_eq, List.all_eq_true, Bool.not_eq_true', beq_iff_eq] at h
  obtain ⟨⟨⟨⟨⟨h1, h2⟩, h3⟩, h4⟩, h5⟩, h6⟩ := h
  refine ⟨h1, h2, h3, h4, fun al ha => ?_, fun al ha => (h5 al ha).1.1.1.2, fun al ha => (h5 al ha).1.1.2, fun al ha hm => ?_, fun al ha => (h5 al ha).2, h6⟩
  · have h7 := (h5 al ha).1.1.1.1
    split at h7
    · rename_i o ho
      refine ⟨o, ho, fun e he hb => ?_⟩
      have h8 := Array.all_eq_true'.1 h7 e he
      rw [hb] at h8
      simpa using h8
    · cases h7
  · have := (h5 al ha).1.2
    simp [hm] at this
/-- The region: whatever the order. -/
theorem mix_go {G : List Res → World → Prop} (hG : GoodG G) {n : Nat} {ls : List AllocS} {l0 : Array Bool} {isA : List Nat} (hok : MixOk ops md l0 isA ls d)
    (hQ : ∀ c a q v w, Q (.panic c) (Act.put a (some q) v) w → Q (.panic c) a w) {Um : (Nat → Value) → Prop} {Lm : List Res}
    (hn : ∀ al ∈ ls, al.d < n) (hdd : (ls.map (·.d)).Nodup) {fuelF : Nat}
    (halloc : ∀ al ∈ ls, ∀ (a : Act) (w : World) (K : Act → World → Prop), K (Act.put a (some al.d) (ptrOf w.heap.size)) (w.alloc (.cells al.cs al.t)) → wpOp P ops Q al.k K a w)
    (hrest : ∀ (done : List (AllocS × Nat)) (a : Act) (w : World), (done.map (·.1)).Perm ls → St G n Um Lm done a w → wpAnyU P md ops Q S d fuelF (mrk l0 (isA ++ ls.map (·.k))) a w) :
    ∀ (r : Nat) (pre is : List Nat) (U : (Nat → Value) → Prop) (Lb : List Res) (done : List (AllocS × Nat)) (rem : List AllocS) (listed : Array Bool) (a : Act) (w : World),
    pre ++ is = isA → is.length + rem.length = r → Chain P ops Q G S n ls md l0 d pre is U Lb Um Lm →
    (done.map (·.1) ++ rem).Perm ls → Ups l0 listed (fun i => i ∈ pre ∨ i ∈ done.map (·.1.k)) →
    St G n U Lb done a w → wpAnyU P md ops Q S d (fuelF + r) listed a w := by
  intro r
  induction r with
  | zero =>
    intro pre is U Lb done rem listed a w hp hr hch hperm hU hst
    have h1 : is.length = 0 := by omega
    have h2 : rem.length = 0 := by omega
    obtain rfl := List.length_eq_zero_iff.1 h1
    obtain rfl := List.length_eq_zero_iff.1 h2
    rw [List.append_nil] at hperm
    have hpre : pre = isA := by simpa using hp
    subst hpre
    have hlist : listed = mrk l0 (pre ++ ls.map (·.k)) := by
      refine hU.ext ((Ups.mrk l0 _).congr fun i => ?_)
      rw [List.mem_append]
      refine or_congr Iff.rfl ?_
      have := (hperm.map (·.k)).mem_iff (a := i)
      rw [List.map_map] at this
      exact this.symm
    cases hch
    rw [hlist]
    exact hrest done a w hperm hst
  | succ r ih =>
    intro pre is U Lb done rem listed a w hp hr hch hperm hU hst
    have hsz : listed.size = ops.size := hU.1.trans hok.size
    have hmem : ∀ al, al ∈ ls ↔ al ∈ done.map (·.1) ∨ al ∈ rem := fun al => by rw [← hperm.mem_iff, List.mem_append]
    have hknd : ((done.map (·.1) ++ rem).map (·.k)).Nodup := (hperm.map (·.k)).nodup_iff.2 hok.nodup
    have hdnd : ((done.map (·.1) ++ rem).map (·.d)).Nodup := (hperm.map (·.d)).nodup_iff.2 hdd
    have hunl : listed.getD d true = false := by
      have hdl := getD_lt hok.dd
      have hdl' : d < listed.size := by rw [hU.1]; exact hdl
      rw [getD_tf hdl']
      have : ¬ listed.getD d false = true := fun e => by
        rcases (hU.2 d hdl).1 e with e1 | e1 | e1
        · have := hok.dd; rw [getD_tf hdl, e1] at this; cases this
        · exact hok.isd d (hp ▸ List.mem_append.2 (.inl e1)) rfl
        · obtain ⟨p, hpm, e2⟩ := List.mem_map.1 e1
          exact hok.kd p.1 ((hmem p.1).2 (.inl (List.mem_map.2 ⟨p, hpm, rfl⟩))) e2
      simpa using this
    have hust : ∀ al ∈ ls, ∀ t v, U t → U (upd t al.d v) := by cases hch <;> assumption
    have hSG : ∀ (LA : List Res) (w : World), G (LA ++ Lb) w → S w := fun LA w h => by
      have h' : G (Lb ++ LA) w := hG.perm _ _ _ h List.perm_append_comm
      cases hch with
      | nil _ _ _ _ hS => exact hS LA w h'
      | call _ _ _ _ _ _ _ _ _ _ hS => exact hS LA w h'
      | pure _ _ _ _ _ _ _ _ _ _ _ hS => exact hS LA w h'
    -- an allocation
    have doalloc : ∀ al ∈ rem, wpOp P ops Q al.k (fun a' w' => ((listed.setIfInBounds al.k true).getD d true = false → S w') ∧ wpAnyU P md ops Q S d (fuelF + r) (listed.setIfInBounds al.k true) a' w') a w := by
      intro al hal
      have hals := (hmem al).2 (.inr hal)
      obtain ⟨s1, s2, hrem⟩ := List.append_of_mem hal
      refine halloc al hals a w _ ?_
      have hsl : slot (Act.put a (some al.d) (ptrOf w.heap.size)).tmps = upd (slot a.tmps) al.d (ptrOf w.heap.size) := slot_put (by rw [hst.size]; exact hn al hals)
      have hst' : St G n U Lb ((al, w.heap.size) :: done) (Act.put a (some al.d) (ptrOf w.heap.size)) (w.alloc (.cells al.cs al.t)) := by
        refine ⟨by simp [Act.put, hst.size], hst.defers, by rw [hsl]; exact hust al hals _ _ hst.u, fun p hpm => ?_, hG.new _ _ _ _ hst.g⟩
        rw [hsl]
        rcases List.mem_cons.1 hpm with rfl | hpm
        · simp [upd]
        · have hne : p.1.d ≠ al.d := fun e => by
            rw [List.map_append, List.nodup_append] at hdnd
            exact hdnd.2.2 p.1.d (List.mem_map.2 ⟨p.1, List.mem_map.2 ⟨p, hpm, rfl⟩, rfl⟩) al.d (List.mem_map.2 ⟨al, hal, rfl⟩) e
          simp only [upd, if_neg hne]
          exact hst.ptr p hpm
      refine ⟨fun _ => hSG ((al, w.heap.size) :: done |>.map boxOf) _ hst'.g, ih pre is U Lb ((al, w.heap.size) :: done) (s1 ++ s2) _ _ _ hp (by rw [hrem] at hr; simp at hr ⊢; omega) hch ?_ ?_ hst'⟩
      · refine List.Perm.trans ?_ hperm
        rw [hrem, List.map_cons]
        show (al :: (done.map (·.1) ++ (s1 ++ s2))).Perm _
        rw [← List.append_assoc, ← List.append_assoc]
        exact List.perm_middle.symm
      · refine hU.set.congr fun i => ?_
        simp only [List.map_cons, List.mem_cons]
        constructor
        · rintro ((h | h) | h)
          · exact .inl h
          · exact .inr (.inr h)
          · exact .inr (.inl h)
        · rintro (h | h | h)
          · exact .inl (.inl h)
          · exact .inr h
          · exact .inl (.inr h)
    have rdalloc : ∀ al ∈ rem, al.k ∈ Region.ready md ops listed := by
      intro al hal
      have hals := (hmem al).2 (.inr hal)
      obtain ⟨o, ho, hdep⟩ := hok.dep al hals
      have hk0 := hok.k0 al hals
      have hkl := getD_lt hk0
      rw [mem_ready]
      refine ⟨?_, o, ho, fun e he hb => ?_⟩
      · have hkl' : al.k < listed.size := by rw [hU.1]; exact hkl
        rw [getD_tf hkl']
        have : ¬ listed.getD al.k false = true := fun e => by
          rcases (hU.2 _ hkl).1 e with e1 | e1 | e1
          · rw [getD_tf hkl, e1] at hk0; cases hk0
          · exact hok.ki al hals (hp ▸ List.mem_append.2 (.inl e1))
          · rw [List.map_append, List.nodup_append] at hknd
            obtain ⟨p, hpm, e2⟩ := List.mem_map.1 e1
            exact hknd.2.2 p.1.k (List.mem_map.2 ⟨p.1, List.mem_map.2 ⟨p, hpm, rfl⟩, rfl⟩) al.k (List.mem_map.2 ⟨al, hal, rfl⟩) e2
        simpa using this
      · have h1 := hdep e he hb
        exact (hU.2 _ (getD_lt' h1)).2 (.inl h1)
    -- what may come up among the allocations
    have among : ∀ i ∈ Region.ready md ops listed, i ∈ ls.map (·.k) → ∃ al ∈ rem, al.k = i := by
      intro i hi hm
      obtain ⟨al, hal, rfl⟩ := List.mem_map.1 hm
      rcases (hmem al).1 hal with h | h
      · obtain ⟨p, hpm, rfl⟩ := List.mem_map.1 h
        have h0 := (mem_ready.1 hi).1
        have hl := getD_lt h0
        rw [getD_tf hl, (hU.2 _ (by rw [← hU.1]; exact hl)).2 (.inr (.inr (List.mem_map.2 ⟨p, hpm, rfl⟩)))] at h0
        cases h0
      · exact ⟨al, h, rfl⟩
    have hdepd : ∀ p ∈ done, ∀ o, ops[p.1.k]? = some o → ∀ e ∈ o.after, Region.binds md e = true → l0.getD e.on false = true := by
      intro p hpm o ho e he hb
      obtain ⟨o', ho', hdep⟩ := hok.dep p.1 ((hmem p.1).2 (.inl (List.mem_map.2 ⟨p, hpm, rfl⟩)))
      rw [ho] at ho'
      cases ho'
      exact hdep e he hb
    have hUpre : ∀ i, i ∉ ls.map (·.k) → i ∈ Region.ready md ops (mrk l0 pre) → i ∈ Region.ready md ops listed := by
      intro i hni hi
      refine ready_more (Ups.mrk l0 pre) hU (fun x hx => .inl hx) hi ?_
      rintro (h | h)
      · have h0 := (mem_ready.1 hi).1
        have hl := getD_lt h0
        rw [getD_tf hl] at h0
        rw [mrk_size] at hl
        rw [(mrk_get pre l0 i hl).2 (.inr h)] at h0
        cases h0
      · obtain ⟨p, hpm, rfl⟩ := List.mem_map.1 h
        exact hni (List.mem_map.2 ⟨p.1, (hmem p.1).2 (.inl (List.mem_map.2 ⟨p, hpm, rfl⟩)), rfl⟩)
    cases hch with
    | nil _ _ _ _ _ =>
      have hpre : pre = isA := by simpa using hp
      subst hpre
      obtain ⟨al0, hal0⟩ : ∃ al, al ∈ rem := by
        cases rem with
        | nil => simp at hr
        | cons x _ => exact ⟨x, .head _⟩
      refine ⟨fun h0 => ?_, fun i hi => ?_⟩
      · have := rdalloc al0 hal0; rw [h0] at this; cases this
      · by_cases hm : i ∈ ls.map (·.k)
        · obtain ⟨al, hal, rfl⟩ := among i hi hm
          exact doalloc al hal
        · exfalso
          have hals := (hmem al0).2 (.inr hal0)
          have h1 : i ∈ Region.ready md ops (mrk l0 (pre ++ ((ls.map (·.k)).filter (fun k => k != al0.k)))) := by
            refine ready_more hU (Ups.mrk l0 _) (fun x hx => ?_) hi ?_
            · rcases hx with hx | hx
              · exact List.mem_append.2 (.inl hx)
              · refine List.mem_append.2 (.inr (List.mem_filter.2 ⟨?_, ?_⟩))
                · obtain ⟨p, hpm, rfl⟩ := List.mem_map.1 hx
                  exact List.mem_map.2 ⟨p.1, (hmem p.1).2 (.inl (List.mem_map.2 ⟨p, hpm, rfl⟩)), rfl⟩
                · obtain ⟨p, hpm, rfl⟩ := List.mem_map.1 hx
                  have : p.1.k ≠ al0.k := fun e => by
                    rw [List.map_append, List.nodup_append] at hknd
                    exact hknd.2.2 p.1.k (List.mem_map.2 ⟨p.1, List.mem_map.2 ⟨p, hpm, rfl⟩, rfl⟩) al0.k (List.mem_map.2 ⟨al0, hal0, rfl⟩) e
                  simpa using this
            · intro hx
              rcases List.mem_append.1 hx with hx | hx
              · have h0 := (mem_ready.1 hi).1
                have hl := getD_lt h0
                rw [getD_tf hl, (hU.2 _ (by rw [← hU.1]; exact hl)).2 (.inr (.inl hx))] at h0
                cases h0
              · exact hm (List.mem_filter.1 hx).1
          rw [hok.last al0 hals, List.mem_singleton] at h1
          exact hm (List.mem_map.2 ⟨al0, hals, h1.symm⟩)
    | call _ i is' _ U' _ _ Lb' _ hst0 hS0 hc hs hr' =>
      simp only [Bool.and_eq_true, decide_eq_true_eq, beq_iff_eq, List.contains_iff_mem] at hc
      obtain ⟨⟨⟨hc1, hc2⟩, hc3⟩, hc4⟩ := hc
      have hiA : i ∈ isA := hp ▸ List.mem_append.2 (.inr (.head _))
      have hni : i ∉ ls.map (·.k) := fun h => by obtain ⟨al, hal, e⟩ := List.mem_map.1 h; exact hok.ki al hal (e ▸ hiA)
      have hir := hUpre i hni hc2
      refine ⟨fun h0 => (by rw [h0] at hir; cases hir), fun x hx => ?_⟩
      by_cases hm : x ∈ ls.map (·.k)
      · obtain ⟨al, hal, rfl⟩ := among x hx hm
        exact doalloc al hal
      · have h1 : x ∈ Region.ready md ops (mrk l0 (pre ++ ls.map (·.k))) := by
          refine ready_more hU (Ups.mrk l0 _) (fun y hy => ?_) hx ?_
          · rcases hy with hy | hy
            · exact List.mem_append.2 (.inl hy)
            · obtain ⟨p, hpm, rfl⟩ := List.mem_map.1 hy
              exact List.mem_append.2 (.inr (List.mem_map.2 ⟨p.1, (hmem p.1).2 (.inl (List.mem_map.2 ⟨p, hpm, rfl⟩)), rfl⟩))
          · intro hy
            rcases List.mem_append.1 hy with hy | hy
            · have h0 := (mem_ready.1 hx).1
              have hl := getD_lt h0
              rw [getD_tf hl, (hU.2 _ (by rw [← hU.1]; exact hl)).2 (.inr (.inl hy))] at h0
              cases h0
            · exact hm hy
        rw [hc1, List.mem_singleton] at h1
        subst h1
        have h2 := hs (slot a.tmps) w (done.map boxOf) hst.u (hG.perm _ _ _ hst.g List.perm_append_comm)
        rw [← frame_slots hst.size] at h2
        have ha : a = { tmps := a.tmps, defers := [] } := by obtain ⟨T, D⟩ := a; have := hst.defers; simp only at this; rw [this]
        rw [ha]
        refine wpOp_mono (fun a' w' h3 => ?_) h2
        obtain ⟨h4, h5, h6, h7, h8, h9⟩ := h3
        refine ⟨fun _ => h9, ih (pre ++ [x]) is' U' Lb' done rem _ a' w' (by rw [List.append_assoc]; exact hp) (by simp at hr ⊢; omega) hr' hperm (hU.set.congr fun y => ?_) ⟨h4, h5, h6, fun p hpm => ?_, hG.perm _ _ _ h8 List.perm_append_comm⟩⟩
        · rw [List.mem_append, List.mem_singleton]
          constructor
          · rintro ((h | h) | h)
            · exact .inl (.inl h)
            · exact .inr h
            · exact .inl (.inr h)
          · rintro ((h | h) | h)
            · exact .inl (.inl h)
            · exact .inr h
            · exact .inl (.inr h)
        · rw [h7 p.1 ((hmem p.1).2 (.inl (List.mem_map.2 ⟨p, hpm, rfl⟩)))]
          exact hst.ptr p hpm
    | pure _ i oi is' _ U' _ _ _ hi hst0 hS0 hc hs hr' =>
      simp only [Bool.and_eq_true, decide_eq_true_eq, List.contains_iff_mem] at hc
      obtain ⟨⟨⟨hc1, hc2⟩, hc3⟩, hc4⟩ := hc
      have hiA : i ∈ isA := hp ▸ List.mem_append.2 (.inr (.head _))
      have hni : i ∉ ls.map (·.k) := fun h => by obtain ⟨al, hal, e⟩ := List.mem_map.1 h; exact hok.ki al hal (e ▸ hiA)
      have hir := hUpre i hni hc2
      have ha : a = { tmps := ((List.range n).map (slot a.tmps)).toArray, defers := [] } := by
        obtain ⟨T, D⟩ := a
        have := hst.defers
        simp only at this
        rw [this, ← frame_slots hst.size]
      obtain ⟨v, hy, ⟨h4, h5⟩, h6, h7⟩ := hs (slot a.tmps) hst.u
      rw [← ha] at hy h4 h5 h6 h7
      refine wpAnyU_pure hi (Region.noSelect_spec hok.sel) (fun c a' w' h => by cases hdst : oi.dst with | none => (rw [hdst] at h; exact h) | some q => (rw [hdst] at h; exact hQ c a' q v w' h)) hc3 _ listed a w (closed_more hU hc4 hdepd) ?_ hir hy (fun _ => hSG _ _ hst.g) ?_
      · intro j oj hj hne hun hno
        refine Region.free_spec hi hc1 j oj hj hne ?_ hno
        have hjs : j < l0.size := by rw [hok.size]; exact (Array.getElem?_eq_some_iff.1 hj).1
        have hl : j < listed.size := by rw [hU.1]; exact hjs
        have hl2 : j < (mrk l0 pre).size := by rw [mrk_size]; exact hjs
        rw [getD_tf hl] at hun
        rw [getD_tf hl2]
        have : ¬ (mrk l0 pre).getD j false = true := fun e => by
          rcases (mrk_get pre l0 j hjs).1 e with e1 | e1
          · rw [(hU.2 j hjs).2 (.inl e1)] at hun; cases hun
          · rw [(hU.2 j hjs).2 (.inr (.inl e1))] at hun; cases hun
        simpa using this
      · refine ih (pre ++ [i]) is' U' Lb done rem _ _ w (by rw [List.append_assoc]; exact hp) (by simp at hr ⊢; omega) hr' hperm (hU.set.congr fun y => ?_) ⟨h4, h5, h6, fun p hpm => ?_, hst.g⟩
        · rw [List.mem_append, List.mem_singleton]
          constructor
          · rintro ((h | h) | h)
            · exact .inl (.inl h)
            · exact .inr h
            · exact .inl (.inr h)
          · rintro ((h | h) | h)
            · exact .inl (.inl h)
            · exact .inr h
            · exact .inl (.inr h)
        · rw [h7 p.1 ((hmem p.1).2 (.inl (List.mem_map.2 ⟨p, hpm, rfl⟩)))]
          exact hst.ptr p hpm
theorem ru_mix {G : List Res → World → Prop} (hG : GoodG G) (n : Nat) (ls : List AllocS) (isA : List Nat) (fuelF : Nat) {listed : Array Bool} {a : Act} {w : World} (hok : mixOk ops md listed isA ls d = true)
    (hnd : (ls.all (fun al => decide (al.d < n)) && decide (ls.map (·.d)).Nodup) = true) (hQ : ∀ c a q v w, Q (.panic c) (Act.put a (some q) v) w → Q (.panic c) a w) {U0 Um : (Nat → Value) → Prop} {L0 Lm : List Res}
    (hch : Chain P ops Q G S n ls md listed d [] isA U0 L0 Um Lm)
    (halloc : ∀ al ∈ ls, ∀ (a : Act) (w : World) (K : Act → World → Prop), K (Act.put a (some al.d) (ptrOf w.heap.size)) (w.alloc (.cells al.cs al.t)) → wpOp P ops Q al.k K a w)
    (h0 : a.tmps.size = n ∧ a.defers = [] ∧ U0 (slot a.tmps)) (hF : G L0 w)
    (hrest : ∀ (t : Nat → Value) (w : World) (g : Nat → Nat), Um t → (∀ al ∈ ls, t al.d = ptrOf (g al.k)) → G (ls.map (fun al => rbox (g al.k) al.t al.cs) ++ Lm) w →
      wpAnyU P md ops Q S d fuelF (mrk listed (isA ++ ls.map (·.k))) { tmps := ((List.range n).map t).toArray, defers := [] } w) :
    wpAnyU P md ops Q S d (fuelF + (isA.length + ls.length)) listed a w := by
  simp only [Bool.and_eq_true, decide_eq_true_eq, List.all_eq_true] at hnd
  have hok' := mixOk_spec hok
  refine mix_go hG hok' hQ hnd.1 hnd.2 halloc (fun done a w hp hst => ?_) _ [] isA U0 L0 [] ls listed a w rfl rfl hch (by simp) ⟨rfl, fun i hi => by simp⟩ ⟨h0.1, h0.2.1, h0.2.2, (fun _ h => by cases h), hF⟩
  obtain ⟨g, hg⟩ : ∃ g : Nat → Nat, ∀ p ∈ done, g p.1.k = p.2 := by
    refine ⟨fun k => ((done.find? (fun p => p.1.k == k)).map (·.2)).getD 0, fun p hpm => ?_⟩
    have hnd2 : ((done.map (·.1)).map (·.k)).Nodup := (hp.map (·.k)).nodup_iff.2 hok'.nodup
    have key : ∀ (l : List (AllocS × Nat)), ((l.map (·.1)).map (·.k)).Nodup → p ∈ l → (l.find? (fun q => q.1.k == p.1.k)) = some p := by
      intro l
      induction l with
      | nil => intro _ h; cases h
      | cons x l ih =>
        intro hn hm
        rw [List.map_cons, List.map_cons, List.nodup_cons] at hn
        by_cases e : x.1.k = p.1.k
        · rcases List.mem_cons.1 hm with rfl | hm
          · simp
          · exact absurd (List.mem_map.2 ⟨p.1, List.mem_map.2 ⟨p, hm, rfl⟩, e.symm⟩) hn.1
        · rcases List.mem_cons.1 hm with rfl | hm
          · exact absurd rfl e
          · rw [List.find?_cons_of_neg (by simpa using e)]
            exact ih hn.2 hm
    simp only [key done hnd2 hpm, Option.map_some, Option.getD_some]
  have ha : a = { tmps := ((List.range n).map (slot a.tmps)).toArray, defers := [] } := by
    obtain ⟨T, D⟩ := a
    have := hst.defers
    simp only at this
    rw [this, ← frame_slots hst.size]
  rw [ha]
  refine hrest (slot a.tmps) w g hst.u (fun al hal => ?_) (hG.perm _ _ _ hst.g ?_)
  · obtain ⟨p, hpm, rfl⟩ := List.mem_map.1 (hp.mem_iff.2 hal)
    rw [hg p hpm]
    exact hst.ptr p hpm
  · refine List.Perm.append_right _ ?_
    have e : done.map boxOf = (done.map (·.1)).map (fun al => rbox (g al.k) al.t al.cs) := by
      rw [List.map_map]
      refine List.map_congr_left fun p hpm => ?_
      simp only [boxOf, Function.comp, hg p hpm]
    rw [e]
    exact hp.map _
end
end Go.Proofs.Ythblaiefalbomaa
