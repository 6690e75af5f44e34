/- An operation that makes memory beside a chain of calls, where what it makes hangs on what the calls hand back: whatever the order. -/
import Derived.Test.YtcoldeolmleeiaaGreatKK1
set_option linter.unusedVariables false
set_option linter.unusedSimpArgs false
set_option linter.unnecessarySimpa false
namespace Go.Proofs.YtcoldeolmleeiaaGreat
open Go.RowKit
structure AllocL where
 k : Nat
 d : Nat
 t : TypeId
 cs : (Nat -> Value) -> Array Value
 v : Nat -> Value
 u : (Nat -> Value) -> Prop
structure MoveL where
 k : Nat
 d : Nat
 sk : Nat
 sd : Nat
def ksOf (ls : List AllocL) (ms : List MoveL) : List Nat := ls.map (·.k) ++ ms.map (·.k)
def dsOf (ls : List AllocL) (ms : List MoveL) : List Nat := ls.map (·.d) ++ ms.map (·.d)
section
variable {P : Program} {ops : Array Oper} {Q : Exit -> Act -> World -> Prop} {md : Region.Mode} {S : World -> Prop} {d : Option Nat}
def Gd (d : Option Nat) (l : Array Bool) : Prop := ∀ x, d = some x -> l.getD x true = false
theorem Gd.set {d : Option Nat} {l : Array Bool} {i : Nat} (hne : some i ≠ d) : Gd d (l.setIfInBounds i true) ↔ Gd d l :=
 forall_congr' fun x => forall_congr' fun h => by rw [getD_set_ne (j := x) true (fun e : i = x => hne (by rw [h, e]))]
def wpAnyO (P : Program) (md : Region.Mode) (ops : Array Oper) (Q : Exit -> Act -> World -> Prop) (S : World -> Prop) (d : Option Nat) : Nat -> Array Bool -> Act -> World -> Prop
 | 0, listed, a, w => Region.ready md ops listed = [] /\ Q .normal a w
 | fuel + 1, listed, a, w =>
  (Region.ready md ops listed = [] -> Q .normal a w) ∧
  ∀ i ∈ Region.ready md ops listed, wpOp P ops Q i (fun a' w' => (Gd d (listed.setIfInBounds i true) -> S w') /\ wpAnyO P md ops Q S d fuel (listed.setIfInBounds i true) a' w') a w
theorem wpAnyU_of_O {d : Option Nat} {x : Nat} (hd : ∀ y, d = some y -> y = x) : ∀ (fuel : Nat) (listed : Array Bool) (a : Act) (w : World), wpAnyO P md ops Q S d fuel listed a w -> wpAnyU P md ops Q S x fuel listed a w
 | 0, _, _, _, h => h
 | fuel + 1, _, _, _, h => ⟨h.1, fun i hi => wpOp_mono (fun a' w' h' => ⟨fun h0 => h'.1 (fun y hy => by rw [hd y hy]; exact h0), wpAnyU_of_O hd fuel _ a' w' h'.2⟩) (h.2 i hi)⟩
theorem wpAnyO_of_U {x : Nat} : ∀ (fuel : Nat) (listed : Array Bool) (a : Act) (w : World), wpAnyU P md ops Q S x fuel listed a w -> wpAnyO P md ops Q S (some x) fuel listed a w
 | 0, _, _, _, h => h
 | fuel + 1, _, _, _, h => ⟨h.1, fun i hi => wpOp_mono (fun a' w' h' => ⟨fun h0 => h'.1 (h0 x rfl), wpAnyO_of_U fuel _ a' w' h'.2⟩) (h.2 i hi)⟩
theorem wpAnyO_pure {i : Nat} {oi : Oper} {v : Value} (hi : ops[i]? = some oi) (hsel : ∀ (j : Nat) (o : Oper) cs b, ops[j]? = some o -> o.op ≠ .select cs b)
  (hQ : ∀ c a w, Q (.panic c) (a.put oi.dst v) w -> Q (.panic c) a w) (hne : some i ≠ d) :
  ∀ (fuel : Nat) (listed : Array Bool) (a : Act) (w : World), Closed md ops listed →
   (∀ j oj, ops[j]? = some oj -> j ≠ i -> listed.getD j true = false -> (∀ e ∈ oj.after, Region.binds md e = true -> e.on ≠ i) -> oi.apart ops oj = true) →
   i ∈ Region.ready md ops listed -> YieldsIf P ops (fun _ => True) oi v a -> (Gd d listed -> S w) →
   wpAnyO P md ops Q S d fuel (listed.setIfInBounds i true) (a.put oi.dst v) w -> wpAnyO P md ops Q S d (fuel + 1) listed a w := by
 have unl : ∀ {listed : Array Bool}, i ∈ Region.ready md ops listed -> listed.getD i false = false := fun {listed} hr => by
  have h0 := (mem_ready.1 hr).1
  rcases Nat.lt_or_ge i listed.size with h' | h'
  · simp [h'] at h0 ⊢; exact h0
  · simp [Array.getElem?_eq_none h'] at h0
 have low : ∀ {listed : Array Bool}, Gd d (listed.setIfInBounds i true) -> Gd d listed := fun h => (Gd.set hne).1 h
 intro fuel
 induction fuel with
 | zero =>
  intro listed a w _ _ hr hy hS H
  refine ⟨fun h => (by rw [h] at hr; cases hr), fun j hj => ?_⟩
  by_cases hji : j = i
  · subst hji; exact hy.wpOp hi trivial ⟨fun h => hS (low h), H⟩
  have := ready_mono hj hji
  rw [H.1] at this
  cases this
 | succ fuel ih =>
  intro listed a w hcl hfree hr hy hS H
  refine ⟨fun h => (by rw [h] at hr; cases hr), fun j hj => ?_⟩
  by_cases hji : j = i
  · subst hji; exact hy.wpOp hi trivial ⟨fun h => hS (low h), H⟩
  have h1 := H.2 j (ready_mono hj hji)
  obtain ⟨hjun, oj, hoj, hall⟩ := mem_ready.1 hj
  have hnot : ∀ e ∈ oj.after, Region.binds md e = true -> e.on ≠ i := fun e he hb heq => by
   have h1 := hall e he hb
   rw [heq, unl hr] at h1
   cases h1
  have h2 := wpOp_putIf hoj (hfree j oj hoj hji hjun hnot) (fun cs b => hsel i oi cs b hi) (fun cs b => hsel j oj cs b hoj) hQ hy h1
  have hfree' : ∀ k ok, ops[k]? = some ok -> k ≠ i -> (listed.setIfInBounds j true).getD k true = false →
    (∀ e ∈ ok.after, Region.binds md e = true -> e.on ≠ i) -> oi.apart ops ok = true := fun k ok hk hki hun hno => by
   refine hfree k ok hk hki ?_ hno
   by_cases hjk : j = k
   · subst hjk; exact hjun
   · rw [getD_set_ne true hjk] at hun; exact hun
  have com : (listed.setIfInBounds j true).setIfInBounds i true = (listed.setIfInBounds i true).setIfInBounds j true := Array.setIfInBounds_comm _ _ hji
  refine wpOp_mono (fun a' w' h3 => ?_) h2
  have hS' : Gd d (listed.setIfInBounds j true) -> S w' := fun h => h3.2.1 (by rw [← com, Gd.set hne]; exact h)
  refine ⟨hS', ih (listed.setIfInBounds j true) a' w' (hcl.set hj) hfree' (ready_mono hr (Ne.symm hji)) h3.1 hS' ?_⟩
  rw [com]
  exact h3.2.2
def boxOfL (t : Nat -> Value) (p : AllocL × Nat) : Res := rbox p.2 p.1.t (p.1.cs t)
def depB (ops : Array Oper) (md : Region.Mode) (l0 : Array Bool) (pre : List Nat) (k : Nat) : Bool :=
 match ops[k]? with | some o => o.after.all (fun e => !Region.binds md e || l0.getD e.on false || pre.contains e.on) | none => false
theorem depB_spec {ops : Array Oper} {md : Region.Mode} {l0 : Array Bool} {pre : List Nat} {k : Nat} (h : depB ops md l0 pre k = true) : ∃ o, ops[k]? = some o /\ ∀ e ∈ o.after, Region.binds md e = true -> l0.getD e.on false = true ∨ e.on ∈ pre := by
 unfold depB at h
 split at h
 ·
  rename_i o ho
  refine ⟨o, ho, fun e he hb => ?_⟩
  have h8 := Array.all_eq_true'.1 h e he
  rw [hb] at h8
  simpa using h8
 · cases h
theorem depB_of {ops : Array Oper} {md : Region.Mode} {l0 : Array Bool} {pre : List Nat} {k : Nat} {o : Oper} (ho : ops[k]? = some o) (h : ∀ e ∈ o.after, Region.binds md e = true -> l0.getD e.on false = true ∨ e.on ∈ pre) : depB ops md l0 pre k = true := by
 unfold depB
 rw [ho]
 simp only
 refine Array.all_eq_true'.2 fun e he => ?_
 cases hb : Region.binds md e with
 | false => simp
 | true => have := h e he hb; simpa using this
theorem depB_more {ops : Array Oper} {md : Region.Mode} {l0 : Array Bool} {pre pre' : List Nat} {k : Nat} (h : depB ops md l0 pre k = true) (hp : ∀ x ∈ pre, x ∈ pre') : depB ops md l0 pre' k = true := by
 obtain ⟨o, ho, h1⟩ := depB_spec h
 exact depB_of ho fun e he hb => (h1 e he hb).imp id (hp _)
structure StL (G : List Res -> World -> Prop) (n : Nat) (U : (Nat -> Value) -> Prop) (Lb : List Res) (done : List (AllocL × Nat)) (dm : List MoveL) (a : Act) (w : World) : Prop where
 size : a.tmps.size = n
 defers : a.defers = []
 u : U (slot a.tmps)
 ptr : ∀ p ∈ done, slot a.tmps p.1.d = p.1.v p.2
 mv : ∀ m ∈ dm, ∃ p ∈ done, p.1.k = m.sk /\ slot a.tmps m.d = p.1.v p.2
 g : G (done.map (boxOfL (slot a.tmps)) ++ Lb) w
def StepL (P : Program) (ops : Array Oper) (Q : Exit -> Act -> World -> Prop) (S : World -> Prop) (G : List Res -> World -> Prop) (n : Nat) (ls : List AllocL) (qs : List Nat) (md : Region.Mode) (l0 : Array Bool) (pre : List Nat) (i : Nat) (U U' : (Nat -> Value) -> Prop) (Lb Lb' : List Res) : Prop :=
 ∀ (t : Nat -> Value) (w : World) (LA : List Res), U t -> G (Lb ++ LA) w →
  wpOp P ops Q i (fun a' w' => a'.tmps.size = n /\ a'.defers = [] /\ U' (slot a'.tmps) /\ (∀ q ∈ qs, slot a'.tmps q = t q) /\ (∀ al ∈ ls, depB ops md l0 pre al.k = true -> al.cs (slot a'.tmps) = al.cs t) /\ G (Lb' ++ LA) w' /\ S w') { tmps := ((List.range n).map t).toArray, defers := [] } w
def StepPL (P : Program) (ops : Array Oper) (n : Nat) (ls : List AllocL) (qs : List Nat) (md : Region.Mode) (l0 : Array Bool) (pre : List Nat) (oi : Oper) (U U' : (Nat -> Value) -> Prop) : Prop :=
 ∀ (t : Nat -> Value), U t -> ∃ v, YieldsIf P ops (fun _ => True) oi v { tmps := ((List.range n).map t).toArray, defers := [] } ∧
  ((Act.put { tmps := ((List.range n).map t).toArray, defers := [] } oi.dst v).tmps.size = n /\ (Act.put { tmps := ((List.range n).map t).toArray, defers := [] } oi.dst v).defers = []) ∧
  U' (slot (Act.put { tmps := ((List.range n).map t).toArray, defers := [] } oi.dst v).tmps) /\ (∀ q ∈ qs, slot (Act.put { tmps := ((List.range n).map t).toArray, defers := [] } oi.dst v).tmps q = t q) /\ ∀ al ∈ ls, depB ops md l0 pre al.k = true -> al.cs (slot (Act.put { tmps := ((List.range n).map t).toArray, defers := [] } oi.dst v).tmps) = al.cs t
inductive ChainL (P : Program) (ops : Array Oper) (Q : Exit -> Act -> World -> Prop) (G : List Res -> World -> Prop) (S : World -> Prop) (n : Nat) (ls : List AllocL) (ks qs : List Nat) (md : Region.Mode) (l0 : Array Bool) (d : Option Nat) : List Nat -> List Nat -> ((Nat -> Value) -> Prop) -> List Res -> ((Nat -> Value) -> Prop) -> List Res -> Prop
 | nil (pre : List Nat) (U : (Nat -> Value) -> Prop) (Lb : List Res) (hst : ∀ q ∈ qs, ∀ t v, U t -> U (upd t q v)) (hS : ∀ LA w, G (Lb ++ LA) w -> S w) (hV : ∀ al ∈ ls, depB ops md l0 pre al.k = true -> ∀ t, U t -> al.u t) : ChainL P ops Q G S n ls ks qs md l0 d pre [] U Lb U Lb
 | call (pre : List Nat) (i : Nat) (is : List Nat) (U U' Um : (Nat -> Value) -> Prop) (Lb Lb' Lm : List Res)
   (hst : ∀ q ∈ qs, ∀ t v, U t -> U (upd t q v)) (hS : ∀ LA w, G (Lb ++ LA) w -> S w) (hV : ∀ al ∈ ls, depB ops md l0 pre al.k = true -> ∀ t, U t -> al.u t) (hc : (Region.ready md ops (mrk l0 (pre ++ ks)) == [i] && (Region.ready md ops (mrk l0 pre)).contains i) = true)
   (hs : StepL P ops Q S G n ls qs md l0 pre i U U' Lb Lb') (hr : ChainL P ops Q G S n ls ks qs md l0 d (pre ++ [i]) is U' Lb' Um Lm) : ChainL P ops Q G S n ls ks qs md l0 d pre (i :: is) U Lb Um Lm
 | pure (pre : List Nat) (i : Nat) (oi : Oper) (is : List Nat) (U U' Um : (Nat -> Value) -> Prop) (Lb Lm : List Res) (hi : ops[i]? = some oi)
   (hst : ∀ q ∈ qs, ∀ t v, U t -> U (upd t q v)) (hS : ∀ LA w, G (Lb ++ LA) w -> S w) (hV : ∀ al ∈ ls, depB ops md l0 pre al.k = true -> ∀ t, U t -> al.u t) (hc : (Region.free md ops (mrk l0 pre) i && (Region.ready md ops (mrk l0 pre)).contains i && decide (some i ≠ d)) = true)
   (hs : StepPL P ops n ls qs md l0 pre oi U U') (hr : ChainL P ops Q G S n ls ks qs md l0 d (pre ++ [i]) is U' Lb Um Lm) : ChainL P ops Q G S n ls ks qs md l0 d pre (i :: is) U Lb Um Lm
theorem ChainL.callS {P : Program} {ops : Array Oper} {Q : Exit -> Act -> World -> Prop} {G : List Res -> World -> Prop} {S : World -> Prop} {n : Nat} {ls : List AllocL} {ks qs : List Nat} {md : Region.Mode} {l0 : Array Bool} {d : Option Nat} {pre : List Nat} (i : Nat) {is : List Nat} {U : (Nat -> Value) -> Prop} (U' : (Nat -> Value) -> Prop) {Um : (Nat -> Value) -> Prop} {Lb Lm : List Res}
  (hst : ∀ q ∈ qs, ∀ t v, U t -> U (upd t q v)) (hS : ∀ LA w, G (Lb ++ LA) w -> S w) (hV : ∀ al ∈ ls, depB ops md l0 pre al.k = true -> ∀ t, U t -> al.u t) (hc : (Region.ready md ops (mrk l0 (pre ++ ks)) == [i] && (Region.ready md ops (mrk l0 pre)).contains i) = true)
  (hs : StepL P ops Q S G n ls qs md l0 pre i U U' Lb Lb) (hr : ChainL P ops Q G S n ls ks qs md l0 d (pre ++ [i]) is U' Lb Um Lm) : ChainL P ops Q G S n ls ks qs md l0 d pre (i :: is) U Lb Um Lm := ChainL.call _ _ _ _ U' _ _ Lb _ hst hS hV hc hs hr
theorem ChainL.pureS {P : Program} {ops : Array Oper} {Q : Exit -> Act -> World -> Prop} {G : List Res -> World -> Prop} {S : World -> Prop} {n : Nat} {ls : List AllocL} {ks qs : List Nat} {md : Region.Mode} {l0 : Array Bool} {d : Option Nat} {pre : List Nat} (i : Nat) {oi : Oper} {is : List Nat} {U : (Nat -> Value) -> Prop} (U' : (Nat -> Value) -> Prop) {Um : (Nat -> Value) -> Prop} {Lb Lm : List Res} (hi : ops[i]? = some oi)
  (hst : ∀ q ∈ qs, ∀ t v, U t -> U (upd t q v)) (hS : ∀ LA w, G (Lb ++ LA) w -> S w) (hV : ∀ al ∈ ls, depB ops md l0 pre al.k = true -> ∀ t, U t -> al.u t) (hc : (Region.free md ops (mrk l0 pre) i && (Region.ready md ops (mrk l0 pre)).contains i && decide (some i ≠ d)) = true)
  (hs : StepPL P ops n ls qs md l0 pre oi U U') (hr : ChainL P ops Q G S n ls ks qs md l0 d (pre ++ [i]) is U' Lb Um Lm) : ChainL P ops Q G S n ls ks qs md l0 d pre (i :: is) U Lb Um Lm := ChainL.pure _ _ _ _ _ U' _ _ _ hi hst hS hV hc hs hr
def mdepB (ops : Array Oper) (md : Region.Mode) (l0 : Array Bool) : List Nat -> List Nat -> Bool
 | _, [] => true
 | b, k :: ks => depB ops md l0 b k && mdepB ops md l0 (k :: b) ks
theorem mdepB_first {ops : Array Oper} {md : Region.Mode} {l0 : Array Bool} (X : Nat -> Prop) : ∀ (ks b : List Nat), mdepB ops md l0 b ks = true -> (∀ i ∈ b, X i) -> (∃ k ∈ ks, ¬ X k) -> ∃ k ∈ ks, ¬ X k /\ ∃ o, ops[k]? = some o /\ ∀ e ∈ o.after, Region.binds md e = true -> l0.getD e.on false = true ∨ X e.on
 | [], _, _, _, h => by obtain ⟨_, h, _⟩ := h; cases h
 | k :: ks, b, h, hb, hex => by
  simp only [mdepB, Bool.and_eq_true] at h
  by_cases hk : X k
  ·
   obtain ⟨k', hk', hn⟩ := hex
   have hm : k' ∈ ks := by
    rcases List.mem_cons.1 hk' with rfl | h'
    · exact absurd hk hn
    · exact h'
   obtain ⟨k2, h2, h3⟩ := mdepB_first X ks (k :: b) h.2 (fun i hi => by rcases List.mem_cons.1 hi with rfl | hi; exact hk; exact hb i hi) ⟨k', hm, hn⟩
   exact ⟨k2, List.mem_cons_of_mem _ h2, h3⟩
  obtain ⟨o, ho, hd⟩ := depB_spec h.1
  exact ⟨k, List.mem_cons_self .., hk, o, ho, fun e he hbd => (hd e he hbd).imp id (hb _)⟩
def mixOkL (ops : Array Oper) (md : Region.Mode) (l0 : Array Bool) (is : List Nat) (ls : List AllocL) (ms : List MoveL) : Bool :=
 Region.noSelect ops && (decide (l0.size = ops.size) && is.all (fun i => decide (i < ops.size))) && closedB md ops l0 &&
 (ls.all (fun al => depB ops md l0 is al.k) && mdepB ops md l0 is (ksOf ls ms) &&
 ms.all (fun m => ls.any (fun al => al.k == m.sk && al.d == m.sd) && (match ops[m.k]? with | some o => o.after.any (fun e => Region.binds md e && e.on == m.sk) && decide (o.dst = some m.d) | none => false))) &&
 ((ksOf ls ms).all (fun k => !l0.getD k true && !is.contains k && (Region.ready md ops (mrk l0 (is ++ (ksOf ls ms).filter (fun x => x != k))) == [k])) && decide (ksOf ls ms).Nodup)
structure MixOkL (ops : Array Oper) (md : Region.Mode) (l0 : Array Bool) (isA : List Nat) (ls : List AllocL) (ms : List MoveL) : Prop where
 sel : Region.noSelect ops = true
 size : l0.size = ops.size
 isz : ∀ i ∈ isA, i < ops.size
 closed : Closed md ops l0
 dep : ∀ al ∈ ls, depB ops md l0 isA al.k = true
 first : mdepB ops md l0 isA (ksOf ls ms) = true
 src : ∀ m ∈ ms, ∃ al ∈ ls, al.k = m.sk /\ al.d = m.sd
 mv : ∀ m ∈ ms, ∃ o, ops[m.k]? = some o /\ (∃ e ∈ o.after, Region.binds md e = true /\ e.on = m.sk) /\ o.dst = some m.d
 k0 : ∀ k ∈ ksOf ls ms, l0.getD k true = false
 ki : ∀ k ∈ ksOf ls ms, k ∉ isA
 last : ∀ k ∈ ksOf ls ms, Region.ready md ops (mrk l0 (isA ++ (ksOf ls ms).filter (fun x => x != k))) = [k]
 nodup : (ksOf ls ms).Nodup
theorem mixOk_specL {l0 : Array Bool} {isA : List Nat} {ls : List AllocL} {ms : List MoveL} (h : mixOkL ops md l0 isA ls ms = true) : MixOkL ops md l0 isA ls ms := by
 unfold mixOkL at h
 rw [Bool.and_eq_true, Bool.and_eq_true, Bool.and_eq_true, Bool.and_eq_true] at h
 obtain ⟨⟨⟨⟨h1, h2'⟩, h3⟩, h4⟩, h5⟩ := h
 rw [Bool.and_eq_true] at h2'
 obtain ⟨h2, h2i⟩ := h2'
 rw [Bool.and_eq_true, Bool.and_eq_true] at h4
 obtain ⟨⟨h41, h42⟩, h43⟩ := h4
 rw [Bool.and_eq_true] at h5
 obtain ⟨h51, h52⟩ := h5
 have hk : ∀ k ∈ ksOf ls ms, (!l0.getD k true) = true /\ (!isA.contains k) = true /\ (Region.ready md ops (mrk l0 (isA ++ (ksOf ls ms).filter (fun x => x != k))) == [k]) = true := fun k hk => by
  have := List.all_eq_true.1 h51 k hk
  rw [Bool.and_eq_true, Bool.and_eq_true] at this
  exact ⟨this.1.1, this.1.2, this.2⟩
 have hm : ∀ m ∈ ms, ls.any (fun al => al.k == m.sk && al.d == m.sd) = true /\ (match ops[m.k]? with | some o => o.after.any (fun e => Region.binds md e && e.on == m.sk) && decide (o.dst = some m.d) | none => false) = true := fun m hm => by
  have := List.all_eq_true.1 h43 m hm
  rw [Bool.and_eq_true] at this
  exact this
 refine ⟨h1, of_decide_eq_true h2, fun i hi => of_decide_eq_true (List.all_eq_true.1 h2i i hi), closedB_spec h3, fun al ha => List.all_eq_true.1 h41 al ha, h42, fun m hmm => ?_, fun m hmm => ?_, fun k h => by simpa using (hk k h).1, fun k h hc => ?_, fun k h => by simpa using (hk k h).2.2, of_decide_eq_true h52⟩
 ·
  obtain ⟨al, hal, h6⟩ := List.any_eq_true.1 (hm m hmm).1
  simp only [Bool.and_eq_true, beq_iff_eq] at h6
  exact ⟨al, hal, h6.1, h6.2⟩
 ·
  have h7 := (hm m hmm).2
  split at h7
  ·
   rename_i o ho
   rw [Bool.and_eq_true, decide_eq_true_eq] at h7
   obtain ⟨e, he, h9⟩ := Array.any_eq_true'.1 h7.1
   simp only [Bool.and_eq_true, beq_iff_eq] at h9
   exact ⟨o, ho, ⟨e, he, h9.1, h9.2⟩, h7.2⟩
  · cases h7
 have := (hk k h).2.1
 simp [hc] at this
theorem perm4 {α : Type} (a b c e : List α) : ((a ++ b) ++ (c ++ e)).Perm ((a ++ c) ++ (b ++ e)) := by
 rw [List.append_assoc, List.append_assoc]
 refine List.Perm.append_left _ ?_
 rw [← List.append_assoc, ← List.append_assoc]
 exact List.Perm.append_right _ List.perm_append_comm
theorem ks_perm {ls A B : List AllocL} {ms C D : List MoveL} (h : (A ++ B).Perm ls) (h' : (C ++ D).Perm ms) : (ksOf A C ++ ksOf B D).Perm (ksOf ls ms) := by
 unfold ksOf
 refine (perm4 _ _ _ _).symm.trans ?_
 rw [← List.map_append, ← List.map_append]
 exact (h.map _).append (h'.map _)
theorem ds_perm {ls A B : List AllocL} {ms C D : List MoveL} (h : (A ++ B).Perm ls) (h' : (C ++ D).Perm ms) : (dsOf A C ++ dsOf B D).Perm (dsOf ls ms) := by
 unfold dsOf
 refine (perm4 _ _ _ _).symm.trans ?_
 rw [← List.map_append, ← List.map_append]
 exact (h.map _).append (h'.map _)
theorem mem_ks {ls : List AllocL} {ms : List MoveL} {i : Nat} : i ∈ ksOf ls ms ↔ (∃ al ∈ ls, al.k = i) ∨ ∃ m ∈ ms, m.k = i := by unfold ksOf; rw [List.mem_append, List.mem_map, List.mem_map]
theorem mem_ds {ls : List AllocL} {ms : List MoveL} {i : Nat} : i ∈ dsOf ls ms ↔ (∃ al ∈ ls, al.d = i) ∨ ∃ m ∈ ms, m.d = i := by unfold dsOf; rw [List.mem_append, List.mem_map, List.mem_map]
theorem ka_uni : ∀ {ls : List AllocL}, (ls.map (·.k)).Nodup -> ∀ {a b : AllocL}, a ∈ ls -> b ∈ ls -> a.k = b.k -> a = b
 | [], _, _, _, h, _, _ => by cases h
 | x :: l, hn, a, b, ha, hb, e => by
  rw [List.map_cons, List.nodup_cons] at hn
  rcases List.mem_cons.1 ha with ea | ha
  ·
   rcases List.mem_cons.1 hb with eb | hb
   · rw [ea, eb]
   · exact absurd (List.mem_map.2 ⟨b, hb, by rw [← e, ea]⟩) hn.1
  rcases List.mem_cons.1 hb with eb | hb
  · exact absurd (List.mem_map.2 ⟨a, ha, by rw [e, eb]⟩) hn.1
  · exact ka_uni hn.2 ha hb e
theorem mix_goL {G : List Res -> World -> Prop} (hG : GoodG G) {n : Nat} {ls : List AllocL} {ms : List MoveL} {l0 : Array Bool} {isA : List Nat} (hok : MixOkL ops md l0 isA ls ms)
  (hQ : ∀ c a q v w, Q (.panic c) (Act.put a (some q) v) w -> Q (.panic c) a w) {Um : (Nat -> Value) -> Prop} {Lm : List Res}
  (hn : ∀ q ∈ dsOf ls ms, q < n) (hdd : (dsOf ls ms).Nodup) (hcs : ∀ al ∈ ls, ∀ q ∈ dsOf ls ms, ∀ t v, al.cs (upd t q v) = al.cs t) {fuelF : Nat}
  (halloc : ∀ al ∈ ls, ∀ (t : Nat -> Value) (w : World) (K : Act -> World -> Prop), al.u t -> K (Act.put { tmps := ((List.range n).map t).toArray, defers := [] } (some al.d) (al.v w.heap.size)) (w.alloc (.cells (al.cs t) al.t)) -> wpOp P ops Q al.k K { tmps := ((List.range n).map t).toArray, defers := [] } w)
  (hmv : ∀ m ∈ ms, ∃ o, ops[m.k]? = some o /\ ∀ t : Nat -> Value, YieldsIf P ops (fun _ => True) o (t m.sd) { tmps := ((List.range n).map t).toArray, defers := [] })
  (hrest : ∀ (done : List (AllocL × Nat)) (dm : List MoveL) (a : Act) (w : World), (done.map (·.1)).Perm ls -> dm.Perm ms -> StL G n Um Lm done dm a w -> wpAnyO P md ops Q S d fuelF (mrk l0 (isA ++ ksOf ls ms)) a w) :
  ∀ (r : Nat) (pre is : List Nat) (U : (Nat -> Value) -> Prop) (Lb : List Res) (done : List (AllocL × Nat)) (rem : List AllocL) (dm rm : List MoveL) (listed : Array Bool) (a : Act) (w : World),
  pre ++ is = isA -> is.length + (rem.length + rm.length) = r -> ChainL P ops Q G S n ls (ksOf ls ms) (dsOf ls ms) md l0 d pre is U Lb Um Lm →
  (done.map (·.1) ++ rem).Perm ls -> (dm ++ rm).Perm ms -> Ups l0 listed (fun i => i ∈ pre ∨ i ∈ ksOf (done.map (·.1)) dm) -> (∀ p ∈ done, depB ops md l0 pre p.1.k = true) -> Closed md ops listed →
  StL G n U Lb done dm a w -> wpAnyO P md ops Q S d (fuelF + r) listed a w := by
 intro r
 induction r using Nat.strongRecOn with
 | ind r ih =>
 intro pre is U Lb done rem dm rm listed a w hp hr hch hperm hpm hU hdn hC hst
 have hmem : ∀ al, al ∈ ls ↔ al ∈ done.map (·.1) ∨ al ∈ rem := fun al => by rw [← hperm.mem_iff, List.mem_append]
 have hmemM : ∀ m, m ∈ ms ↔ m ∈ dm ∨ m ∈ rm := fun m => by rw [← hpm.mem_iff, List.mem_append]
 have hkp := ks_perm hperm hpm
 have hdp := ds_perm hperm hpm
 have hkn : (ksOf (done.map (·.1)) dm ++ ksOf rem rm).Nodup := hkp.nodup_iff.2 hok.nodup
 have hdn2 : (dsOf (done.map (·.1)) dm ++ dsOf rem rm).Nodup := hdp.nodup_iff.2 hdd
 rw [List.nodup_append] at hkn hdn2
 have hsplit : ∀ i, i ∈ ksOf (done.map (·.1)) dm -> i ∉ ksOf rem rm := fun i h1 h2 => hkn.2.2 i h1 i h2 rfl
 have kin : ∀ i, i ∈ ksOf ls ms ↔ i ∈ ksOf (done.map (·.1)) dm ∨ i ∈ ksOf rem rm := fun i => by rw [← hkp.mem_iff, List.mem_append]
 have hdone : ∀ p ∈ done, p.1 ∈ ls := fun p hp => (hmem p.1).2 (.inl (List.mem_map.2 ⟨p, hp, rfl⟩))
 have hka : (ls.map (·.k)).Nodup := by have := hok.nodup; unfold ksOf at this; rw [List.nodup_append] at this; exact this.1
 have hpre : ∀ i ∈ pre, i ∈ isA := fun i hi => hp ▸ List.mem_append.2 (.inl hi)
 have hst0 : ∀ q ∈ dsOf ls ms, ∀ t v, U t -> U (upd t q v) := by cases hch <;> assumption
 have hVst : ∀ al ∈ ls, depB ops md l0 pre al.k = true -> ∀ t, U t -> al.u t := by cases hch <;> assumption
 have hSG : ∀ (LA : List Res) (w : World), G (LA ++ Lb) w -> S w := fun LA w h => by
  have h' : G (Lb ++ LA) w := hG.perm _ _ _ h List.perm_append_comm
  cases hch with
  | nil _ _ _ _ hS _ => exact hS LA w h'
  | call _ _ _ _ _ _ _ _ _ _ hS => exact hS LA w h'
  | pure _ _ _ _ _ _ _ _ _ _ _ hS => exact hS LA w h'
 have hunl : ∀ i ∈ ksOf rem rm, listed.getD i true = false := fun i hi => by
  have hks := (kin i).2 (.inr hi)
  have hk0 := hok.k0 i hks
  have hkl := getD_lt hk0
  rw [getD_tf (by rw [hU.1]; exact hkl)]
  have : ¬ listed.getD i false = true := fun e => by
   rcases (hU.2 _ hkl).1 e with e1 | e1 | e1
   · rw [getD_tf hkl, e1] at hk0; cases hk0
   · exact hok.ki i hks (hpre _ e1)
   · exact hsplit _ e1 hi
  simpa using this
 have hunr : ∀ i, i ∈ Region.ready md ops listed -> i ∉ pre /\ i ∉ ksOf (done.map (·.1)) dm := fun i hi => by
  have h0 := (mem_ready.1 hi).1
  have hl := getD_lt h0
  rw [getD_tf hl] at h0
  refine ⟨fun h => ?_, fun h => ?_⟩
  · rw [(hU.2 i (by rw [← hU.1]; exact hl)).2 (.inr (.inl h))] at h0; cases h0
  · rw [(hU.2 i (by rw [← hU.1]; exact hl)).2 (.inr (.inr h))] at h0; cases h0
 have ha : a = { tmps := ((List.range n).map (slot a.tmps)).toArray, defers := [] } := by
  obtain ⟨T, D⟩ := a
  have := hst.defers
  simp only at this
  rw [this, ← frame_slots hst.size]
 -- an allocation
 have doalloc : ∀ al ∈ rem, al.k ∈ Region.ready md ops listed -> wpOp P ops Q al.k (fun a' w' => (Gd d (listed.setIfInBounds al.k true) -> S w') /\ wpAnyO P md ops Q S d (fuelF + (r - 1)) (listed.setIfInBounds al.k true) a' w') a w := by
  intro al hal hrd
  have hals := (hmem al).2 (.inr hal)
  have hdal : depB ops md l0 pre al.k = true := by
   obtain ⟨o, ho, hdep⟩ := depB_spec (hok.dep al hals)
   obtain ⟨_, o', ho', hl⟩ := mem_ready.1 hrd
   rw [ho] at ho'
   cases ho'
   refine depB_of ho fun e he hb => ?_
   have h1 := hl e he hb
   have h2 := getD_lt' h1
   rcases (hU.2 _ (by rw [← hU.1]; exact h2)).1 h1 with h3 | h3 | h3
   · exact .inl h3
   · exact .inr h3
   rcases hdep e he hb with h4 | h4
   · exact .inl h4
   · exact absurd h4 (hok.ki _ ((kin _).2 (.inl h3)))
  obtain ⟨s1, s2, hrem⟩ := List.append_of_mem hal
  have hVa : al.u (slot a.tmps) := hVst al hals hdal _ hst.u
  have hpa := halloc al hals (slot a.tmps) w (fun a' w' => (Gd d (listed.setIfInBounds al.k true) -> S w') /\ wpAnyO P md ops Q S d (fuelF + (r - 1)) (listed.setIfInBounds al.k true) a' w') hVa
  rw [← ha] at hpa
  refine hpa ?_
  clear hpa
  obtain ⟨g, hg⟩ : ∃ g, g = w.heap.size := ⟨_, rfl⟩
  rw [← hg]
  have hdal' : al.d ∈ dsOf ls ms := mem_ds.2 (.inl ⟨al, hals, rfl⟩)
  have hdar : al.d ∈ dsOf rem rm := mem_ds.2 (.inl ⟨al, hal, rfl⟩)
  have hsl : slot (Act.put a (some al.d) (al.v g)).tmps = upd (slot a.tmps) al.d (al.v g) := slot_put (by rw [hst.size]; exact hn _ hdal')
  have hcx : ∀ x ∈ ls, x.cs (slot (Act.put a (some al.d) (al.v g)).tmps) = x.cs (slot a.tmps) := fun x hx => by rw [hsl, hcs x hx _ hdal']
  have hbx0 : ((al, g) :: done).map (boxOfL (slot (Act.put a (some al.d) (al.v g)).tmps)) = rbox g al.t (al.cs (slot a.tmps)) :: done.map (boxOfL (slot a.tmps)) := by
   rw [List.map_cons]
   refine congr (congrArg _ ?_) (List.map_congr_left fun p hpm => ?_)
   · simp only [boxOfL]; rw [hcx al hals]
   · simp only [boxOfL]; rw [hcx p.1 (hdone p hpm)]
  have hGn : G (rbox g al.t (al.cs (slot a.tmps)) :: (done.map (boxOfL (slot a.tmps)) ++ Lb)) (w.alloc (.cells (al.cs (slot a.tmps)) al.t)) := by rw [hg]; exact hG.new _ _ _ _ hst.g
  have hSn : S (w.alloc (.cells (al.cs (slot a.tmps)) al.t)) := hSG (rbox g al.t (al.cs (slot a.tmps)) :: done.map (boxOfL (slot a.tmps))) _ hGn
  have hne : ∀ q ∈ dsOf (done.map (·.1)) dm, q ≠ al.d := fun q h e => hdn2.2.2 q h _ hdar e
  have hrl : rem.length = (s1 ++ s2).length + 1 := by rw [hrem]; simp; omega
  refine ⟨fun _ => hSn, ih (r - 1) (by omega) pre is U Lb ((al, g) :: done) (s1 ++ s2) dm rm _ _ _ hp (by omega) hch ?_ hpm (hU.set.congr fun i => ?_) (fun p hpm => ?_) (hC.set hrd) ⟨?_, ?_, ?_, fun p hpm => ?_, fun m hm => ?_, ?_⟩⟩
  ·
   refine List.Perm.trans ?_ hperm
   rw [hrem, List.map_cons]
   show (al :: (done.map (·.1) ++ (s1 ++ s2))).Perm _
   rw [← List.append_assoc, ← List.append_assoc]
   exact List.perm_middle.symm
  ·
   have e : i ∈ ksOf (((al, g) :: done).map (·.1)) dm ↔ i = al.k ∨ i ∈ ksOf (done.map (·.1)) dm := by
    unfold ksOf; rw [List.map_cons, List.map_cons, List.cons_append, List.mem_cons]
   rw [e]
   constructor
   ·
    rintro ((h | h) | h)
    · exact .inl h
    · exact .inr (.inr h)
    · exact .inr (.inl h)
   rintro (h | h | h)
   · exact .inl (.inl h)
   · exact .inr h
   · exact .inl (.inr h)
  ·
   rcases List.mem_cons.1 hpm with rfl | hpm
   · exact hdal
   · exact hdn p hpm
  · simp [Act.put, hst.size]
  · simp [Act.put, hst.defers]
  · rw [hsl]; exact hst0 _ hdal' _ _ hst.u
  ·
   rw [hsl]
   rcases List.mem_cons.1 hpm with rfl | hpm
   · simp [upd]
   have : p.1.d ≠ al.d := hne _ (mem_ds.2 (.inl ⟨p.1, List.mem_map.2 ⟨p, hpm, rfl⟩, rfl⟩))
   simp only [upd, if_neg this]
   exact hst.ptr p hpm
  ·
   obtain ⟨p, hpm, h1, h2⟩ := hst.mv m hm
   have : m.d ≠ al.d := hne _ (mem_ds.2 (.inr ⟨m, hm, rfl⟩))
   refine ⟨p, List.mem_cons_of_mem _ hpm, h1, ?_⟩
   rw [hsl]
   simp only [upd, if_neg this]
   exact h2
  · rw [hbx0]; exact hGn
 -- a move
 have domove : ∀ m ∈ rm, m.k ∈ Region.ready md ops listed -> wpOp P ops Q m.k (fun a' w' => (Gd d (listed.setIfInBounds m.k true) -> S w') /\ wpAnyO P md ops Q S d (fuelF + (r - 1)) (listed.setIfInBounds m.k true) a' w') a w := by
  intro m hm hrd
  have hms := (hmemM m).2 (.inr hm)
  obtain ⟨al, hal, hsk, hsd⟩ := hok.src m hms
  obtain ⟨o, ho, ⟨e, he, heb, heo⟩, hdst⟩ := hok.mv m hms
  obtain ⟨_, o', ho', hl⟩ := mem_ready.1 hrd
  rw [ho] at ho'
  cases ho'
  have hks : al.k ∈ ksOf ls ms := mem_ks.2 (.inl ⟨al, hal, rfl⟩)
  have hk0 := hok.k0 _ hks
  have hkl := getD_lt hk0
  obtain ⟨p, hpd, hpe⟩ : ∃ p ∈ done, p.1 = al := by
   have h1 := hl e he heb
   rw [heo, ← hsk] at h1
   rcases (hU.2 _ hkl).1 h1 with h3 | h3 | h3
   · rw [getD_tf hkl, h3] at hk0; cases hk0
   · exact absurd (hpre _ h3) (hok.ki _ hks)
   rcases (hmem al).1 hal with h4 | h4
   · obtain ⟨p, hp1, hp2⟩ := List.mem_map.1 h4; exact ⟨p, hp1, hp2⟩
   · exact absurd (mem_ks.2 (.inl ⟨al, h4, rfl⟩)) (hsplit _ h3)
  have hv : slot a.tmps m.sd = p.1.v p.2 := by rw [← hsd, ← hpe]; exact hst.ptr p hpd
  obtain ⟨o2, ho2, hy2⟩ := hmv m hms
  rw [ho] at ho2
  cases ho2
  have hy := hy2 (slot a.tmps)
  rw [← ha, hv] at hy
  have hdm' : m.d ∈ dsOf ls ms := mem_ds.2 (.inr ⟨m, hms, rfl⟩)
  have hdmr : m.d ∈ dsOf rem rm := mem_ds.2 (.inr ⟨m, hm, rfl⟩)
  have hsl : slot (Act.put a o.dst (p.1.v p.2)).tmps = upd (slot a.tmps) m.d (p.1.v p.2) := by rw [hdst]; exact slot_put (by rw [hst.size]; exact hn _ hdm')
  have hne : ∀ q ∈ dsOf (done.map (·.1)) dm, q ≠ m.d := fun q h e => hdn2.2.2 q h _ hdmr e
  obtain ⟨s1, s2, hrem⟩ := List.append_of_mem hm
  have hrl : rm.length = (s1 ++ s2).length + 1 := by rw [hrem]; simp; omega
  refine hy.wpOp ho trivial ⟨fun _ => hSG _ _ hst.g, ih (r - 1) (by omega) pre is U Lb done rem (m :: dm) (s1 ++ s2) _ _ _ hp (by omega) hch hperm ?_ (hU.set.congr fun i => ?_) hdn (hC.set hrd) ⟨?_, ?_, ?_, fun p' hpm' => ?_, fun m' hm' => ?_, ?_⟩⟩
  ·
   refine List.Perm.trans ?_ hpm
   rw [hrem]
   show (m :: (dm ++ (s1 ++ s2))).Perm _
   rw [← List.append_assoc, ← List.append_assoc]
   exact List.perm_middle.symm
  ·
   have e : i ∈ ksOf (done.map (·.1)) (m :: dm) ↔ i = m.k ∨ i ∈ ksOf (done.map (·.1)) dm := by
    unfold ksOf; rw [List.map_cons, List.mem_append, List.mem_append, List.mem_cons]
    constructor
    ·
     rintro (h | h | h)
     · exact .inr (.inl h)
     · exact .inl h
     · exact .inr (.inr h)
    rintro (h | h | h)
    · exact .inr (.inl h)
    · exact .inl h
    · exact .inr (.inr h)
   rw [e]
   constructor
   ·
    rintro ((h | h) | h)
    · exact .inl h
    · exact .inr (.inr h)
    · exact .inr (.inl h)
   rintro (h | h | h)
   · exact .inl (.inl h)
   · exact .inr h
   · exact .inl (.inr h)
  · simp [Act.put, hdst, hst.size]
  · simp [Act.put, hdst, hst.defers]
  · rw [hsl]; exact hst0 _ hdm' _ _ hst.u
  ·
   rw [hsl]
   have : p'.1.d ≠ m.d := hne _ (mem_ds.2 (.inl ⟨p'.1, List.mem_map.2 ⟨p', hpm', rfl⟩, rfl⟩))
   simp only [upd, if_neg this]
   exact hst.ptr p' hpm'
  ·
   rcases List.mem_cons.1 hm' with rfl | hm'
   · exact ⟨p, hpd, by rw [hpe]; exact hsk, by rw [hsl]; simp [upd]⟩
   obtain ⟨p', hpm', h1, h2⟩ := hst.mv m' hm'
   have : m'.d ≠ m.d := hne _ (mem_ds.2 (.inr ⟨m', hm', rfl⟩))
   refine ⟨p', hpm', h1, ?_⟩
   rw [hsl]
   simp only [upd, if_neg this]
   exact h2
  have hbx : done.map (boxOfL (slot (Act.put a o.dst (p.1.v p.2)).tmps)) = done.map (boxOfL (slot a.tmps)) := List.map_congr_left fun p' hpm' => by
   simp only [boxOfL]
   rw [hsl, hcs p'.1 (hdone p' hpm') _ hdm']
  rw [hbx]; exact hst.g
 have dounit : ∀ i, i ∈ Region.ready md ops listed -> i ∈ ksOf ls ms -> wpOp P ops Q i (fun a' w' => (Gd d (listed.setIfInBounds i true) -> S w') /\ wpAnyO P md ops Q S d (fuelF + (r - 1)) (listed.setIfInBounds i true) a' w') a w := fun i hi hm => by
  rcases (kin i).1 hm with h | h
  · exact absurd h (hunr i hi).2
  rcases mem_ks.1 h with ⟨al, hal, rfl⟩ | ⟨m, hmr, rfl⟩
  · exact doalloc al hal hi
  · exact domove m hmr hi
 have hUpre : ∀ i, i ∉ ksOf ls ms -> i ∈ Region.ready md ops (mrk l0 pre) -> i ∈ Region.ready md ops listed := by
  intro i hni hi
  refine ready_more (Ups.mrk l0 pre) hU (fun x hx => .inl hx) hi ?_
  rintro (h | h)
  ·
   have h0 := (mem_ready.1 hi).1
   have hl := getD_lt h0
   rw [getD_tf hl] at h0
   rw [mrk_size] at hl
   rw [(mrk_get pre l0 i hl).2 (.inr h)] at h0
   cases h0
  · exact hni ((kin i).2 (.inl h))
 have hnls : ∀ i ∈ isA, i ∉ ksOf ls ms := fun i hi h => hok.ki i h hi
 cases hch with
 | nil _ _ _ _ _ _ =>
  have hpre' : pre = isA := by simpa using hp
  subst hpre'
  by_cases hr0 : ksOf rem rm = []
  ·
   obtain ⟨hr1, hr2⟩ : rem = [] /\ rm = [] := by unfold ksOf at hr0; simpa using hr0
   subst hr1; subst hr2
   rw [List.append_nil] at hperm hpm
   have hlist : listed = mrk l0 (pre ++ ksOf ls ms) := by
    refine hU.ext ((Ups.mrk l0 _).congr fun i => ?_)
    rw [List.mem_append, kin i]
    constructor
    ·
     rintro (h | h | h)
     · exact .inl h
     · exact .inr h
     · cases h
    rintro (h | h)
    · exact .inl h
    · exact .inr (.inl h)
   obtain rfl : r = 0 := by rw [← hr]; rfl
   rw [hlist]
   exact hrest done dm a w hperm hpm hst
  obtain ⟨u0, hu0⟩ := List.exists_mem_of_ne_nil _ hr0
  have hu0k := (kin u0).2 (.inr hu0)
  have hr1 : 1 <= r := by
   have h1 : 0 < (ksOf rem rm).length := List.length_pos_of_mem hu0
   unfold ksOf at h1
   simp at h1 hr
   omega
  rw [show fuelF + r = fuelF + (r - 1) + 1 by omega]
  refine ⟨fun h0 => ?_, fun i hi => ?_⟩
  ·
   exfalso
   obtain ⟨k, hk, hnX, o, ho, hdep⟩ := mdepB_first (fun i => i ∈ pre ∨ i ∈ ksOf (done.map (·.1)) dm) _ _ hok.first (fun i hi => .inl hi) ⟨u0, hu0k, by
    rintro (h | h)
    · exact hok.ki _ hu0k h
    · exact hsplit _ h hu0⟩
   have hkr : k ∈ ksOf rem rm := by
    rcases (kin k).1 hk with h | h
    · exact absurd (.inr h) hnX
    · exact h
   have : k ∈ Region.ready md ops listed := by
    rw [mem_ready]
    refine ⟨hunl k hkr, o, ho, fun e he hb => ?_⟩
    rcases hdep e he hb with h1 | h1
    · exact (hU.2 _ (getD_lt' h1)).2 (.inl h1)
    refine (hU.2 _ ?_).2 (.inr h1)
    rcases h1 with h1 | h1
    · rw [hok.size]; exact hok.isz _ h1
    · exact getD_lt (hok.k0 _ ((kin _).2 (.inl h1)))
   rw [h0] at this
   cases this
  by_cases hm : i ∈ ksOf ls ms
  · exact dounit i hi hm
  exfalso
  have h1 : i ∈ Region.ready md ops (mrk l0 (pre ++ (ksOf ls ms).filter (fun x => x != u0))) := by
   refine ready_more hU (Ups.mrk l0 _) (fun x hx => ?_) hi ?_
   ·
    rcases hx with hx | hx
    · exact List.mem_append.2 (.inl hx)
    refine List.mem_append.2 (.inr (List.mem_filter.2 ⟨(kin x).2 (.inl hx), ?_⟩))
    have : x ≠ u0 := fun e => hsplit x hx (e ▸ hu0)
    simpa using this
   intro hx
   rcases List.mem_append.1 hx with hx | hx
   · exact (hunr i hi).1 hx
   · exact hm (List.mem_filter.1 hx).1
  rw [hok.last u0 hu0k, List.mem_singleton] at h1
  exact hm (h1 ▸ hu0k)
 | call _ i is' _ U' _ _ Lb' _ _ hS0 hV0 hc hs hr' =>
  simp only [Bool.and_eq_true, beq_iff_eq, List.contains_iff_mem] at hc
  obtain ⟨hc1, hc2⟩ := hc
  have hiA : i ∈ isA := hp ▸ List.mem_append.2 (.inr (.head _))
  have hni := hnls i hiA
  have hir := hUpre i hni hc2
  have hr1 : 1 <= r := by simp at hr; omega
  rw [show fuelF + r = fuelF + (r - 1) + 1 by omega]
  refine ⟨fun h0 => (by rw [h0] at hir; cases hir), fun x hx => ?_⟩
  by_cases hm : x ∈ ksOf ls ms
  · exact dounit x hx hm
  have h1 : x ∈ Region.ready md ops (mrk l0 (pre ++ ksOf ls ms)) := by
   refine ready_more hU (Ups.mrk l0 _) (fun y hy => ?_) hx ?_
   ·
    rcases hy with hy | hy
    · exact List.mem_append.2 (.inl hy)
    · exact List.mem_append.2 (.inr ((kin y).2 (.inl hy)))
   intro hy
   rcases List.mem_append.1 hy with hy | hy
   · exact (hunr x hx).1 hy
   · exact hm hy
  rw [hc1, List.mem_singleton] at h1
  subst h1
  have h2 := hs (slot a.tmps) w (done.map (boxOfL (slot a.tmps))) hst.u (hG.perm _ _ _ hst.g List.perm_append_comm)
  rw [← ha] at h2
  refine wpOp_mono (fun a' w' h3 => ?_) h2
  obtain ⟨h4, h5, h6, h7, h7c, h8, h9⟩ := h3
  have hbx : done.map (boxOfL (slot a'.tmps)) = done.map (boxOfL (slot a.tmps)) := List.map_congr_left fun p hpm => by
   simp only [boxOfL]
   rw [h7c p.1 (hdone p hpm) (hdn p hpm)]
  refine ⟨fun _ => h9, ih (r - 1) (by omega) (pre ++ [x]) is' U' Lb' done rem dm rm _ a' w' (by rw [List.append_assoc]; exact hp) (by simp at hr ⊢; omega) hr' hperm hpm (hU.set.congr fun y => ?_) (fun p hpm => depB_more (hdn p hpm) (fun z hz => List.mem_append.2 (.inl hz))) (hC.set hx) ⟨h4, h5, h6, fun p hpm => ?_, fun m hm => ?_, by rw [hbx]; exact hG.perm _ _ _ h8 List.perm_append_comm⟩⟩
  ·
   rw [List.mem_append, List.mem_singleton]
   constructor
   ·
    rintro ((h | h) | h)
    · exact .inl (.inl h)
    · exact .inr h
    · exact .inl (.inr h)
   rintro ((h | h) | h)
   · exact .inl (.inl h)
   · exact .inr h
   · exact .inl (.inr h)
  ·
   rw [h7 _ (mem_ds.2 (.inl ⟨p.1, hdone p hpm, rfl⟩))]
   exact hst.ptr p hpm
  obtain ⟨p, hpm, h10, h11⟩ := hst.mv m hm
  exact ⟨p, hpm, h10, by rw [h7 _ (mem_ds.2 (.inr ⟨m, (hmemM m).2 (.inl hm), rfl⟩))]; exact h11⟩
 | pure _ i oi is' _ U' _ _ _ hi _ hS0 hV0 hc hs hr' =>
  simp only [Bool.and_eq_true, decide_eq_true_eq, List.contains_iff_mem] at hc
  obtain ⟨⟨hc1, hc2⟩, hc3⟩ := hc
  have hiA : i ∈ isA := hp ▸ List.mem_append.2 (.inr (.head _))
  have hni := hnls i hiA
  have hir := hUpre i hni hc2
  obtain ⟨v, hy, ⟨h4, h5⟩, h6, h7, h7c⟩ := hs (slot a.tmps) hst.u
  rw [← ha] at hy h4 h5 h6 h7 h7c
  have hbx : done.map (boxOfL (slot (Act.put a oi.dst v).tmps)) = done.map (boxOfL (slot a.tmps)) := List.map_congr_left fun p hpm => by
   simp only [boxOfL]
   rw [h7c p.1 (hdone p hpm) (hdn p hpm)]
  have hr1 : 1 <= r := by simp at hr; omega
  rw [show fuelF + r = fuelF + (r - 1) + 1 by omega]
  refine wpAnyO_pure hi (Region.noSelect_spec hok.sel) (fun c a' w' h => by cases hdst : oi.dst with | none => (rw [hdst] at h; exact h) | some q => (rw [hdst] at h; exact hQ c a' q v w' h)) hc3 _ listed a w hC ?_ hir hy (fun _ => hSG _ _ hst.g) ?_
  ·
   intro j oj hj hne hun hno
   refine Region.free_spec hi hc1 j oj hj hne ?_ hno
   have hjs : j < l0.size := by rw [hok.size]; exact (Array.getElem?_eq_some_iff.1 hj).1
   have hl : j < listed.size := by rw [hU.1]; exact hjs
   have hl2 : j < (mrk l0 pre).size := by rw [mrk_size]; exact hjs
   rw [getD_tf hl] at hun
   rw [getD_tf hl2]
   have : ¬ (mrk l0 pre).getD j false = true := fun e => by
    rcases (mrk_get pre l0 j hjs).1 e with e1 | e1
    · rw [(hU.2 j hjs).2 (.inl e1)] at hun; cases hun
    · rw [(hU.2 j hjs).2 (.inr (.inl e1))] at hun; cases hun
   simpa using this
  refine ih (r - 1) (by omega) (pre ++ [i]) is' U' Lb done rem dm rm _ _ w (by rw [List.append_assoc]; exact hp) (by simp at hr ⊢; omega) hr' hperm hpm (hU.set.congr fun y => ?_) (fun p hpm => depB_more (hdn p hpm) (fun z hz => List.mem_append.2 (.inl hz))) (hC.set hir) ⟨h4, h5, h6, fun p hpm => ?_, fun m hm => ?_, by rw [hbx]; exact hst.g⟩
  ·
   rw [List.mem_append, List.mem_singleton]
   constructor
   ·
    rintro ((h | h) | h)
    · exact .inl (.inl h)
    · exact .inr h
    · exact .inl (.inr h)
   rintro ((h | h) | h)
   · exact .inl (.inl h)
   · exact .inr h
   · exact .inl (.inr h)
  ·
   rw [h7 _ (mem_ds.2 (.inl ⟨p.1, hdone p hpm, rfl⟩))]
   exact hst.ptr p hpm
  obtain ⟨p, hpm, h10, h11⟩ := hst.mv m hm
  exact ⟨p, hpm, h10, by rw [h7 _ (mem_ds.2 (.inr ⟨m, (hmemM m).2 (.inl hm), rfl⟩))]; exact h11⟩
theorem ru_mixL {G : List Res -> World -> Prop} (hG : GoodG G) (n : Nat) (ls : List AllocL) (ms : List MoveL) (isA : List Nat) (fuelF : Nat) {listed : Array Bool} {a : Act} {w : World} (hok : mixOkL ops md listed isA ls ms = true)
  (hnd : ((dsOf ls ms).all (fun q => decide (q < n)) && decide (dsOf ls ms).Nodup) = true) (hQ : ∀ c a q v w, Q (.panic c) (Act.put a (some q) v) w -> Q (.panic c) a w) {U0 Um : (Nat -> Value) -> Prop} {L0 Lm : List Res}
  (hch : ChainL P ops Q G S n ls (ksOf ls ms) (dsOf ls ms) md listed d [] isA U0 L0 Um Lm)
  (halloc : ∀ al ∈ ls, ∀ (t : Nat -> Value) (w : World) (K : Act -> World -> Prop), al.u t -> K (Act.put { tmps := ((List.range n).map t).toArray, defers := [] } (some al.d) (al.v w.heap.size)) (w.alloc (.cells (al.cs t) al.t)) -> wpOp P ops Q al.k K { tmps := ((List.range n).map t).toArray, defers := [] } w)
  (hmv : ∀ m ∈ ms, ∃ o, ops[m.k]? = some o /\ ∀ t : Nat -> Value, YieldsIf P ops (fun _ => True) o (t m.sd) { tmps := ((List.range n).map t).toArray, defers := [] }) (hcs : ∀ al ∈ ls, ∀ q ∈ dsOf ls ms, ∀ t v, al.cs (upd t q v) = al.cs t) (h0 : a.tmps.size = n /\ a.defers = [] /\ U0 (slot a.tmps)) (hF : G L0 w)
  (hrest : ∀ (t : Nat -> Value) (w : World) (g : Nat -> Nat), Um t -> (∀ al ∈ ls, t al.d = al.v (g al.k)) -> (∀ m ∈ ms, ∀ al ∈ ls, al.k = m.sk -> t m.d = al.v (g m.sk)) -> G (ls.map (fun al => rbox (g al.k) al.t (al.cs t)) ++ Lm) w →
   wpAnyO P md ops Q S d fuelF (mrk listed (isA ++ ksOf ls ms)) { tmps := ((List.range n).map t).toArray, defers := [] } w) :
  wpAnyO P md ops Q S d (fuelF + (isA.length + (ls.length + ms.length))) listed a w := by
 simp only [Bool.and_eq_true, decide_eq_true_eq, List.all_eq_true] at hnd
 have hok' := mixOk_specL hok
 have hka : (ls.map (·.k)).Nodup := by have := hok'.nodup; unfold ksOf at this; rw [List.nodup_append] at this; exact this.1
 refine mix_goL hG hok' hQ hnd.1 hnd.2 hcs halloc hmv (fun done dm a w hp hpm hst => ?_) _ [] isA U0 L0 [] ls [] ms listed a w rfl rfl hch (by simp) (by simp) ⟨rfl, fun i hi => by simp [ksOf]⟩ (fun _ h => by cases h) hok'.closed ⟨h0.1, h0.2.1, h0.2.2, (fun _ h => by cases h), (fun _ h => by cases h), hF⟩
 obtain ⟨g, hg⟩ : ∃ g : Nat -> Nat, ∀ p ∈ done, g p.1.k = p.2 := by
  refine ⟨fun k => ((done.find? (fun p => p.1.k == k)).map (·.2)).getD 0, fun p hpm => ?_⟩
  have hnd2 : ((done.map (·.1)).map (·.k)).Nodup := (hp.map (·.k)).nodup_iff.2 hka
  have key : ∀ (l : List (AllocL × Nat)), ((l.map (·.1)).map (·.k)).Nodup -> p ∈ l -> (l.find? (fun q => q.1.k == p.1.k)) = some p := by
   intro l
   induction l with
   | nil => intro _ h; cases h
   | cons x l ih =>
    intro hn hm
    rw [List.map_cons, List.map_cons, List.nodup_cons] at hn
    by_cases e : x.1.k = p.1.k
    ·
     rcases List.mem_cons.1 hm with rfl | hm
     · simp
     · exact absurd (List.mem_map.2 ⟨p.1, List.mem_map.2 ⟨p, hm, rfl⟩, e.symm⟩) hn.1
    rcases List.mem_cons.1 hm with rfl | hm
    · exact absurd rfl e
    rw [List.find?_cons_of_neg (by simpa using e)]
    exact ih hn.2 hm
  simp only [key done hnd2 hpm, Option.map_some, Option.getD_some]
 have ha : a = { tmps := ((List.range n).map (slot a.tmps)).toArray, defers := [] } := by
  obtain ⟨T, D⟩ := a
  have := hst.defers
  simp only at this
  rw [this, ← frame_slots hst.size]
 rw [ha]
 refine hrest (slot a.tmps) w g hst.u (fun al hal => ?_) (fun m hm al hal hk => ?_) (hG.perm _ _ _ hst.g ?_)
 ·
  obtain ⟨p, hpm, rfl⟩ := List.mem_map.1 (hp.mem_iff.2 hal)
  rw [hg p hpm]
  exact hst.ptr p hpm
 ·
  obtain ⟨p, hpd, h1, h2⟩ := hst.mv m (hpm.mem_iff.2 hm)
  have hpl : p.1 ∈ ls := hp.mem_iff.1 (List.mem_map.2 ⟨p, hpd, rfl⟩)
  have e : p.1 = al := ka_uni hka hpl hal (h1.trans hk.symm)
  rw [h2, ← e, ← h1, hg p hpd]
 refine List.Perm.append_right _ ?_
 have e : done.map (boxOfL (slot a.tmps)) = (done.map (·.1)).map (fun al => rbox (g al.k) al.t (al.cs (slot a.tmps))) := by
  rw [List.map_map]
  refine List.map_congr_left fun p hpm => ?_
  simp only [boxOfL, Function.comp, hg p hpm]
 rw [e]
 exact hp.map _
theorem ru_hS {w0 A : World} {L : List Res} (F : Bun w0 L A) {S : World -> Prop} (h : ∀ (LA : List Res) (W : World), Bun w0 (L ++ LA) W -> S W) : ∀ (LA : List Res) (W : World), Bun w0 (L ++ LA) W /\ A.heap.size <= W.heap.size -> S W := fun LA W hW => h LA W hW.1
theorem ru_mixS {d : Nat} {w0 : World} {L : List Res} (n : Nat) (ls : List AllocL) (ms : List MoveL) (isA : List Nat) (fuelF : Nat) {listed : Array Bool} {a : Act} {w : World} (F : Bun w0 L w)
  (hok : mixOkL ops md listed isA ls ms = true)
  (hnd : ((dsOf ls ms).all (fun q => decide (q < n)) && decide (dsOf ls ms).Nodup) = true) (hQ : ∀ c a q v w, Q (.panic c) (Act.put a (some q) v) w -> Q (.panic c) a w) {U0 Um : (Nat -> Value) -> Prop}
  (hch : ChainL P ops Q (fun L W => Bun w0 L W /\ w.heap.size <= W.heap.size) S n ls (ksOf ls ms) (dsOf ls ms) md listed (some d) [] isA U0 L Um L)
  (halloc : ∀ al ∈ ls, ∀ (t : Nat -> Value) (w : World) (K : Act -> World -> Prop), al.u t -> K (Act.put { tmps := ((List.range n).map t).toArray, defers := [] } (some al.d) (al.v w.heap.size)) (w.alloc (.cells (al.cs t) al.t)) -> wpOp P ops Q al.k K { tmps := ((List.range n).map t).toArray, defers := [] } w)
  (hmv : ∀ m ∈ ms, ∃ o, ops[m.k]? = some o /\ ∀ t : Nat -> Value, YieldsIf P ops (fun _ => True) o (t m.sd) { tmps := ((List.range n).map t).toArray, defers := [] }) (hcs : ∀ al ∈ ls, ∀ q ∈ dsOf ls ms, ∀ t v, al.cs (upd t q v) = al.cs t) (h0 : a.tmps.size = n /\ a.defers = [] /\ U0 (slot a.tmps))
  (hrest : ∀ (t : Nat -> Value) (w' : World) (g : Nat -> Nat), Um t -> (∀ al ∈ ls, t al.d = al.v (g al.k)) -> (∀ m ∈ ms, ∀ al ∈ ls, al.k = m.sk -> t m.d = al.v (g m.sk)) -> Bun w0 (ls.map (fun al => rbox (g al.k) al.t (al.cs t)) ++ L) w' /\ w.heap.size <= w'.heap.size →
   wpAnyU P md ops Q S d fuelF (mrk listed (isA ++ ksOf ls ms)) { tmps := ((List.range n).map t).toArray, defers := [] } w') :
  wpAnyU P md ops Q S d (fuelF + (isA.length + (ls.length + ms.length))) listed a w :=
 wpAnyU_of_O (fun _ h => (Option.some.inj h).symm) _ _ _ _ (ru_mixL (goodBunS w0 w.heap.size) n ls ms isA fuelF hok hnd hQ hch halloc hmv hcs h0 ⟨F, Nat.le_refl _⟩ fun t w' g h1 h2 h2' h3 => wpAnyO_of_U _ _ _ _ (hrest t w' g h1 h2 h2' h3))
end
end Go.Proofs.YtcoldeolmleeiaaGreat
