/- The first elements of a slice, and the others. -/
import Derived.Test.YtcoldeolmleeiaaGreatKK1
import Derived.Test.YtcoldeolmleeiaaGreatKKB
set_option linter.unusedVariables false
set_option linter.unusedSimpArgs false
set_option linter.unnecessarySimpa false
namespace Go.Proofs.YtcoldeolmleeiaaGreat
open Go.RowKit
section
variable {α : Type} {P : Program} {t e : TypeId} {sz bytes : Nat} {enc : α -> List Value}
theorem ElemOk.elem (ok : ElemOk P t e sz bytes enc) : P.elem t = e := by simp [Program.elem, ok.under]
theorem ElemOk.size (ok : ElemOk P t e sz bytes enc) (w : World) : (sizeOf e).run P w = .ok sz w := by
 obtain ⟨i, z, hi, hz, hsz, hby, hzs⟩ := ok.info
 simp [sizeOf, typeInfo, hi, hsz]
theorem slice_pre (ok : ElemOk P t e sz bytes enc) {a : Option Addr} {n c k : Nat} (hk : k <= c) (w : World) : (Instr.sliceAt t (.slice a n c) none (some (.int .i64 (k : Int))) none).run P w = .ok (.slice a k c) w := by
 have ht : P.underlying t = some (.slice (P.elem t)) := by rw [ok.elem]; exact ok.under
 rw [run_sliceAt_slice w t _ _ _ _ ht, run_slice_h w t a n c ht .i64 k (by omega) (by omega), ok.elem, ok.size]
 cases a <;> simp [Result.andThen, sliced, Addr.add]
theorem Sl.take {lo hi n c k : Nat} {a : Option Addr} {w : World} {l : List α} (h : Sl enc sz lo hi w (.slice a n c) l) (hk : k <= l.length) : Sl enc sz lo hi w (.slice a k c) (l.take k) := by
 obtain ⟨h1, a', c', h2, h3⟩ := h
 injection h2 with e1 e2 e3
 subst e1 e3
 have hl : (l.take k).length = k := by rw [List.length_take]; omega
 refine ⟨by rw [hl]; exact Nat.le_trans hk h1, a, c, by rw [hl], ?_⟩
 rcases h3 with h3 | ⟨b, off, h4, h5, h6, h7⟩
 ·
  refine .inl ?_
  first | (rw [h3]; simp) | (rw [hl]; omega)
 · exact .inr ⟨b, off, h4, h5, h6, fun i x hi j u hj => h7 i x (by rw [List.getElem?_take] at hi; split at hi <;> first | exact hi | cases hi) j u hj⟩
theorem Sl.drop {lo hi n c k : Nat} {a : Option Addr} {w : World} {l : List α} (h : Sl enc sz lo hi w (.slice a n c) l) (hk : k <= l.length) (hc : l.length <= c) : Sl enc sz lo hi w (.slice (if c = k then a else a.map (·.add (k * sz))) (n - k) (c - k)) (l.drop k) := by
 obtain ⟨h1, a', c', h2, h3⟩ := h
 injection h2 with e1 e2 e3
 subst e1 e3 e2
 have hl : (l.drop k).length = l.length - k := by rw [List.length_drop]
 refine ⟨by rw [hl]; omega, _, _, by rw [hl], ?_⟩
 by_cases hck : c = k
 · exact .inl (by first | (apply List.eq_nil_of_length_eq_zero; rw [hl]; omega) | (rw [hl]; omega))
 rcases h3 with h3 | ⟨b, off, h4, h5, h6, h7⟩
 ·
  refine .inl ?_
  first | (rw [h3]; simp) | (rw [hl]; omega)
 refine .inr ⟨b, off + k * sz, ?_, h5, h6, fun i x hi j u hj => ?_⟩
 ·
  rw [if_neg hck, h4]; simp [Addr.add]
  all_goals omega
 have h8 := h7 (k + i) x (by rw [List.getElem?_drop] at hi; exact hi) j u hj
 rw [show off + k * sz + i * sz + j = off + (k + i) * sz + j by rw [Nat.add_mul]; omega]
 exact h8
theorem Bun.more {w0 A : World} {L : List Res} (i : Nat) {r : Res} (r' : Res) (h : Bun w0 L A) (hi : L[i]? = some r) (hm : r.mine = false) (hm' : r'.mine = false) (hX : ∀ g, r'.X g -> r.X g) (hP : r'.P A) : Bun w0 (r' :: L) A := by
 have hr := List.mem_of_getElem? hi
 refine ⟨fun x hx => ?_, fun x hx g hg => ?_, ?_, h.gb⟩
 ·
  rcases List.mem_cons.1 hx with rfl | hx
  · exact hP
  · exact h.all x hx
 ·
  rcases List.mem_cons.1 hx with rfl | hx
  · exact ⟨(h.bd r hr g (hX g hg)).1, fun e => by rw [hm'] at e; cases e⟩
  · exact h.bd x hx g hg
 rw [List.pairwise_cons]
 refine ⟨fun x hx hmm g h1 h2 => ?_, h.dis⟩
 rcases hmm with hmm | hmm
 · rw [hm'] at hmm; cases hmm
 have hxr : x ≠ r := fun e => by rw [e, hm] at hmm; cases hmm
 obtain ⟨j, hj⟩ := List.getElem?_of_mem hx
 have hij : i ≠ j := fun e => by subst e; rw [hi] at hj; injection hj with hj; exact hxr hj.symm
 exact h.neAt i j hi hj hij (.inr hmm) g (hX g h1) h2
end
structure Mch where
 mild : Int
 hard : Int
 shift : Int
structure Tsk where
 m : Int
 ho : Sp
 wa : Sp
 fr : Sp
 af : List Int
 av : Value
def mchEnc (x : Mch) : List Value := [.int .i64 x.mild, .int .i64 x.hard, .int .i64 x.shift]
def tskEnc (t : Tsk) : List Value := [.int .i64 t.m, .int .i64 t.ho.lo, .int .i64 t.ho.hi, .int .i64 t.wa.lo, .int .i64 t.wa.hi, .int .i64 t.fr.lo, .int .i64 t.fr.hi, t.av]
def mchErr (x : Mch) : Int := if x.mild < -1000 ∨ 1000 < x.mild ∨ x.hard < -1000 ∨ 1000 < x.hard then 2 else if x.hard < x.mild then 11 else if x.shift < 1 ∨ 24 < x.shift then 2 else 0
def mchsErr : List Mch -> Int
 | [] => 0
 | x :: l => if ¬ mchErr x = 0 then mchErr x else mchsErr l
def afErr (i : Int) : List Int -> List Int -> Int
 | _, [] => 0
 | p, a :: l => if a < 0 ∨ i - 1 < a then 7 else if p.contains a = true then 9 else afErr i (p ++ [a]) l
def tskErr (nm i : Int) (t : Tsk) : Int :=
 if t.m < 0 ∨ nm - 1 < t.m then 7 else if ¬ spanErr t.ho.lo t.ho.hi 0 2000 = 0 then spanErr t.ho.lo t.ho.hi 0 2000 else
 if ¬ spanErr t.wa.lo t.wa.hi 0 2000 = 0 then spanErr t.wa.lo t.wa.hi 0 2000 else if ¬ spanErr t.fr.lo t.fr.hi 0 2000 = 0 then spanErr t.fr.lo t.fr.hi 0 2000 else afErr i [] t.af
def tsksErr (nm : Int) : Nat -> List Tsk -> Int
 | _, [] => 0
 | i, t :: l => if ¬ tskErr nm i t = 0 then tskErr nm i t else tsksErr nm (i + 1) l
def jobErr (ms : List Mch) (ts : List Tsk) : Int :=
 if 10 < ms.length then 8 else if ¬ mchsErr ms = 0 then mchsErr ms else if 30 < ts.length then 8 else tsksErr ms.length 0 ts
def bothErr (ms : List Mch) (ts : List Tsk) (dl : List Wea) : Int := if ¬ jobErr ms ts = 0 then jobErr ms ts else daysE dl
structure MchOk (x : Mch) : Prop where
 mild : -1000 <= x.mild /\ x.mild <= x.hard /\ x.hard <= 1000
 shift : 1 <= x.shift /\ x.shift <= 24
structure TskOk (nm i : Int) (t : Tsk) : Prop where
 m : 0 <= t.m /\ t.m < nm
 ho : 0 <= t.ho.lo /\ t.ho.lo <= t.ho.hi /\ t.ho.hi <= 4000
 wa : 0 <= t.wa.lo /\ t.wa.lo <= t.wa.hi /\ t.wa.hi <= 2000
 fr : 0 <= t.fr.lo /\ t.fr.lo <= t.fr.hi /\ t.fr.hi <= 2000
 af : ∀ a ∈ t.af, 0 <= a /\ a < i
 nd : t.af.Nodup
theorem mchOk {x : Mch} (h : mchErr x = 0) : MchOk x := by
 unfold mchErr at h
 split at h
 · cases h
 split at h
 · cases h
 split at h
 · cases h
 · exact ⟨by omega, by omega⟩
theorem mchsOk : ∀ {l : List Mch}, mchsErr l = 0 -> ∀ x ∈ l, MchOk x
 | [], _, x, hx => by cases hx
 | y :: l, h, x, hx => by
  rw [mchsErr] at h
  split at h
  · contradiction
  rename_i h1
  rcases List.mem_cons.1 hx with rfl | hx
  · exact mchOk (Classical.not_not.1 h1)
  · exact mchsOk h x hx
theorem afOk {i : Int} : ∀ {l p : List Int}, afErr i p l = 0 -> (∀ a ∈ l, 0 <= a /\ a < i) /\ l.Nodup /\ ∀ a ∈ l, a ∉ p
 | [], _, _ => ⟨fun a ha => by simp at ha, List.nodup_nil, fun a ha => by simp at ha⟩
 | b :: l, p, h => by
  rw [afErr] at h
  split at h
  · cases h
  split at h
  · cases h
  rename_i h1 h2
  obtain ⟨a1, a2, a3⟩ := afOk h
  have h3 : b ∉ p := fun hm => h2 (by simpa using hm)
  refine ⟨fun a ha => ?_, List.nodup_cons.2 ⟨fun hm => a3 b hm (by simp), a2⟩, fun a ha => ?_⟩
  ·
   rcases List.mem_cons.1 ha with rfl | ha
   · omega
   · exact a1 a ha
  rcases List.mem_cons.1 ha with rfl | ha
  · exact h3
  · exact fun hm => a3 a ha (by simp [hm])
theorem tskOk {nm i : Int} {t : Tsk} (h : tskErr nm i t = 0) : TskOk nm i t := by
 unfold tskErr at h
 split at h
 · cases h
 split at h
 · contradiction
 split at h
 · contradiction
 split at h
 · contradiction
 rename_i h1 h2 h3 h4
 obtain ⟨a1, a2, _⟩ := afOk h
 exact ⟨by omega, (by have h_ := spanErr_ok (Classical.not_not.1 h2); omega), spanErr_ok (Classical.not_not.1 h3), spanErr_ok (Classical.not_not.1 h4), a1, a2⟩
theorem tsksOk {nm : Int} : ∀ {l : List Tsk} {i : Nat}, tsksErr nm i l = 0 -> ∀ (k : Nat) (t : Tsk), l[k]? = some t -> TskOk nm ((i + k : Nat) : Int) t
 | [], _, _, k, t, hk => by simp at hk
 | y :: l, i, h, k, t, hk => by
  rw [tsksErr] at h
  split at h
  · contradiction
  rename_i h1
  cases k with
  | zero => simp at hk; subst hk; exact tskOk (Classical.not_not.1 h1)
  | succ k =>
   have := tsksOk h k t (by simpa using hk)
   rw [show i + (k + 1) = i + 1 + k by omega]
   exact this
structure JobOk (ms : List Mch) (ts : List Tsk) : Prop where
 nm : ms.length <= 10
 nt : ts.length <= 30
 mo : ∀ x ∈ ms, MchOk x
 to_ : ∀ (k : Nat) (t : Tsk), ts[k]? = some t -> TskOk ms.length k t
theorem jobOk {ms : List Mch} {ts : List Tsk} (h : jobErr ms ts = 0) : JobOk ms ts := by
 unfold jobErr at h
 split at h
 · cases h
 split at h
 · contradiction
 split at h
 · cases h
 rename_i h1 h2 h3
 exact ⟨by omega, by omega, mchsOk (Classical.not_not.1 h2), fun k t hk => by have := tsksOk h k t hk; rwa [Nat.zero_add] at this⟩
/-! ### a case, and when tasks are done in it -/
structure Cs where
 nd : Nat
 ho : Nat -> Int
 wa : Nat -> Int
 fr : Nat -> Int
 m : Nat -> Int
 af : Nat -> List Int
 sh : Int -> Int
 wk : Int -> Nat -> Bool
def Cs.past (c : Cs) : Int := 24 * (c.nd : Int) + 1
def Cs.wh (c : Cs) (m : Int) (h : Nat) : Bool := c.wk m (h / 24) && decide (((h % 24 : Nat) : Int) < c.sh m)
def doneN (f : Nat -> Bool) (past : Int) : Nat -> Nat -> Nat -> Int
 | 0, _, _ => past
 | k + 1, h, n => if f h = true then (if n = 1 then (h : Int) + 1 else doneN f past k (h + 1) (n - 1)) else doneN f past k (h + 1) n
def Cs.fin (c : Cs) (m b n : Int) : Int := if c.past <= b then c.past else if n = 0 then b else doneN (c.wh m) c.past (24 * c.nd - b.toNat) b.toNat n.toNat
def enAt (P : List (Int × Int)) (k : Nat) : Int := (P.getD k (0, 0)).2
def bgAt (P : List (Int × Int)) (k : Nat) : Int := (P.getD k (0, 0)).1
def Cs.last (c : Cs) (P : List (Int × Int)) (m : Int) : Nat -> Int
 | 0 => 0
 | k + 1 => if c.m k = m then enAt P k else c.last P m k
def Cs.aft (c : Cs) (P : List (Int × Int)) (b : Int) (l : List Int) : Int := l.foldl (fun x a => max x (enAt P a.toNat + c.wa a.toNat)) b
def Cs.bgn (c : Cs) (P : List (Int × Int)) (i : Nat) : Int := min (c.aft P (max (c.fr i) (c.last P (c.m i) i)) (c.af i)) c.past
def Cs.plan (c : Cs) : Nat -> List (Int × Int)
 | 0 => []
 | i + 1 => c.plan i ++ [(c.bgn (c.plan i) i, c.fin (c.m i) (c.bgn (c.plan i) i) (c.ho i))]
def Cs.opn (c : Cs) : Nat -> Int
 | 0 => 0
 | i + 1 => max (c.opn i) (min c.past (enAt (c.plan (i + 1)) i + c.wa i))
theorem Cs.plan_len (c : Cs) : ∀ n : Nat, (c.plan n).length = n
 | 0 => rfl
 | n + 1 => by rw [Cs.plan, List.length_append, c.plan_len n]; rfl
theorem Cs.plan_get (c : Cs) {n k : Nat} (h : k < n) : (c.plan n)[k]? = (c.plan (k + 1))[k]? := by
 induction n with
 | zero => omega
 | succ n ih =>
  rcases Nat.lt_or_ge k n with h1 | h1
  · rw [Cs.plan, List.getElem?_append_left (by rw [c.plan_len]; exact h1)]; exact ih h1
  obtain rfl : k = n := by omega
  rfl
theorem Cs.en_le (c : Cs) {n k : Nat} (h : k < n) : enAt (c.plan n) k = enAt (c.plan (k + 1)) k := by
 unfold enAt; rw [List.getD_eq_getElem?_getD, List.getD_eq_getElem?_getD, c.plan_get h]
theorem Cs.bg_le (c : Cs) {n k : Nat} (h : k < n) : bgAt (c.plan n) k = bgAt (c.plan (k + 1)) k := by
 unfold bgAt; rw [List.getD_eq_getElem?_getD, List.getD_eq_getElem?_getD, c.plan_get h]
theorem Cs.en_new (c : Cs) (i : Nat) : enAt (c.plan (i + 1)) i = c.fin (c.m i) (c.bgn (c.plan i) i) (c.ho i) := by
 unfold enAt
 rw [Cs.plan, List.getD_eq_getElem?_getD, List.getElem?_append_right (by rw [c.plan_len]; exact Nat.le_refl _), c.plan_len, Nat.sub_self]
 rfl
theorem Cs.bg_new (c : Cs) (i : Nat) : bgAt (c.plan (i + 1)) i = c.bgn (c.plan i) i := by
 unfold bgAt
 rw [Cs.plan, List.getD_eq_getElem?_getD, List.getElem?_append_right (by rw [c.plan_len]; exact Nat.le_refl _), c.plan_len, Nat.sub_self]
 rfl
theorem doneN_bd {f : Nat -> Bool} {past : Int} : ∀ (k h n : Nat), ((h + k : Nat) : Int) < past -> (h : Int) <= doneN f past k h n /\ doneN f past k h n <= past
 | 0, h, n, hp => by rw [doneN]; omega
 | k + 1, h, n, hp => by
  rw [doneN]
  have h1 := doneN_bd (f := f) (past := past) k (h + 1) (n - 1) (by omega)
  have h2 := doneN_bd (f := f) (past := past) k (h + 1) n (by omega)
  split
  ·
   split
   · omega
   · omega
  · omega
theorem Cs.fin_bd (c : Cs) {m b n : Int} (hb : 0 <= b) (h : b <= c.past) : b <= c.fin m b n /\ c.fin m b n <= c.past := by
 unfold Cs.fin
 split
 · omega
 split
 · omega
 have := doneN_bd (f := c.wh m) (past := c.past) (24 * c.nd - b.toNat) b.toNat n.toNat (by unfold Cs.past at *; omega)
 omega
theorem Cs.aft_le (c : Cs) (P : List (Int × Int)) : ∀ (l : List Int) (b : Int), b <= c.aft P b l
 | [], b => Int.le_refl _
 | a :: l, b => by
  have := c.aft_le P l (max b (enAt P a.toNat + c.wa a.toNat))
  unfold Cs.aft at this ⊢
  rw [List.foldl_cons]
  omega
theorem Cs.aft_max (c : Cs) (P : List (Int × Int)) : ∀ (l : List Int) (a b : Int), c.aft P (max a b) l = max (c.aft P a l) b
 | [], a, b => rfl
 | x :: l, a, b => by
  have h1 := c.aft_max P l (max a (enAt P x.toNat + c.wa x.toNat)) b
  unfold Cs.aft at h1 ⊢
  rw [List.foldl_cons, List.foldl_cons, ← h1]
  congr 1
  omega
theorem Cs.bgn_bd (c : Cs) (hf : ∀ i, 0 <= c.fr i) (P : List (Int × Int)) (i : Nat) : 0 <= c.bgn P i /\ c.bgn P i <= c.past := by
 have h1 := c.aft_le P (c.af i) (max (c.fr i) (c.last P (c.m i) i))
 have := hf i
 unfold Cs.bgn
 unfold Cs.past
 omega
theorem Cs.en_bd (c : Cs) (hf : ∀ i, 0 <= c.fr i) {n k : Nat} (h : k < n) : 0 <= enAt (c.plan n) k /\ enAt (c.plan n) k <= c.past := by
 rw [c.en_le h, c.en_new]
 have h1 := c.bgn_bd hf (c.plan k) k
 have := c.fin_bd (m := c.m k) (n := c.ho k) h1.1 h1.2
 omega
theorem Cs.bg_bd (c : Cs) (hf : ∀ i, 0 <= c.fr i) {n k : Nat} (h : k < n) : 0 <= bgAt (c.plan n) k /\ bgAt (c.plan n) k <= c.past := by
 rw [c.bg_le h, c.bg_new]
 exact c.bgn_bd hf (c.plan k) k
theorem Cs.opn_bd (c : Cs) (hf : ∀ i, 0 <= c.fr i) (hw : ∀ i, 0 <= c.wa i) : ∀ n : Nat, 0 <= c.opn n /\ c.opn n <= c.past
 | 0 => by unfold Cs.opn Cs.past; omega
 | n + 1 => by
  have := c.opn_bd hf hw n
  have h1 := c.en_bd hf (n := n + 1) (k := n) (by omega)
  have := hw n
  rw [Cs.opn]
  omega
/-! ### the cases of a job -/
def wkV (x : Mch) (d : Wea) : Int := if x.mild <= d.cold.lo /\ d.cold.hi <= x.hard then 1 else if d.cold.hi < x.mild ∨ x.hard < d.cold.lo then 2 else 3
def num (w : Bool) (s : Sp) : Int := if w = true then s.hi else s.lo
def wkB (w : Bool) (v : Int) : Bool := if w = true then decide (v = 1) else !decide (v = 2)
def sp0 : Sp := ⟨0, 0⟩
def tk (ts : List Tsk) (i : Nat) : Tsk := ts.getD i ⟨0, sp0, sp0, sp0, [], .slice none 0 0⟩
def mc (ms : List Mch) (i : Nat) : Mch := ms.getD i ⟨0, 0, 1⟩
def dy (dl : List Wea) (i : Nat) : Wea := dl.getD i ⟨sp0, sp0, 0, false⟩
def caseOf (w : Bool) (ms : List Mch) (ts : List Tsk) (dl : List Wea) : Cs :=
 ⟨dl.length, fun i => num w (tk ts i).ho, fun i => num w (tk ts i).wa, fun i => num w (tk ts i).fr, fun i => (tk ts i).m, fun i => (tk ts i).af, fun m => (mc ms m.toNat).shift, fun m d => wkB w (wkV (mc ms m.toNat) (dy dl d))⟩
theorem tk_get {ts : List Tsk} {i : Nat} {t : Tsk} (h : ts[i]? = some t) : tk ts i = t := by unfold tk; rw [List.getD_eq_getElem?_getD, h]; rfl
theorem mc_get {ms : List Mch} {i : Nat} {x : Mch} (h : ms[i]? = some x) : mc ms i = x := by unfold mc; rw [List.getD_eq_getElem?_getD, h]; rfl
theorem dy_get {dl : List Wea} {i : Nat} {d : Wea} (h : dl[i]? = some d) : dy dl i = d := by unfold dy; rw [List.getD_eq_getElem?_getD, h]; rfl
theorem tk_ok {ms : List Mch} {ts : List Tsk} (h : JobOk ms ts) (i : Nat) : 0 <= (tk ts i).ho.lo /\ (tk ts i).ho.lo <= (tk ts i).ho.hi /\ (tk ts i).ho.hi <= 4000 /\ 0 <= (tk ts i).wa.lo /\ (tk ts i).wa.lo <= (tk ts i).wa.hi /\ (tk ts i).wa.hi <= 2000 ∧
  0 <= (tk ts i).fr.lo /\ (tk ts i).fr.lo <= (tk ts i).fr.hi /\ (tk ts i).fr.hi <= 2000 := by
 rcases hk : ts[i]? with _ | t
 · unfold tk; rw [List.getD_eq_getElem?_getD, hk]; simp [sp0]
 rw [tk_get hk]
 have := h.to_ i t hk
 exact ⟨this.ho.1, this.ho.2.1, this.ho.2.2, this.wa.1, this.wa.2.1, this.wa.2.2, this.fr.1, this.fr.2.1, this.fr.2.2⟩
set_option maxRecDepth 100000
def CapOk : Value -> Prop
 | .slice _ n c => n <= c
 | _ => False
def Afs (lo hi : Nat) (w : World) (l : List Tsk) : Prop := ∀ t ∈ l, Sl intEnc 1 lo hi w t.av t.af /\ CapOk t.av
def rafs (lo hi : Nat) (l : List Tsk) : Res := ⟨false, fun x => lo <= x /\ x < hi, fun w => Afs lo hi w l, fun _ _ _ hg hr h t ht => ⟨Sl.gb (h t ht).1 hg (fun g e => by have := hr g e; omega), (h t ht).2⟩⟩
structure JobAt (lo hi : Nat) (w : World) (vm vt : Value) (ms : List Mch) (ts : List Tsk) : Prop where
 m : Sl mchEnc 3 lo hi w vm ms
 t : Sl tskEnc 8 lo hi w vt ts
 af : Afs lo hi w ts
theorem Afs.gb {lo hi : Nat} {w w' : World} {l : List Tsk} {r : Option Nat} (h : Afs lo hi w l) (hg : w.grownBy w' r) (hr : ∀ g, r = some g -> g < lo ∨ hi <= g) : Afs lo hi w' l := fun t ht => ⟨Sl.gb (h t ht).1 hg hr, (h t ht).2⟩
theorem JobAt.gb {lo hi : Nat} {w w' : World} {vm vt : Value} {ms : List Mch} {ts : List Tsk} {r : Option Nat} (h : JobAt lo hi w vm vt ms ts) (hg : w.grownBy w' r) (hr : ∀ g, r = some g -> g < lo ∨ hi <= g) : JobAt lo hi w' vm vt ms ts :=
 ⟨h.m.gb hg hr, h.t.gb hg hr, h.af.gb hg hr⟩
theorem Afs.open {lo hi : Nat} {w : World} {l : List Tsk} {t : Tsk} {k : Nat} (h : Afs lo hi w l) (hk : l[k]? = some t) : ∃ (a : Option Addr) (c : Nat), t.av = .slice a t.af.length c /\ t.af.length <= c /\ Sl intEnc 1 lo hi w (.slice a t.af.length c) t.af := by
 obtain ⟨h1, h2⟩ := h t (List.mem_of_getElem? hk)
 obtain ⟨a, c, e⟩ := h1.any
 rw [e] at h1 h2
 exact ⟨a, c, e, h2, h1⟩
theorem slI_of {w : World} {g : Nat} {t : TypeId} {cs : Array Value} (l : List Int) (c n : Nat) (h : Bk w g t cs) (hcs : cs.toList = l.map (Value.int .i64)) (hn : l.length = n) (hl : n <= 1000) : Sl intEnc 1 g (g + 1) w (.slice (some ⟨g, 0, none⟩) n c) l := by
 subst hn
 refine ⟨by unfold maxLen; omega, _, c, rfl, .inr ⟨g, 0, rfl, Nat.le_refl _, by omega, fun i x hi j u hj => ?_⟩⟩
 rw [h.cell, ← Array.getElem?_toList, hcs, List.getElem?_map]
 cases j with
 | zero =>
  simp only [intEnc, List.getElem?_cons_zero, Option.some.injEq] at hj
  subst hj
  simp [hi]
 | succ j => simp [intEnc] at hj
def wth (n lo hi : Int) : Bool := decide (lo <= n /\ n <= hi)
theorem wth_t {n lo hi : Int} (h : wth n lo hi = true) : lo <= n /\ n <= hi := by simpa [wth] using h
theorem wth_f {n lo hi : Int} (h : wth n lo hi = false) : ¬ (lo <= n /\ n <= hi) := by simpa [wth] using h
def unl (b : Bool) (e : Int) : Int := if b = true then 0 else e
def fstE : List Int -> Int
 | [] => 0
 | e :: l => if ¬ e = 0 then e else fstE l
def hsL (f : Nat -> Bool) (b n : Nat) : List Nat := (List.range' b n).filter f
def cntH (f : Nat -> Bool) (b h : Nat) : Nat := (hsL f b (h - b)).length
theorem cntH_same (f : Nat -> Bool) (b : Nat) : cntH f b b = 0 := by simp [cntH, hsL]
theorem cntH_succ {f : Nat -> Bool} {b h : Nat} (hb : b <= h) : cntH f b (h + 1) = cntH f b h + if f h = true then 1 else 0 := by
 unfold cntH hsL
 rw [show h + 1 - b = (h - b) + 1 by omega, List.range'_concat, List.filter_append, List.length_append]
 rw [show b + 1 * (h - b) = h by omega]
 by_cases hf : f h = true
 · rw [if_pos hf]; simp [hf]
 · rw [if_neg hf]; simp [hf]
theorem cntH_idle {f : Nat -> Bool} {b h : Nat} (hb : b <= h) : ∀ n : Nat, (∀ x, h <= x -> x < h + n -> f x = false) -> cntH f b (h + n) = cntH f b h
 | 0, _ => rfl
 | n + 1, hf => by
  rw [← Nat.add_assoc, cntH_succ (by omega), if_neg (by rw [hf (h + n) (by omega) (by omega)]; decide), cntH_idle hb n (fun x h1 h2 => hf x h1 (by omega))]
  rfl
theorem cntH_idle' {f : Nat -> Bool} {b h h' : Nat} (hb : b <= h) (hh : h <= h') (hf : ∀ x, h <= x -> x < h' -> f x = false) : cntH f b h' = cntH f b h := by
 have := cntH_idle hb (h' - h) (fun x h1 h2 => hf x h1 (by omega))
 rwa [show h + (h' - h) = h' by omega] at this
theorem hsL_split (f : Nat -> Bool) (b m n : Nat) : hsL f b (m + n) = hsL f b m ++ hsL f (b + m) n := by
 unfold hsL
 rw [← List.filter_append]
 congr 1
 have := List.range'_append (s := b) (m := m) (n := n) (step := 1)
 rw [Nat.one_mul] at this
 exact this.symm
theorem hsL_at {f : Nat -> Bool} {b h e : Nat} (hb : b <= h) (he : h < e) (hf : f h = true) : (hsL f b (e - b))[cntH f b h]? = some h := by
 unfold cntH
 rw [show e - b = (h - b) + (e - h) by omega, hsL_split, List.getElem?_append_right (Nat.le_refl _)]
 rw [Nat.sub_self, show b + (h - b) = h by omega, show e - h = (e - h - 1) + 1 by omega]
 unfold hsL
 rw [List.range'_succ, List.filter_cons, if_pos hf]
 rfl
theorem doneN_hs {f : Nat -> Bool} {past : Int} : ∀ (k h n : Nat), 1 <= n -> doneN f past k h n = match (hsL f h k)[n - 1]? with | some x => (x : Int) + 1 | none => past
 | 0, h, n, hn => by rw [doneN]; rfl
 | k + 1, h, n, hn => by
  rw [doneN]
  have e : hsL f h (k + 1) = if f h = true then h :: hsL f (h + 1) k else hsL f (h + 1) k := by
   unfold hsL
   rw [List.range'_succ, List.filter_cons]
  rw [e]
  by_cases hf : f h = true
  ·
   rw [if_pos hf, if_pos hf]
   by_cases h1 : n = 1
   · subst h1; rfl
   rw [if_neg h1, doneN_hs k (h + 1) (n - 1) (by omega)]
   rw [show n - 1 = (n - 1 - 1) + 1 by omega, List.getElem?_cons_succ]
   rfl
  · rw [if_neg hf, if_neg hf, doneN_hs k (h + 1) n hn]
theorem doneN_yes {f : Nat -> Bool} {past : Int} {k h n x : Nat} (hn : 1 <= n) (hx : (hsL f h k)[n - 1]? = some x) : doneN f past k h n = (x : Int) + 1 := by rw [doneN_hs k h n hn, hx]
theorem doneN_no {f : Nat -> Bool} {past : Int} {k h n : Nat} (hn : (hsL f h k).length < n) : doneN f past k h n = past := by
 rw [doneN_hs k h n (by omega), List.getElem?_eq_none (by omega)]
def Cs.bef (c : Cs) (m : Int) : Nat -> Int
 | 0 => -1
 | k + 1 => if c.m k = m then (k : Int) else c.bef m k
theorem Cs.bef_bd (c : Cs) (m : Int) : ∀ k : Nat, -1 <= c.bef m k /\ c.bef m k < k
 | 0 => by rw [Cs.bef]; omega
 | k + 1 => by
  have := c.bef_bd m k
  rw [Cs.bef]
  split <;> omega
theorem Cs.last_bef (c : Cs) (P : List (Int × Int)) (m : Int) : ∀ k : Nat, c.last P m k = if 0 <= c.bef m k then enAt P (c.bef m k).toNat else 0
 | 0 => by rw [Cs.last, Cs.bef]; rfl
 | k + 1 => by
  rw [Cs.last, Cs.bef]
  by_cases h : c.m k = m
  · rw [if_pos h, if_pos h, if_pos (by omega), Int.toNat_natCast]
  · rw [if_neg h, if_neg h, c.last_bef P m k]
def Cs.hs (c : Cs) (m : Int) (b : Nat) : List Nat := hsL (c.wh m) b (24 * c.nd - b)
theorem Cs.busy (c : Cs) {m : Int} {d x : Nat} (h1 : 24 * d <= x) (h2 : x < 24 * (d + 1)) (h : c.wk m d = true) (h3 : ((x - 24 * d : Nat) : Int) < c.sh m) : c.wh m x = true := by
 have e1 : x / 24 = d := by omega
 have e2 : x % 24 = x - 24 * d := by omega
 unfold Cs.wh
 rw [e1, e2, h, Bool.true_and]
 simpa using h3
theorem Cs.fin_yes (c : Cs) {m b n : Int} {k x : Nat} (hb : 0 <= b) (h1 : ¬ c.past <= b) (h2 : n = ((k + 1 : Nat) : Int)) (hx : (c.hs m b.toNat)[k]? = some x) : c.fin m b n = (x : Int) + 1 := by
 rw [Cs.fin, if_neg h1, if_neg (by omega)]
 refine doneN_yes (by omega) ?_
 rw [h2, Int.toNat_natCast]
 exact hx
theorem Cs.fin_no (c : Cs) {m b n : Int} (h1 : ¬ c.past <= b) (h2 : ((c.hs m b.toNat).length : Int) < n) : c.fin m b n = c.past := by
 rw [Cs.fin, if_neg h1, if_neg (by omega)]
 unfold Cs.hs at h2
 exact doneN_no (by omega)
theorem Cs.fin_now (c : Cs) {m b n : Int} (h : n = 0 ∨ c.past <= b) (h1 : b <= c.past) : c.fin m b n = b := by
 rw [Cs.fin]
 split
 · omega
 · rw [if_pos (by omega)]
structure CsLe (c d : Cs) : Prop where
 nd : c.nd = d.nd
 ho : ∀ i, 0 <= c.ho i /\ c.ho i <= d.ho i
 wa : ∀ i, 0 <= c.wa i /\ c.wa i <= d.wa i
 fr : ∀ i, 0 <= c.fr i /\ c.fr i <= d.fr i
 m : ∀ i, c.m i = d.m i
 af : ∀ i, c.af i = d.af i
 aok : ∀ i, ∀ a ∈ c.af i, 0 <= a /\ a < i
 sh : ∀ m, c.sh m = d.sh m
 wk : ∀ m h, d.wk m h = true -> c.wk m h = true
theorem doneN_mono {f g : Nat -> Bool} {past : Int} (hfg : ∀ h, g h = true -> f h = true) : ∀ (k h n h' k' n' : Nat), h + k = h' + k' -> ((h + k : Nat) : Int) < past -> h <= h' -> 1 <= n -> n <= n' -> doneN f past k h n <= doneN g past k' h' n'
 | 0, h, n, h', k', n', e, hp, hh, hn, hn' => by
  obtain rfl : k' = 0 := by omega
  rw [doneN, doneN]
  exact Int.le_refl _
 | k + 1, h, n, h', k', n', e, hp, hh, hn, hn' => by
  have hb := doneN_bd (f := g) (past := past) k' h' n' (by omega)
  rw [doneN]
  by_cases hlt : h < h'
  ·
   split
   ·
    split
    · omega
    · exact doneN_mono hfg k (h + 1) (n - 1) h' k' n' (by omega) (by omega) (by omega) (by omega) (by omega)
   · exact doneN_mono hfg k (h + 1) n h' k' n' (by omega) (by omega) (by omega) hn hn'
  obtain rfl : h = h' := by omega
  obtain rfl : k' = k + 1 := by omega
  rw [doneN]
  by_cases hg : g h = true
  ·
   rw [if_pos (hfg h hg), if_pos hg]
   by_cases h1 : n = 1
   ·
    rw [if_pos h1]
    split
    · exact Int.le_refl _
    have := doneN_bd (f := g) (past := past) k (h + 1) (n' - 1) (by omega)
    omega
   rw [if_neg h1, if_neg (by omega)]
   exact doneN_mono hfg k (h + 1) (n - 1) (h + 1) k (n' - 1) rfl (by omega) (Nat.le_refl _) (by omega) (by omega)
  rw [if_neg hg]
  split
  ·
   split
   ·
    have := doneN_bd (f := g) (past := past) k (h + 1) n' (by omega)
    omega
   · exact doneN_mono hfg k (h + 1) (n - 1) (h + 1) k n' rfl (by omega) (Nat.le_refl _) (by omega) (by omega)
  · exact doneN_mono hfg k (h + 1) n (h + 1) k n' rfl (by omega) (Nat.le_refl _) hn hn'
section
variable {c d : Cs} (h : CsLe c d)
include h
theorem CsLe.past : c.past = d.past := by unfold Cs.past; rw [h.nd]
theorem CsLe.wh (m : Int) (x : Nat) (hx : d.wh m x = true) : c.wh m x = true := by
 unfold Cs.wh at hx ⊢
 rw [Bool.and_eq_true] at hx ⊢
 exact ⟨h.wk m _ hx.1, by rw [h.sh]; exact hx.2⟩
theorem CsLe.fin {m b b' n n' : Int} (hb : 0 <= b) (hbb : b <= b') (hb' : b' <= d.past) (hn : 0 <= n) (hnn : n <= n') : c.fin m b n <= d.fin m b' n' := by
 have hp := h.past
 have h1 := c.fin_bd (m := m) (n := n) hb (by omega)
 have h2 := d.fin_bd (m := m) (n := n') (by omega : 0 <= b') hb'
 by_cases hlt : d.past <= b'
 · omega
 by_cases h0 : n = 0
 ·
  have : c.fin m b n = b := by unfold Cs.fin; rw [if_neg (by omega), if_pos h0]
  omega
 unfold Cs.fin
 rw [if_neg (by omega), if_neg h0, if_neg hlt, if_neg (by omega)]
 have hcd := h.nd
 have hpd : d.past = 24 * (d.nd : Int) + 1 := rfl
 rw [hp, hcd]
 exact doneN_mono (fun x hx => h.wh m x hx) _ _ _ _ _ _ (by omega) (by omega) (by omega) (by omega) (by omega)
theorem CsLe.last {P P' : List (Int × Int)} (m : Int) : ∀ k : Nat, (∀ i, i < k -> enAt P i <= enAt P' i) -> c.last P m k <= d.last P' m k
 | 0, _ => Int.le_refl _
 | k + 1, hP => by
  rw [Cs.last, Cs.last, h.m]
  split
  · exact hP k (by omega)
  · exact CsLe.last m k (fun i hi => hP i (by omega))
theorem CsLe.aft {P P' : List (Int × Int)} {n : Nat} (hP : ∀ i, i < n -> enAt P i <= enAt P' i) : ∀ (l : List Int) (b b' : Int), (∀ a ∈ l, 0 <= a /\ a < n) -> b <= b' -> c.aft P b l <= d.aft P' b' l
 | [], b, b', _, hb => hb
 | a :: l, b, b', hl, hb => by
  have h1 := hl a (.head _)
  have h2 := hP a.toNat (by omega)
  have h3 := h.wa a.toNat
  have := CsLe.aft hP l (max b (enAt P a.toNat + c.wa a.toNat)) (max b' (enAt P' a.toNat + d.wa a.toNat)) (fun x hx => hl x (.tail _ hx)) (by omega)
  unfold Cs.aft at this ⊢
  rw [List.foldl_cons, List.foldl_cons]
  exact this
theorem CsLe.bgn {i : Nat} (hP : ∀ k, k < i -> enAt (c.plan i) k <= enAt (d.plan i) k) : c.bgn (c.plan i) i <= d.bgn (d.plan i) i := by
 have h1 := CsLe.last h (P := c.plan i) (P' := d.plan i) (c.m i) i hP
 have h2 := h.fr i
 have h3 := h.past
 have h4 := CsLe.aft h hP (c.af i) (max (c.fr i) (c.last (c.plan i) (c.m i) i)) (max (d.fr i) (d.last (d.plan i) (c.m i) i)) (h.aok i) (by omega)
 unfold Cs.bgn
 rw [← h.m, ← h.af]
 omega
theorem CsLe.plan : ∀ (n k : Nat), k < n -> bgAt (c.plan n) k <= bgAt (d.plan n) k /\ enAt (c.plan n) k <= enAt (d.plan n) k
 | 0, k, hk => by omega
 | n + 1, k, hk => by
  rcases Nat.lt_or_ge k n with h1 | h1
  ·
   have := CsLe.plan n k h1
   rw [c.bg_le (n := n + 1) hk, d.bg_le (n := n + 1) hk, c.en_le (n := n + 1) hk, d.en_le (n := n + 1) hk, ← c.bg_le h1, ← d.bg_le h1, ← c.en_le h1, ← d.en_le h1]
   exact this
  obtain rfl : k = n := by omega
  have hb := CsLe.bgn h (i := k) (fun j hj => (CsLe.plan k j hj).2)
  rw [c.bg_new, d.bg_new, c.en_new, d.en_new, ← h.m]
  have h2 := c.bgn_bd (fun i => (h.fr i).1) (c.plan k) k
  have h3 := d.bgn_bd (fun i => Int.le_trans (h.fr i).1 (h.fr i).2) (d.plan k) k
  exact ⟨hb, CsLe.fin h h2.1 hb h3.2 (h.ho k).1 (h.ho k).2⟩
theorem CsLe.opn : ∀ n : Nat, c.opn n <= d.opn n
 | 0 => Int.le_refl _
 | n + 1 => by
  have h1 := CsLe.opn n
  have h2 := (CsLe.plan h (n + 1) n (by omega)).2
  have h3 := h.wa n
  have h4 := h.past
  rw [Cs.opn, Cs.opn]
  omega
end
def subS (a b : Sp) : Prop := b.lo <= a.lo /\ a.lo <= a.hi /\ a.hi <= b.hi
def subT (a b : Tsk) : Prop := a.m = b.m /\ subS a.ho b.ho /\ subS a.wa b.wa /\ subS a.fr b.fr /\ a.af = b.af
def subTs (a b : List Tsk) : Prop := a.length = b.length /\ ∀ (i : Nat) (x y : Tsk), a[i]? = some x -> b[i]? = some y -> subT x y
def subDs (a b : List Wea) : Prop := a.length = b.length /\ ∀ (i : Nat) (x y : Wea), a[i]? = some x -> b[i]? = some y -> subS x.cold y.cold
theorem subTs.at_ {a b : List Tsk} (h : subTs a b) (i : Nat) : subT (tk a i) (tk b i) := by
 rcases Nat.lt_or_ge i a.length with h1 | h1
 ·
  have ha := List.getElem?_eq_getElem h1
  have hb := List.getElem?_eq_getElem (l := b) (i := i) (by rw [← h.1]; exact h1)
  rw [tk_get ha, tk_get hb]
  exact h.2 i _ _ ha hb
 unfold tk
 rw [List.getD_eq_getElem?_getD, List.getD_eq_getElem?_getD, List.getElem?_eq_none h1, List.getElem?_eq_none (by rw [← h.1]; exact h1)]
 refine ⟨rfl, ?_, ?_, ?_, rfl⟩ <;> exact ⟨Int.le_refl _, Int.le_refl _, Int.le_refl _⟩
theorem subDs.at_ {a b : List Wea} (h : subDs a b) (i : Nat) : subS (dy a i).cold (dy b i).cold := by
 rcases Nat.lt_or_ge i a.length with h1 | h1
 ·
  have ha := List.getElem?_eq_getElem h1
  have hb := List.getElem?_eq_getElem (l := b) (i := i) (by rw [← h.1]; exact h1)
  rw [dy_get ha, dy_get hb]
  exact h.2 i _ _ ha hb
 unfold dy
 rw [List.getD_eq_getElem?_getD, List.getD_eq_getElem?_getD, List.getElem?_eq_none h1, List.getElem?_eq_none (by rw [← h.1]; exact h1)]
 exact ⟨Int.le_refl _, Int.le_refl _, Int.le_refl _⟩
theorem tk_aok {ms : List Mch} {ts : List Tsk} (h : JobOk ms ts) (i : Nat) : ∀ a ∈ (tk ts i).af, 0 <= a /\ a < i := by
 rcases hi : ts[i]? with _ | t
 · unfold tk; rw [List.getD_eq_getElem?_getD, hi]; exact fun a ha => by simp at ha
 · rw [tk_get hi]; exact (h.to_ i t hi).af
def lf (f : Nat -> Bool) : Nat -> Nat -> Nat -> Nat
 | 0, _, n => n
 | k + 1, h, n => if f h = true /\ ¬ n = 0 then lf f k (h + 1) (n - 1) else lf f k (h + 1) n
theorem lf_zero (f : Nat -> Bool) : ∀ (k h : Nat), lf f k h 0 = 0
 | 0, _ => rfl
 | k + 1, h => by rw [lf, if_neg (by simp)]; exact lf_zero f k (h + 1)
theorem done_iff {f : Nat -> Bool} {past : Int} : ∀ (k h n x : Nat), 1 <= n -> h <= x -> x <= h + k -> ((h + k : Nat) : Int) < past -> (lf f (x - h) h n = 0 ↔ doneN f past k h n <= (x : Int))
 | 0, h, n, x, hn, hx, hk, hp => by
  obtain rfl : x = h := by omega
  rw [Nat.sub_self, lf, doneN]
  omega
 | k + 1, h, n, x, hn, hx, hk, hp => by
  rcases Nat.eq_or_lt_of_le hx with rfl | hlt
  ·
   have h1 := doneN_bd (f := f) (past := past) k (h + 1) (n - 1) (by omega)
   have h2 := doneN_bd (f := f) (past := past) k (h + 1) n (by omega)
   rw [Nat.sub_self, lf, doneN]
   split
   · split <;> omega
   · omega
  rw [show x - h = (x - (h + 1)) + 1 by omega, lf, doneN]
  by_cases hf : f h = true
  ·
   rw [if_pos ⟨hf, by omega⟩, if_pos hf]
   by_cases h1 : n = 1
   ·
    subst h1
    rw [if_pos rfl, show (1 : Nat) - 1 = 0 from rfl, lf_zero]
    omega
   rw [if_neg h1]
   exact done_iff k (h + 1) (n - 1) x (by omega) (by omega) (by omega) (by omega)
  rw [if_neg (fun h_ => hf h_.1), if_neg hf]
  exact done_iff k (h + 1) n x hn (by omega) (by omega) (by omega)
section
variable (c : Cs) (N : Nat)
def Cs.bgI (i : Nat) : Int := bgAt (c.plan N) i
def Cs.enI (i : Nat) : Int := enAt (c.plan N) i
def Cs.sl (h i : Nat) : Int := (lf (c.wh (c.m i)) (min h (24 * c.nd) - (c.bgI N i).toNat) (c.bgI N i).toNat (c.ho i).toNat : Nat)
end
structure SiteOk (c : Cs) (N : Nat) : Prop where
 ho : ∀ i, 0 <= c.ho i
 wa : ∀ i, 0 <= c.wa i
 fr : ∀ i, 0 <= c.fr i
 af : ∀ i, i < N -> ∀ a ∈ c.af i, 0 <= a /\ a < i
section
variable {c : Cs} {N : Nat} (H : SiteOk c N)
include H
omit H in
theorem SiteOk.en_eq {i : Nat} (hi : i < N) : c.enI N i = c.fin (c.m i) (c.bgI N i) (c.ho i) := by
 unfold Cs.enI Cs.bgI
 rw [c.en_le hi, c.bg_le hi, c.en_new, c.bg_new]
omit H in
theorem SiteOk.bg_eq {i : Nat} (hi : i < N) : c.bgI N i = c.bgn (c.plan i) i := by
 unfold Cs.bgI
 rw [c.bg_le hi, c.bg_new]
theorem SiteOk.bg_bd {i : Nat} (hi : i < N) : 0 <= c.bgI N i /\ c.bgI N i <= c.past := c.bg_bd H.fr hi
theorem SiteOk.en_bd {i : Nat} (hi : i < N) : c.bgI N i <= c.enI N i /\ c.enI N i <= c.past := by
 have h1 := H.bg_bd hi
 rw [SiteOk.en_eq hi]
 exact c.fin_bd h1.1 h1.2
theorem SiteOk.done {i h : Nat} (hi : i < N) (hh : h <= 24 * c.nd) (hb : c.bgI N i <= (h : Int)) : c.sl N h i = 0 ↔ c.enI N i <= (h : Int) := by
 have h1 := H.bg_bd hi
 have h2 := H.ho i
 unfold Cs.past at h1
 rw [SiteOk.en_eq hi]
 unfold Cs.sl Cs.fin
 rw [Nat.min_eq_left hh, if_neg (by unfold Cs.past; omega)]
 by_cases hn : c.ho i = 0
 ·
  rw [if_pos hn, hn, show (0 : Int).toNat = 0 from rfl, lf_zero]
  omega
 rw [if_neg hn]
 have := done_iff (f := c.wh (c.m i)) (past := c.past) (24 * c.nd - (c.bgI N i).toNat) (c.bgI N i).toNat (c.ho i).toNat h (by omega) (by omega) (by omega) (by unfold Cs.past; omega)
 rw [← this]
 omega
theorem SiteOk.last_le {i h : Nat} (hi : i < N) (hh : (h : Int) < c.past) : c.last (c.plan i) (c.m i) i <= (h : Int) ↔ ∀ k, k < i -> c.m k = c.m i -> c.enI N k <= (h : Int) := by
 have key : ∀ j, j <= i -> (c.last (c.plan i) (c.m i) j <= (h : Int) ↔ ∀ k, k < j -> c.m k = c.m i -> c.enI N k <= (h : Int)) := by
  intro j
  induction j with
  | zero => intro _; rw [Cs.last]; exact ⟨fun _ k hk => absurd hk (Nat.not_lt_zero _), fun _ => by omega⟩
  | succ j ih =>
   intro hj
   rw [Cs.last]
   have e : enAt (c.plan i) j = c.enI N j := by unfold Cs.enI; rw [c.en_le (show j < i by omega), c.en_le (show j < N by omega)]
   by_cases hm : c.m j = c.m i
   ·
    rw [if_pos hm, e]
    refine ⟨fun h1 k hk hkm => ?_, fun h1 => h1 j (by omega) hm⟩
    rcases Nat.lt_succ_iff_lt_or_eq.1 hk with hk2 | rfl
    ·
     -- what comes before it on the machine is done before it begins
     have h2 := H.en_bd (i := j) (by omega)
     have h3 : c.last (c.plan j) (c.m j) j <= c.bgI N j ∨ c.bgI N j = c.past := by
      rw [SiteOk.bg_eq (by omega)]
      have := c.aft_le (c.plan j) (c.af j) (max (c.fr j) (c.last (c.plan j) (c.m j) j))
      unfold Cs.bgn
      omega
     have h4 : c.last (c.plan j) (c.m j) j <= (h : Int) := by omega
     have e2 : ∀ q, q <= j -> c.last (c.plan j) (c.m j) q = c.last (c.plan i) (c.m i) q := by
      intro q
      induction q with
      | zero => intro _; rfl
      | succ q ihq =>
       intro hq
       rw [Cs.last, Cs.last, ihq (by omega), hm, c.en_le (show q < j by omega), c.en_le (show q < i by omega)]
     rw [e2 j (Nat.le_refl _)] at h4
     exact (ih (by omega)).1 h4 k hk2 hkm
    · exact h1
   rw [if_neg hm, ih (by omega)]
   refine ⟨fun h1 k hk hkm => ?_, fun h1 k hk hkm => h1 k (by omega) hkm⟩
   rcases Nat.lt_succ_iff_lt_or_eq.1 hk with hk2 | rfl
   · exact h1 k hk2 hkm
   · exact absurd hkm hm
 exact key i (Nat.le_refl _)
omit H in
theorem Cs.aft_le_iff (c : Cs) (P : List (Int × Int)) : ∀ (l : List Int) (b x : Int), c.aft P b l <= x ↔ b <= x /\ ∀ a ∈ l, enAt P a.toNat + c.wa a.toNat <= x
 | [], b, x => by unfold Cs.aft; simp
 | a :: l, b, x => by
  have := Cs.aft_le_iff c P l (max b (enAt P a.toNat + c.wa a.toNat)) x
  unfold Cs.aft at this ⊢
  rw [List.foldl_cons, this]
  simp only [List.mem_cons, forall_eq_or_imp]
  constructor
  · rintro ⟨h1, h2⟩; exact ⟨by omega, by omega, h2⟩
  · rintro ⟨h1, h2, h3⟩; exact ⟨by omega, h3⟩
theorem SiteOk.ready {i h : Nat} (hi : i < N) (hh : (h : Int) < c.past) : c.bgI N i <= (h : Int) ↔ (c.fr i <= (h : Int) /\ (∀ k, k < i -> c.m k = c.m i -> c.enI N k <= (h : Int)) /\ ∀ a ∈ c.af i, c.enI N a.toNat + c.wa a.toNat <= (h : Int)) := by
 rw [SiteOk.bg_eq hi, ← H.last_le hi hh]
 unfold Cs.bgn
 have h1 := Cs.aft_le_iff c (c.plan i) (c.af i) (max (c.fr i) (c.last (c.plan i) (c.m i) i)) h
 have h2 : min (c.aft (c.plan i) (max (c.fr i) (c.last (c.plan i) (c.m i) i)) (c.af i)) c.past <= (h : Int) ↔ c.aft (c.plan i) (max (c.fr i) (c.last (c.plan i) (c.m i) i)) (c.af i) <= (h : Int) := by omega
 rw [h2, h1]
 have h3 : ∀ a ∈ c.af i, enAt (c.plan i) a.toNat = c.enI N a.toNat := fun a ha => by
  have := H.af i hi a ha
  unfold Cs.enI
  rw [c.en_le (show a.toNat < i by omega), c.en_le (show a.toNat < N by omega)]
 constructor
 ·
  rintro ⟨h4, h5⟩
  exact ⟨by omega, by omega, fun a ha => by rw [← h3 a ha]; exact h5 a ha⟩
 rintro ⟨h4, h5, h6⟩
 exact ⟨by omega, fun a ha => by rw [h3 a ha]; exact h6 a ha⟩
end
/-! ### rows of which the first i are an hour further -/
section
variable {α : Type}
end
end Go.Proofs.YtcoldeolmleeiaaGreat
