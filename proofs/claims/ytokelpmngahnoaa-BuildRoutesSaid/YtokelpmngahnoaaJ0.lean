/- build: jobs, what is wrong with them, cases, and when tasks are done in a case. -/
import Derived.Test.YtokelpmngahnoaaF3
set_option linter.unusedVariables false
set_option linter.unusedSimpArgs false
set_option linter.unnecessarySimpa false
namespace Go.Proofs.Ytokelpmngahnoaa
open Go.RowKit

/-- A machine; a task (af: what comes before it, av: the slice that it has of these). -/
structure Mch where
  mild : Int
  hard : Int
  shift : Int
structure Tsk where
  m : Int
  ho : Sp
  wa : Sp
  fr : Sp
  af : List Int
  av : Value
def mchEnc (x : Mch) : List Value := [.int .i64 x.mild, .int .i64 x.hard, .int .i64 x.shift]
def tskEnc (t : Tsk) : List Value := [.int .i64 t.m, .int .i64 t.ho.lo, .int .i64 t.ho.hi, .int .i64 t.wa.lo, .int .i64 t.wa.hi, .int .i64 t.fr.lo, .int .i64 t.fr.hi, t.av]
def mchErr (x : Mch) : Int := if x.mild < -1000 ∨ 1000 < x.mild ∨ x.hard < -1000 ∨ 1000 < x.hard then 2 else if x.hard < x.mild then 11 else if x.shift < 1 ∨ 24 < x.shift then 2 else 0
def mchsErr : List Mch → Int
  | [] => 0
  | x :: l => if ¬ mchErr x = 0 then mchErr x else mchsErr l
/-- What is wrong with the tasks that come before number i; p: those that have been looked at. -/
def afErr (i : Int) : List Int → List Int → Int
  | _, [] => 0
  | p, a :: l => if a < 0 ∨ i - 1 < a then 7 else if p.contains a = true then 9 else afErr i (p ++ [a]) l
def tskErr (nm i : Int) (t : Tsk) : Int :=
  if t.m < 0 ∨ nm - 1 < t.m then 7 else if ¬ spanErr t.ho.lo t.ho.hi 0 2000 = 0 then spanErr t.ho.lo t.ho.hi 0 2000 else
  if ¬ spanErr t.wa.lo t.wa.hi 0 2000 = 0 then spanErr t.wa.lo t.wa.hi 0 2000 else if ¬ spanErr t.fr.lo t.fr.hi 0 2000 = 0 then spanErr t.fr.lo t.fr.hi 0 2000 else afErr i [] t.af
def tsksErr (nm : Int) : Nat → List Tsk → Int
  | _, [] => 0
  | i, t :: l => if ¬ tskErr nm i t = 0 then tskErr nm i t else tsksErr nm (i + 1) l
def jobErr (ms : List Mch) (ts : List Tsk) : Int :=
  if 10 < ms.length then 8 else if ¬ mchsErr ms = 0 then mchsErr ms else if 30 < ts.length then 8 else tsksErr ms.length 0 ts
def bothErr (ms : List Mch) (ts : List Tsk) (dl : List Wea) : Int := if ¬ jobErr ms ts = 0 then jobErr ms ts else daysE dl

structure MchOk (x : Mch) : Prop where
  mild : -1000 ≤ x.mild ∧ x.mild ≤ x.hard ∧ x.hard ≤ 1000
  shift : 1 ≤ x.shift ∧ x.shift ≤ 24
structure TskOk (nm i : Int) (t : Tsk) : Prop where
  m : 0 ≤ t.m ∧ t.m < nm
  ho : 0 ≤ t.ho.lo ∧ t.ho.lo ≤ t.ho.hi ∧ t.ho.hi ≤ 4000
  wa : 0 ≤ t.wa.lo ∧ t.wa.lo ≤ t.wa.hi ∧ t.wa.hi ≤ 2000
  fr : 0 ≤ t.fr.lo ∧ t.fr.lo ≤ t.fr.hi ∧ t.fr.hi ≤ 2000
  af : ∀ a ∈ t.af, 0 ≤ a ∧ a < i
  nd : t.af.Nodup
theorem mchOk {x : Mch} (h : mchErr x = 0) : MchOk x := by
  unfold mchErr at h
  split at h
  · cases h
  · split at h
    · cases h
    · split at h
      · cases h
      · exact ⟨by omega, by omega⟩
theorem mchsOk : ∀ {l : List Mch}, mchsErr l = 0 → ∀ x ∈ l, MchOk x
  | [], _, x, hx => by cases hx
  | y :: l, h, x, hx => by
    rw [mchsErr] at h
    split at h
    · contradiction
    · rename_i h1
      rcases List.mem_cons.1 hx with rfl | hx
      · exact mchOk (Classical.not_not.1 h1)
      · exact mchsOk h x hx
theorem afOk {i : Int} : ∀ {l p : List Int}, afErr i p l = 0 → (∀ a ∈ l, 0 ≤ a ∧ a < i) ∧ l.Nodup ∧ ∀ a ∈ l, a ∉ p
  | [], _, _ => ⟨fun a ha => by simp at ha, List.nodup_nil, fun a ha => by simp at ha⟩
  | b :: l, p, h => by
    rw [afErr] at h
    split at h
    · cases h
    · split at h
      · cases h
      · rename_i h1 h2
        obtain ⟨a1, a2, a3⟩ := afOk h
        have h3 : b ∉ p := fun hm => h2 (by simpa using hm)
        refine ⟨fun a ha => ?_, List.nodup_cons.2 ⟨fun hm => a3 b hm (by simp), a2⟩, fun a ha => ?_⟩
        · rcases List.mem_cons.1 ha with rfl | ha
          · omega
          · exact a1 a ha
        · rcases List.mem_cons.1 ha with rfl | ha
          · exact h3
          · exact fun hm => a3 a ha (by simp [hm])
theorem tskOk {nm i : Int} {t : Tsk} (h : tskErr nm i t = 0) : TskOk nm i t := by
  unfold tskErr at h
  split at h
  · cases h
  · split at h
    · contradiction
    · split at h
      · contradiction
      · split at h
        · contradiction
        · rename_i h1 h2 h3 h4
          obtain ⟨a1, a2, _⟩ := afOk h
          exact ⟨by omega, (by have h_ := spanErr_ok (Classical.not_not.1 h2); omega), spanErr_ok (Classical.not_not.1 h3), spanErr_ok (Classical.not_not.1 h4), a1, a2⟩
theorem tsksOk {nm : Int} : ∀ {l : List Tsk} {i : Nat}, tsksErr nm i l = 0 → ∀ (k : Nat) (t : Tsk), l[k]? = some t → TskOk nm ((i + k : Nat) : Int) t
  | [], _, _, k, t, hk => by simp at hk
  | y :: l, i, h, k, t, hk => by
    rw [tsksErr] at h
    split at h
    · contradiction
    · rename_i h1
      cases k with
      | zero => simp at hk; subst hk; exact tskOk (Classical.not_not.1 h1)
      | succ k =>
        have := tsksOk h k t (by simpa using hk)
        rw [show i + (k + 1) = i + 1 + k by omega]
        exact this
structure JobOk (ms : List Mch) (ts : List Tsk) : Prop where
  nm : ms.length ≤ 10
  nt : ts.length ≤ 30
  mo : ∀ x ∈ ms, MchOk x
  to_ : ∀ (k : Nat) (t : Tsk), ts[k]? = some t → TskOk ms.length k t
theorem jobOk {ms : List Mch} {ts : List Tsk} (h : jobErr ms ts = 0) : JobOk ms ts := by
  unfold jobErr at h
  split at h
  · cases h
  · split at h
    · contradiction
    · split at h
      · cases h
      · rename_i h1 h2 h3
        exact ⟨by omega, by omega, mchsOk (Classical.not_not.1 h2), fun k t hk => by have := tsksOk h k t hk; rwa [Nat.zero_add] at this⟩

/-! ### a case, and when tasks are done in it -/
/-- What is so of days, tasks and machines: how many days; of each task its hours, wait and from, its machine, what comes before it; of each machine its shift, and on which days it works. -/
structure Cs where
  nd : Nat
  ho : Nat → Int
  wa : Nat → Int
  fr : Nat → Int
  m : Nat → Int
  af : Nat → List Int
  sh : Int → Int
  wk : Int → Nat → Bool
def Cs.past (c : Cs) : Int := 24 * (c.nd : Int) + 1
/-- Whether a machine works in an hour. -/
def Cs.wh (c : Cs) (m : Int) (h : Nat) : Bool := c.wk m (h / 24) && decide (((h % 24 : Nat) : Int) < c.sh m)
/-- The hour behind n working hours from h on, among k hours. -/
def doneN (f : Nat → Bool) (past : Int) : Nat → Nat → Nat → Int
  | 0, _, _ => past
  | k + 1, h, n => if f h = true then (if n = 1 then (h : Int) + 1 else doneN f past k (h + 1) (n - 1)) else doneN f past k (h + 1) n
def Cs.fin (c : Cs) (m b n : Int) : Int := if c.past ≤ b then c.past else if n = 0 then b else doneN (c.wh m) c.past (24 * c.nd - b.toNat) b.toNat n.toNat
def enAt (P : List (Int × Int)) (k : Nat) : Int := (P.getD k (0, 0)).2
def bgAt (P : List (Int × Int)) (k : Nat) : Int := (P.getD k (0, 0)).1
/-- The end of the last task below k that has a machine; 0 if there is none. -/
def Cs.last (c : Cs) (P : List (Int × Int)) (m : Int) : Nat → Int
  | 0 => 0
  | k + 1 => if c.m k = m then enAt P k else c.last P m k
/-- The latest of some hours and of what lets a task begin. -/
def Cs.aft (c : Cs) (P : List (Int × Int)) (b : Int) (l : List Int) : Int := l.foldl (fun x a => max x (enAt P a.toNat + c.wa a.toNat)) b
def Cs.bgn (c : Cs) (P : List (Int × Int)) (i : Nat) : Int := min (c.aft P (max (c.fr i) (c.last P (c.m i) i)) (c.af i)) c.past
/-- Begins and ends of the first tasks. -/
def Cs.plan (c : Cs) : Nat → List (Int × Int)
  | 0 => []
  | i + 1 => c.plan i ++ [(c.bgn (c.plan i) i, c.fin (c.m i) (c.bgn (c.plan i) i) (c.ho i))]
/-- The hour at which the road opens. -/
def Cs.opn (c : Cs) : Nat → Int
  | 0 => 0
  | i + 1 => max (c.opn i) (min c.past (enAt (c.plan (i + 1)) i + c.wa i))
theorem Cs.plan_len (c : Cs) : ∀ n : Nat, (c.plan n).length = n
  | 0 => rfl
  | n + 1 => by rw [Cs.plan, List.length_append, c.plan_len n]; rfl
theorem Cs.plan_get (c : Cs) {n k : Nat} (h : k < n) : (c.plan n)[k]? = (c.plan (k + 1))[k]? := by
  induction n with
  | zero => omega
  | succ n ih =>
    rcases Nat.lt_or_ge k n with h1 | h1
    · rw [Cs.plan, List.getElem?_append_left (by rw [c.plan_len]; exact h1)]; exact ih h1
    · obtain rfl : k = n := by omega
      rfl
theorem Cs.en_le (c : Cs) {n k : Nat} (h : k < n) : enAt (c.plan n) k = enAt (c.plan (k + 1)) k := by
  unfold enAt; rw [List.getD_eq_getElem?_getD, List.getD_eq_getElem?_getD, c.plan_get h]
theorem Cs.bg_le (c : Cs) {n k : Nat} (h : k < n) : bgAt (c.plan n) k = bgAt (c.plan (k + 1)) k := by
  unfold bgAt; rw [List.getD_eq_getElem?_getD, List.getD_eq_getElem?_getD, c.plan_get h]
theorem Cs.en_new (c : Cs) (i : Nat) : enAt (c.plan (i + 1)) i = c.fin (c.m i) (c.bgn (c.plan i) i) (c.ho i) := by
  unfold enAt
  rw [Cs.plan, List.getD_eq_getElem?_getD, List.getElem?_append_right (by rw [c.plan_len]; exact Nat.le_refl _), c.plan_len, Nat.sub_self]
  rfl
theorem Cs.bg_new (c : Cs) (i : Nat) : bgAt (c.plan (i + 1)) i = c.bgn (c.plan i) i := by
  unfold bgAt
  rw [Cs.plan, List.getD_eq_getElem?_getD, List.getElem?_append_right (by rw [c.plan_len]; exact Nat.le_refl _), c.plan_len, Nat.sub_self]
  rfl
theorem doneN_bd {f : Nat → Bool} {past : Int} : ∀ (k h n : Nat), ((h + k : Nat) : Int) < past → (h : Int) ≤ doneN f past k h n ∧ doneN f past k h n ≤ past
  | 0, h, n, hp => by rw [doneN]; omega
  | k + 1, h, n, hp => by
    rw [doneN]
    have h1 := doneN_bd (f := f) (past := past) k (h + 1) (n - 1) (by omega)
    have h2 := doneN_bd (f := f) (past := past) k (h + 1) n (by omega)
    split
    · split
      · omega
      · omega
    · omega
theorem Cs.fin_bd (c : Cs) {m b n : Int} (hb : 0 ≤ b) (h : b ≤ c.past) : b ≤ c.fin m b n ∧ c.fin m b n ≤ c.past := by
  unfold Cs.fin
  split
  · omega
  · split
    · omega
    · have := doneN_bd (f := c.wh m) (past := c.past) (24 * c.nd - b.toNat) b.toNat n.toNat (by unfold Cs.past at *; omega)
      omega
theorem Cs.aft_le (c : Cs) (P : List (Int × Int)) : ∀ (l : List Int) (b : Int), b ≤ c.aft P b l
  | [], b => Int.le_refl _
  | a :: l, b => by
    have := c.aft_le P l (max b (enAt P a.toNat + c.wa a.toNat))
    unfold Cs.aft at this ⊢
    rw [List.foldl_cons]
    omega
theorem Cs.aft_max (c : Cs) (P : List (Int × Int)) : ∀ (l : List Int) (a b : Int), c.aft P (max a b) l = max (c.aft P a l) b
  | [], a, b => rfl
  | x :: l, a, b => by
    have h1 := c.aft_max P l (max a (enAt P x.toNat + c.wa x.toNat)) b
    unfold Cs.aft at h1 ⊢
    rw [List.foldl_cons, List.foldl_cons, ← h1]
    congr 1
    omega
theorem Cs.bgn_bd (c : Cs) (hf : ∀ i, 0 ≤ c.fr i) (P : List (Int × Int)) (i : Nat) : 0 ≤ c.bgn P i ∧ c.bgn P i ≤ c.past := by
  have h1 := c.aft_le P (c.af i) (max (c.fr i) (c.last P (c.m i) i))
  have := hf i
  unfold Cs.bgn
  unfold Cs.past
  omega
/-- All ends lie from 0 to the past hour. -/
theorem Cs.en_bd (c : Cs) (hf : ∀ i, 0 ≤ c.fr i) {n k : Nat} (h : k < n) : 0 ≤ enAt (c.plan n) k ∧ enAt (c.plan n) k ≤ c.past := by
  rw [c.en_le h, c.en_new]
  have h1 := c.bgn_bd hf (c.plan k) k
  have := c.fin_bd (m := c.m k) (n := c.ho k) h1.1 h1.2
  omega
theorem Cs.bg_bd (c : Cs) (hf : ∀ i, 0 ≤ c.fr i) {n k : Nat} (h : k < n) : 0 ≤ bgAt (c.plan n) k ∧ bgAt (c.plan n) k ≤ c.past := by
  rw [c.bg_le h, c.bg_new]
  exact c.bgn_bd hf (c.plan k) k
theorem Cs.opn_bd (c : Cs) (hf : ∀ i, 0 ≤ c.fr i) (hw : ∀ i, 0 ≤ c.wa i) : ∀ n : Nat, 0 ≤ c.opn n ∧ c.opn n ≤ c.past
  | 0 => by unfold Cs.opn Cs.past; omega
  | n + 1 => by
    have := c.opn_bd hf hw n
    have h1 := c.en_bd hf (n := n + 1) (k := n) (by omega)
    have := hw n
    rw [Cs.opn]
    omega
/-! ### the cases of a job -/
def wkV (x : Mch) (d : Wea) : Int := if x.mild ≤ d.cold.lo ∧ d.cold.hi ≤ x.hard then 1 else if d.cold.hi < x.mild ∨ x.hard < d.cold.lo then 2 else 3
/-- The worst case (true), or the best one. -/
def num (w : Bool) (s : Sp) : Int := if w = true then s.hi else s.lo
def wkB (w : Bool) (v : Int) : Bool := if w = true then decide (v = 1) else !decide (v = 2)
def sp0 : Sp := ⟨0, 0⟩
def tk (ts : List Tsk) (i : Nat) : Tsk := ts.getD i ⟨0, sp0, sp0, sp0, [], .slice none 0 0⟩
def mc (ms : List Mch) (i : Nat) : Mch := ms.getD i ⟨0, 0, 1⟩
def dy (dl : List Wea) (i : Nat) : Wea := dl.getD i ⟨sp0, sp0, 0, false⟩
def caseOf (w : Bool) (ms : List Mch) (ts : List Tsk) (dl : List Wea) : Cs :=
  ⟨dl.length, fun i => num w (tk ts i).ho, fun i => num w (tk ts i).wa, fun i => num w (tk ts i).fr, fun i => (tk ts i).m, fun i => (tk ts i).af, fun m => (mc ms m.toNat).shift, fun m d => wkB w (wkV (mc ms m.toNat) (dy dl d))⟩
theorem tk_get {ts : List Tsk} {i : Nat} {t : Tsk} (h : ts[i]? = some t) : tk ts i = t := by unfold tk; rw [List.getD_eq_getElem?_getD, h]; rfl
theorem mc_get {ms : List Mch} {i : Nat} {x : Mch} (h : ms[i]? = some x) : mc ms i = x := by unfold mc; rw [List.getD_eq_getElem?_getD, h]; rfl
theorem dy_get {dl : List Wea} {i : Nat} {d : Wea} (h : dl[i]? = some d) : dy dl i = d := by unfold dy; rw [List.getD_eq_getElem?_getD, h]; rfl
theorem tk_ok {ms : List Mch} {ts : List Tsk} (h : JobOk ms ts) (i : Nat) : 0 ≤ (tk ts i).ho.lo ∧ (tk ts i).ho.lo ≤ (tk ts i).ho.hi ∧ (tk ts i).ho.hi ≤ 4000 ∧ 0 ≤ (tk ts i).wa.lo ∧ (tk ts i).wa.lo ≤ (tk ts i).wa.hi ∧ (tk ts i).wa.hi ≤ 2000 ∧
    0 ≤ (tk ts i).fr.lo ∧ (tk ts i).fr.lo ≤ (tk ts i).fr.hi ∧ (tk ts i).fr.hi ≤ 2000 := by
  rcases hk : ts[i]? with _ | t
  · unfold tk; rw [List.getD_eq_getElem?_getD, hk]; simp [sp0]
  · rw [tk_get hk]
    have := h.to_ i t hk
    exact ⟨this.ho.1, this.ho.2.1, this.ho.2.2, this.wa.1, this.wa.2.1, this.wa.2.2, this.fr.1, this.fr.2.1, this.fr.2.2⟩
end Go.Proofs.Ytokelpmngahnoaa
