/- The first elements of a slice, and the others. -/
import Derived.Test.YtlefmbjipdlcfaaMK1
import Derived.Test.YtlefmbjipdlcfaaMKB
set_option linter.unusedVariables false
set_option linter.unusedSimpArgs false
set_option linter.unnecessarySimpa false
namespace Go.Proofs.Ytlefmbjipdlcfaa
open Go.RowKit
section
variable {α : Type} {P : Program} {t e : TypeId} {sz bytes : Nat} {enc : α -> List Value}
theorem ElemOk.size (ok : ElemOk P t e sz bytes enc) (w : World) : (sizeOf e).run P w = .ok sz w := by
 obtain ⟨i, z, hi, hz, hsz, hby, hzs⟩ := ok.info
 simp [sizeOf, typeInfo, hi, hsz]
theorem Sl.take {lo hi n c k : Nat} {a : Option Addr} {w : World} {l : List α} (h : Sl enc sz lo hi w (.slice a n c) l) (hk : k <= l.length) : Sl enc sz lo hi w (.slice a k c) (l.take k) := by
 obtain ⟨h1, a', c', h2, h3⟩ := h
 injection h2 with e1 e2 e3
 subst e1 e3
 have hl : (l.take k).length = k := by rw [List.length_take]; omega
 refine ⟨by rw [hl]; exact Nat.le_trans hk h1, a, c, by rw [hl], ?_⟩
 rcases h3 with h3 | ⟨b, off, h4, h5, h6, h7⟩
 ·
  refine .inl ?_
  first | (rw [h3]; simp) | (rw [hl]; omega)
 · exact .inr ⟨b, off, h4, h5, h6, fun i x hi j u hj => h7 i x (by rw [List.getElem?_take] at hi; split at hi <;> first | exact hi | cases hi) j u hj⟩
theorem Sl.drop {lo hi n c k : Nat} {a : Option Addr} {w : World} {l : List α} (h : Sl enc sz lo hi w (.slice a n c) l) (hk : k <= l.length) (hc : l.length <= c) : Sl enc sz lo hi w (.slice (if c = k then a else a.map (·.add (k * sz))) (n - k) (c - k)) (l.drop k) := by
 obtain ⟨h1, a', c', h2, h3⟩ := h
 injection h2 with e1 e2 e3
 subst e1 e3 e2
 have hl : (l.drop k).length = l.length - k := by rw [List.length_drop]
 refine ⟨by rw [hl]; omega, _, _, by rw [hl], ?_⟩
 by_cases hck : c = k
 · exact .inl (by first | (apply List.eq_nil_of_length_eq_zero; rw [hl]; omega) | (rw [hl]; omega))
 rcases h3 with h3 | ⟨b, off, h4, h5, h6, h7⟩
 ·
  refine .inl ?_
  first | (rw [h3]; simp) | (rw [hl]; omega)
 refine .inr ⟨b, off + k * sz, ?_, h5, h6, fun i x hi j u hj => ?_⟩
 ·
  rw [if_neg hck, h4]; simp [Addr.add]
  all_goals omega
 have h8 := h7 (k + i) x (by rw [List.getElem?_drop] at hi; exact hi) j u hj
 rw [show off + k * sz + i * sz + j = off + (k + i) * sz + j by rw [Nat.add_mul]; omega]
 exact h8
theorem Bun.more {w0 A : World} {L : List Res} (i : Nat) {r : Res} (r' : Res) (h : Bun w0 L A) (hi : L[i]? = some r) (hm : r.mine = false) (hm' : r'.mine = false) (hX : ∀ g, r'.X g -> r.X g) (hP : r'.P A) : Bun w0 (r' :: L) A := by
 have hr := List.mem_of_getElem? hi
 refine ⟨fun x hx => ?_, fun x hx g hg => ?_, ?_, h.gb⟩
 ·
  rcases List.mem_cons.1 hx with rfl | hx
  · exact hP
  · exact h.all x hx
 ·
  rcases List.mem_cons.1 hx with rfl | hx
  · exact ⟨(h.bd r hr g (hX g hg)).1, fun e => by rw [hm'] at e; cases e⟩
  · exact h.bd x hx g hg
 rw [List.pairwise_cons]
 refine ⟨fun x hx hmm g h1 h2 => ?_, h.dis⟩
 rcases hmm with hmm | hmm
 · rw [hm'] at hmm; cases hmm
 have hxr : x ≠ r := fun e => by rw [e, hm] at hmm; cases hmm
 obtain ⟨j, hj⟩ := List.getElem?_of_mem hx
 have hij : i ≠ j := fun e => by subst e; rw [hi] at hj; injection hj with hj; exact hxr hj.symm
 exact h.neAt i j hi hj hij (.inr hmm) g (hX g h1) h2
end
end Go.Proofs.Ytlefmbjipdlcfaa
/- build: jobs, what is wrong with them, cases, and when tasks are done in a case. -/
namespace Go.Proofs.Ytlefmbjipdlcfaa
open Go.RowKit
structure Mch where
 mild : Int
 hard : Int
 shift : Int
structure Tsk where
 m : Int
 ho : Sp
 wa : Sp
 fr : Sp
 af : List Int
 av : Value
def mchEnc (x : Mch) : List Value := [.int .i64 x.mild, .int .i64 x.hard, .int .i64 x.shift]
def tskEnc (t : Tsk) : List Value := [.int .i64 t.m, .int .i64 t.ho.lo, .int .i64 t.ho.hi, .int .i64 t.wa.lo, .int .i64 t.wa.hi, .int .i64 t.fr.lo, .int .i64 t.fr.hi, t.av]
/-! ### a case, and when tasks are done in it -/
structure Cs where
 nd : Nat
 ho : Nat -> Int
 wa : Nat -> Int
 fr : Nat -> Int
 m : Nat -> Int
 af : Nat -> List Int
 sh : Int -> Int
 wk : Int -> Nat -> Bool
def Cs.past (c : Cs) : Int := 24 * (c.nd : Int) + 1
def Cs.wh (c : Cs) (m : Int) (h : Nat) : Bool := c.wk m (h / 24) && decide (((h % 24 : Nat) : Int) < c.sh m)
def doneN (f : Nat -> Bool) (past : Int) : Nat -> Nat -> Nat -> Int
 | 0, _, _ => past
 | k + 1, h, n => if f h = true then (if n = 1 then (h : Int) + 1 else doneN f past k (h + 1) (n - 1)) else doneN f past k (h + 1) n
def Cs.fin (c : Cs) (m b n : Int) : Int := if c.past <= b then c.past else if n = 0 then b else doneN (c.wh m) c.past (24 * c.nd - b.toNat) b.toNat n.toNat
def enAt (P : List (Int × Int)) (k : Nat) : Int := (P.getD k (0, 0)).2
def bgAt (P : List (Int × Int)) (k : Nat) : Int := (P.getD k (0, 0)).1
def Cs.last (c : Cs) (P : List (Int × Int)) (m : Int) : Nat -> Int
 | 0 => 0
 | k + 1 => if c.m k = m then enAt P k else c.last P m k
def Cs.aft (c : Cs) (P : List (Int × Int)) (b : Int) (l : List Int) : Int := l.foldl (fun x a => max x (enAt P a.toNat + c.wa a.toNat)) b
def Cs.bgn (c : Cs) (P : List (Int × Int)) (i : Nat) : Int := min (c.aft P (max (c.fr i) (c.last P (c.m i) i)) (c.af i)) c.past
def Cs.plan (c : Cs) : Nat -> List (Int × Int)
 | 0 => []
 | i + 1 => c.plan i ++ [(c.bgn (c.plan i) i, c.fin (c.m i) (c.bgn (c.plan i) i) (c.ho i))]
theorem Cs.plan_len (c : Cs) : ∀ n : Nat, (c.plan n).length = n
 | 0 => rfl
 | n + 1 => by rw [Cs.plan, List.length_append, c.plan_len n]; rfl
theorem Cs.plan_get (c : Cs) {n k : Nat} (h : k < n) : (c.plan n)[k]? = (c.plan (k + 1))[k]? := by
 induction n with
 | zero => omega
 | succ n ih =>
  rcases Nat.lt_or_ge k n with h1 | h1
  · rw [Cs.plan, List.getElem?_append_left (by rw [c.plan_len]; exact h1)]; exact ih h1
  obtain rfl : k = n := by omega
  rfl
theorem Cs.en_le (c : Cs) {n k : Nat} (h : k < n) : enAt (c.plan n) k = enAt (c.plan (k + 1)) k := by
 unfold enAt; rw [List.getD_eq_getElem?_getD, List.getD_eq_getElem?_getD, c.plan_get h]
theorem Cs.bg_le (c : Cs) {n k : Nat} (h : k < n) : bgAt (c.plan n) k = bgAt (c.plan (k + 1)) k := by
 unfold bgAt; rw [List.getD_eq_getElem?_getD, List.getD_eq_getElem?_getD, c.plan_get h]
theorem Cs.en_new (c : Cs) (i : Nat) : enAt (c.plan (i + 1)) i = c.fin (c.m i) (c.bgn (c.plan i) i) (c.ho i) := by
 unfold enAt
 rw [Cs.plan, List.getD_eq_getElem?_getD, List.getElem?_append_right (by rw [c.plan_len]; exact Nat.le_refl _), c.plan_len, Nat.sub_self]
 rfl
theorem Cs.bg_new (c : Cs) (i : Nat) : bgAt (c.plan (i + 1)) i = c.bgn (c.plan i) i := by
 unfold bgAt
 rw [Cs.plan, List.getD_eq_getElem?_getD, List.getElem?_append_right (by rw [c.plan_len]; exact Nat.le_refl _), c.plan_len, Nat.sub_self]
 rfl
theorem doneN_bd {f : Nat -> Bool} {past : Int} : ∀ (k h n : Nat), ((h + k : Nat) : Int) < past -> (h : Int) <= doneN f past k h n /\ doneN f past k h n <= past
 | 0, h, n, hp => by rw [doneN]; omega
 | k + 1, h, n, hp => by
  rw [doneN]
  have h1 := doneN_bd (f := f) (past := past) k (h + 1) (n - 1) (by omega)
  have h2 := doneN_bd (f := f) (past := past) k (h + 1) n (by omega)
  split
  ·
   split
   · omega
   · omega
  · omega
theorem Cs.fin_bd (c : Cs) {m b n : Int} (hb : 0 <= b) (h : b <= c.past) : b <= c.fin m b n /\ c.fin m b n <= c.past := by
 unfold Cs.fin
 split
 · omega
 split
 · omega
 have := doneN_bd (f := c.wh m) (past := c.past) (24 * c.nd - b.toNat) b.toNat n.toNat (by unfold Cs.past at *; omega)
 omega
theorem Cs.aft_le (c : Cs) (P : List (Int × Int)) : ∀ (l : List Int) (b : Int), b <= c.aft P b l
 | [], b => Int.le_refl _
 | a :: l, b => by
  have := c.aft_le P l (max b (enAt P a.toNat + c.wa a.toNat))
  unfold Cs.aft at this ⊢
  rw [List.foldl_cons]
  omega
theorem Cs.bgn_bd (c : Cs) (hf : ∀ i, 0 <= c.fr i) (P : List (Int × Int)) (i : Nat) : 0 <= c.bgn P i /\ c.bgn P i <= c.past := by
 have h1 := c.aft_le P (c.af i) (max (c.fr i) (c.last P (c.m i) i))
 have := hf i
 unfold Cs.bgn
 unfold Cs.past
 omega
theorem Cs.en_bd (c : Cs) (hf : ∀ i, 0 <= c.fr i) {n k : Nat} (h : k < n) : 0 <= enAt (c.plan n) k /\ enAt (c.plan n) k <= c.past := by
 rw [c.en_le h, c.en_new]
 have h1 := c.bgn_bd hf (c.plan k) k
 have := c.fin_bd (m := c.m k) (n := c.ho k) h1.1 h1.2
 omega
theorem Cs.bg_bd (c : Cs) (hf : ∀ i, 0 <= c.fr i) {n k : Nat} (h : k < n) : 0 <= bgAt (c.plan n) k /\ bgAt (c.plan n) k <= c.past := by
 rw [c.bg_le h, c.bg_new]
 exact c.bgn_bd hf (c.plan k) k
def sp0 : Sp := ⟨0, 0⟩
def tk (ts : List Tsk) (i : Nat) : Tsk := ts.getD i ⟨0, sp0, sp0, sp0, [], .slice none 0 0⟩
def dy (dl : List Wea) (i : Nat) : Wea := dl.getD i ⟨sp0, sp0, 0, false⟩
theorem tk_get {ts : List Tsk} {i : Nat} {t : Tsk} (h : ts[i]? = some t) : tk ts i = t := by unfold tk; rw [List.getD_eq_getElem?_getD, h]; rfl
theorem dy_get {dl : List Wea} {i : Nat} {d : Wea} (h : dl[i]? = some d) : dy dl i = d := by unfold dy; rw [List.getD_eq_getElem?_getD, h]; rfl
end Go.Proofs.Ytlefmbjipdlcfaa
/- build: a job as it lies in memory; what else is read beside it; errors that are put together. -/
namespace Go.Proofs.Ytlefmbjipdlcfaa
open Go.RowKit
set_option maxRecDepth 100000
def CapOk : Value -> Prop
 | .slice _ n c => n <= c
 | _ => False
def Afs (lo hi : Nat) (w : World) (l : List Tsk) : Prop := ∀ t ∈ l, Sl intEnc 1 lo hi w t.av t.af /\ CapOk t.av
structure JobAt (lo hi : Nat) (w : World) (vm vt : Value) (ms : List Mch) (ts : List Tsk) : Prop where
 m : Sl mchEnc 3 lo hi w vm ms
 t : Sl tskEnc 8 lo hi w vt ts
 af : Afs lo hi w ts
theorem Afs.gb {lo hi : Nat} {w w' : World} {l : List Tsk} {r : Option Nat} (h : Afs lo hi w l) (hg : w.grownBy w' r) (hr : ∀ g, r = some g -> g < lo ∨ hi <= g) : Afs lo hi w' l := fun t ht => ⟨Sl.gb (h t ht).1 hg hr, (h t ht).2⟩
theorem JobAt.gb {lo hi : Nat} {w w' : World} {vm vt : Value} {ms : List Mch} {ts : List Tsk} {r : Option Nat} (h : JobAt lo hi w vm vt ms ts) (hg : w.grownBy w' r) (hr : ∀ g, r = some g -> g < lo ∨ hi <= g) : JobAt lo hi w' vm vt ms ts :=
 ⟨h.m.gb hg hr, h.t.gb hg hr, h.af.gb hg hr⟩
theorem slI_of {w : World} {g : Nat} {t : TypeId} {cs : Array Value} (l : List Int) (c n : Nat) (h : Bk w g t cs) (hcs : cs.toList = l.map (Value.int .i64)) (hn : l.length = n) (hl : n <= 1000) : Sl intEnc 1 g (g + 1) w (.slice (some ⟨g, 0, none⟩) n c) l := by
 subst hn
 refine ⟨by unfold maxLen; omega, _, c, rfl, .inr ⟨g, 0, rfl, Nat.le_refl _, by omega, fun i x hi j u hj => ?_⟩⟩
 rw [h.cell, ← Array.getElem?_toList, hcs, List.getElem?_map]
 cases j with
 | zero =>
  simp only [intEnc, List.getElem?_cons_zero, Option.some.injEq] at hj
  subst hj
  simp [hi]
 | succ j => simp [intEnc] at hj
def wth (n lo hi : Int) : Bool := decide (lo <= n /\ n <= hi)
theorem wth_t {n lo hi : Int} (h : wth n lo hi = true) : lo <= n /\ n <= hi := by simpa [wth] using h
theorem wth_f {n lo hi : Int} (h : wth n lo hi = false) : ¬ (lo <= n /\ n <= hi) := by simpa [wth] using h
def unl (b : Bool) (e : Int) : Int := if b = true then 0 else e
def fstE : List Int -> Int
 | [] => 0
 | e :: l => if ¬ e = 0 then e else fstE l
end Go.Proofs.Ytlefmbjipdlcfaa
/- build: working hours, one after the other. -/
namespace Go.Proofs.Ytlefmbjipdlcfaa
open Go.RowKit
end Go.Proofs.Ytlefmbjipdlcfaa
/- build: what is known lies the later, the longer tasks take, and the less machines work. -/
namespace Go.Proofs.Ytlefmbjipdlcfaa
open Go.RowKit
structure CsLe (c d : Cs) : Prop where
 nd : c.nd = d.nd
 ho : ∀ i, 0 <= c.ho i /\ c.ho i <= d.ho i
 wa : ∀ i, 0 <= c.wa i /\ c.wa i <= d.wa i
 fr : ∀ i, 0 <= c.fr i /\ c.fr i <= d.fr i
 m : ∀ i, c.m i = d.m i
 af : ∀ i, c.af i = d.af i
 aok : ∀ i, ∀ a ∈ c.af i, 0 <= a /\ a < i
 sh : ∀ m, c.sh m = d.sh m
 wk : ∀ m h, d.wk m h = true -> c.wk m h = true
theorem doneN_mono {f g : Nat -> Bool} {past : Int} (hfg : ∀ h, g h = true -> f h = true) : ∀ (k h n h' k' n' : Nat), h + k = h' + k' -> ((h + k : Nat) : Int) < past -> h <= h' -> 1 <= n -> n <= n' -> doneN f past k h n <= doneN g past k' h' n'
 | 0, h, n, h', k', n', e, hp, hh, hn, hn' => by
  obtain rfl : k' = 0 := by omega
  rw [doneN, doneN]
  exact Int.le_refl _
 | k + 1, h, n, h', k', n', e, hp, hh, hn, hn' => by
  have hb := doneN_bd (f := g) (past := past) k' h' n' (by omega)
  rw [doneN]
  by_cases hlt : h < h'
  ·
   split
   ·
    split
    · omega
    · exact doneN_mono hfg k (h + 1) (n - 1) h' k' n' (by omega) (by omega) (by omega) (by omega) (by omega)
   · exact doneN_mono hfg k (h + 1) n h' k' n' (by omega) (by omega) (by omega) hn hn'
  obtain rfl : h = h' := by omega
  obtain rfl : k' = k + 1 := by omega
  rw [doneN]
  by_cases hg : g h = true
  ·
   rw [if_pos (hfg h hg), if_pos hg]
   by_cases h1 : n = 1
   ·
    rw [if_pos h1]
    split
    · exact Int.le_refl _
    have := doneN_bd (f := g) (past := past) k (h + 1) (n' - 1) (by omega)
    omega
   rw [if_neg h1, if_neg (by omega)]
   exact doneN_mono hfg k (h + 1) (n - 1) (h + 1) k (n' - 1) rfl (by omega) (Nat.le_refl _) (by omega) (by omega)
  rw [if_neg hg]
  split
  ·
   split
   ·
    have := doneN_bd (f := g) (past := past) k (h + 1) n' (by omega)
    omega
   · exact doneN_mono hfg k (h + 1) (n - 1) (h + 1) k n' rfl (by omega) (Nat.le_refl _) (by omega) (by omega)
  · exact doneN_mono hfg k (h + 1) n (h + 1) k n' rfl (by omega) (Nat.le_refl _) hn hn'
section
variable {c d : Cs} (h : CsLe c d)
include h
theorem CsLe.past : c.past = d.past := by unfold Cs.past; rw [h.nd]
theorem CsLe.wh (m : Int) (x : Nat) (hx : d.wh m x = true) : c.wh m x = true := by
 unfold Cs.wh at hx ⊢
 rw [Bool.and_eq_true] at hx ⊢
 exact ⟨h.wk m _ hx.1, by rw [h.sh]; exact hx.2⟩
theorem CsLe.fin {m b b' n n' : Int} (hb : 0 <= b) (hbb : b <= b') (hb' : b' <= d.past) (hn : 0 <= n) (hnn : n <= n') : c.fin m b n <= d.fin m b' n' := by
 have hp := h.past
 have h1 := c.fin_bd (m := m) (n := n) hb (by omega)
 have h2 := d.fin_bd (m := m) (n := n') (by omega : 0 <= b') hb'
 by_cases hlt : d.past <= b'
 · omega
 by_cases h0 : n = 0
 ·
  have : c.fin m b n = b := by unfold Cs.fin; rw [if_neg (by omega), if_pos h0]
  omega
 unfold Cs.fin
 rw [if_neg (by omega), if_neg h0, if_neg hlt, if_neg (by omega)]
 have hcd := h.nd
 have hpd : d.past = 24 * (d.nd : Int) + 1 := rfl
 rw [hp, hcd]
 exact doneN_mono (fun x hx => h.wh m x hx) _ _ _ _ _ _ (by omega) (by omega) (by omega) (by omega) (by omega)
theorem CsLe.last {P P' : List (Int × Int)} (m : Int) : ∀ k : Nat, (∀ i, i < k -> enAt P i <= enAt P' i) -> c.last P m k <= d.last P' m k
 | 0, _ => Int.le_refl _
 | k + 1, hP => by
  rw [Cs.last, Cs.last, h.m]
  split
  · exact hP k (by omega)
  · exact CsLe.last m k (fun i hi => hP i (by omega))
theorem CsLe.aft {P P' : List (Int × Int)} {n : Nat} (hP : ∀ i, i < n -> enAt P i <= enAt P' i) : ∀ (l : List Int) (b b' : Int), (∀ a ∈ l, 0 <= a /\ a < n) -> b <= b' -> c.aft P b l <= d.aft P' b' l
 | [], b, b', _, hb => hb
 | a :: l, b, b', hl, hb => by
  have h1 := hl a (.head _)
  have h2 := hP a.toNat (by omega)
  have h3 := h.wa a.toNat
  have := CsLe.aft hP l (max b (enAt P a.toNat + c.wa a.toNat)) (max b' (enAt P' a.toNat + d.wa a.toNat)) (fun x hx => hl x (.tail _ hx)) (by omega)
  unfold Cs.aft at this ⊢
  rw [List.foldl_cons, List.foldl_cons]
  exact this
theorem CsLe.bgn {i : Nat} (hP : ∀ k, k < i -> enAt (c.plan i) k <= enAt (d.plan i) k) : c.bgn (c.plan i) i <= d.bgn (d.plan i) i := by
 have h1 := CsLe.last h (P := c.plan i) (P' := d.plan i) (c.m i) i hP
 have h2 := h.fr i
 have h3 := h.past
 have h4 := CsLe.aft h hP (c.af i) (max (c.fr i) (c.last (c.plan i) (c.m i) i)) (max (d.fr i) (d.last (d.plan i) (c.m i) i)) (h.aok i) (by omega)
 unfold Cs.bgn
 rw [← h.m, ← h.af]
 omega
theorem CsLe.plan : ∀ (n k : Nat), k < n -> bgAt (c.plan n) k <= bgAt (d.plan n) k /\ enAt (c.plan n) k <= enAt (d.plan n) k
 | 0, k, hk => by omega
 | n + 1, k, hk => by
  rcases Nat.lt_or_ge k n with h1 | h1
  ·
   have := CsLe.plan n k h1
   rw [c.bg_le (n := n + 1) hk, d.bg_le (n := n + 1) hk, c.en_le (n := n + 1) hk, d.en_le (n := n + 1) hk, ← c.bg_le h1, ← d.bg_le h1, ← c.en_le h1, ← d.en_le h1]
   exact this
  obtain rfl : k = n := by omega
  have hb := CsLe.bgn h (i := k) (fun j hj => (CsLe.plan k j hj).2)
  rw [c.bg_new, d.bg_new, c.en_new, d.en_new, ← h.m]
  have h2 := c.bgn_bd (fun i => (h.fr i).1) (c.plan k) k
  have h3 := d.bgn_bd (fun i => Int.le_trans (h.fr i).1 (h.fr i).2) (d.plan k) k
  exact ⟨hb, CsLe.fin h h2.1 hb h3.2 (h.ho k).1 (h.ho k).2⟩
end
def subS (a b : Sp) : Prop := b.lo <= a.lo /\ a.lo <= a.hi /\ a.hi <= b.hi
def subT (a b : Tsk) : Prop := a.m = b.m /\ subS a.ho b.ho /\ subS a.wa b.wa /\ subS a.fr b.fr /\ a.af = b.af
def subTs (a b : List Tsk) : Prop := a.length = b.length /\ ∀ (i : Nat) (x y : Tsk), a[i]? = some x -> b[i]? = some y -> subT x y
def subDs (a b : List Wea) : Prop := a.length = b.length /\ ∀ (i : Nat) (x y : Wea), a[i]? = some x -> b[i]? = some y -> subS x.cold y.cold
theorem subTs.at_ {a b : List Tsk} (h : subTs a b) (i : Nat) : subT (tk a i) (tk b i) := by
 rcases Nat.lt_or_ge i a.length with h1 | h1
 ·
  have ha := List.getElem?_eq_getElem h1
  have hb := List.getElem?_eq_getElem (l := b) (i := i) (by rw [← h.1]; exact h1)
  rw [tk_get ha, tk_get hb]
  exact h.2 i _ _ ha hb
 unfold tk
 rw [List.getD_eq_getElem?_getD, List.getD_eq_getElem?_getD, List.getElem?_eq_none h1, List.getElem?_eq_none (by rw [← h.1]; exact h1)]
 refine ⟨rfl, ?_, ?_, ?_, rfl⟩ <;> exact ⟨Int.le_refl _, Int.le_refl _, Int.le_refl _⟩
theorem subDs.at_ {a b : List Wea} (h : subDs a b) (i : Nat) : subS (dy a i).cold (dy b i).cold := by
 rcases Nat.lt_or_ge i a.length with h1 | h1
 ·
  have ha := List.getElem?_eq_getElem h1
  have hb := List.getElem?_eq_getElem (l := b) (i := i) (by rw [← h.1]; exact h1)
  rw [dy_get ha, dy_get hb]
  exact h.2 i _ _ ha hb
 unfold dy
 rw [List.getD_eq_getElem?_getD, List.getD_eq_getElem?_getD, List.getElem?_eq_none h1, List.getElem?_eq_none (by rw [← h.1]; exact h1)]
 exact ⟨Int.le_refl _, Int.le_refl _, Int.le_refl _⟩
end Go.Proofs.Ytlefmbjipdlcfaa
/- build: a road that is built hour by hour, and the plan: what is so after some hours. -/
namespace Go.Proofs.Ytlefmbjipdlcfaa
open Go.RowKit
def lf (f : Nat -> Bool) : Nat -> Nat -> Nat -> Nat
 | 0, _, n => n
 | k + 1, h, n => if f h = true /\ ¬ n = 0 then lf f k (h + 1) (n - 1) else lf f k (h + 1) n
section
variable (c : Cs) (N : Nat)
def Cs.bgI (i : Nat) : Int := bgAt (c.plan N) i
def Cs.enI (i : Nat) : Int := enAt (c.plan N) i
def Cs.sl (h i : Nat) : Int := (lf (c.wh (c.m i)) (min h (24 * c.nd) - (c.bgI N i).toNat) (c.bgI N i).toNat (c.ho i).toNat : Nat)
end
structure SiteOk (c : Cs) (N : Nat) : Prop where
 ho : ∀ i, 0 <= c.ho i
 wa : ∀ i, 0 <= c.wa i
 fr : ∀ i, 0 <= c.fr i
 af : ∀ i, i < N -> ∀ a ∈ c.af i, 0 <= a /\ a < i
section
variable {c : Cs} {N : Nat} (H : SiteOk c N)
include H
omit H in
theorem SiteOk.en_eq {i : Nat} (hi : i < N) : c.enI N i = c.fin (c.m i) (c.bgI N i) (c.ho i) := by
 unfold Cs.enI Cs.bgI
 rw [c.en_le hi, c.bg_le hi, c.en_new, c.bg_new]
omit H in
theorem SiteOk.bg_eq {i : Nat} (hi : i < N) : c.bgI N i = c.bgn (c.plan i) i := by
 unfold Cs.bgI
 rw [c.bg_le hi, c.bg_new]
theorem SiteOk.bg_bd {i : Nat} (hi : i < N) : 0 <= c.bgI N i /\ c.bgI N i <= c.past := c.bg_bd H.fr hi
theorem SiteOk.en_bd {i : Nat} (hi : i < N) : c.bgI N i <= c.enI N i /\ c.enI N i <= c.past := by
 have h1 := H.bg_bd hi
 rw [SiteOk.en_eq hi]
 exact c.fin_bd h1.1 h1.2
theorem SiteOk.last_le {i h : Nat} (hi : i < N) (hh : (h : Int) < c.past) : c.last (c.plan i) (c.m i) i <= (h : Int) ↔ ∀ k, k < i -> c.m k = c.m i -> c.enI N k <= (h : Int) := by
 have key : ∀ j, j <= i -> (c.last (c.plan i) (c.m i) j <= (h : Int) ↔ ∀ k, k < j -> c.m k = c.m i -> c.enI N k <= (h : Int)) := by
  intro j
  induction j with
  | zero => intro _; rw [Cs.last]; exact ⟨fun _ k hk => absurd hk (Nat.not_lt_zero _), fun _ => by omega⟩
  | succ j ih =>
   intro hj
   rw [Cs.last]
   have e : enAt (c.plan i) j = c.enI N j := by unfold Cs.enI; rw [c.en_le (show j < i by omega), c.en_le (show j < N by omega)]
   by_cases hm : c.m j = c.m i
   ·
    rw [if_pos hm, e]
    refine ⟨fun h1 k hk hkm => ?_, fun h1 => h1 j (by omega) hm⟩
    rcases Nat.lt_succ_iff_lt_or_eq.1 hk with hk2 | rfl
    ·
     -- what comes before it on the machine is done before it begins
     have h2 := H.en_bd (i := j) (by omega)
     have h3 : c.last (c.plan j) (c.m j) j <= c.bgI N j ∨ c.bgI N j = c.past := by
      rw [SiteOk.bg_eq (by omega)]
      have := c.aft_le (c.plan j) (c.af j) (max (c.fr j) (c.last (c.plan j) (c.m j) j))
      unfold Cs.bgn
      omega
     have h4 : c.last (c.plan j) (c.m j) j <= (h : Int) := by omega
     have e2 : ∀ q, q <= j -> c.last (c.plan j) (c.m j) q = c.last (c.plan i) (c.m i) q := by
      intro q
      induction q with
      | zero => intro _; rfl
      | succ q ihq =>
       intro hq
       rw [Cs.last, Cs.last, ihq (by omega), hm, c.en_le (show q < j by omega), c.en_le (show q < i by omega)]
     rw [e2 j (Nat.le_refl _)] at h4
     exact (ih (by omega)).1 h4 k hk2 hkm
    · exact h1
   rw [if_neg hm, ih (by omega)]
   refine ⟨fun h1 k hk hkm => ?_, fun h1 k hk hkm => h1 k (by omega) hkm⟩
   rcases Nat.lt_succ_iff_lt_or_eq.1 hk with hk2 | rfl
   · exact h1 k hk2 hkm
   · exact absurd hkm hm
 exact key i (Nat.le_refl _)
omit H in
theorem Cs.aft_le_iff (c : Cs) (P : List (Int × Int)) : ∀ (l : List Int) (b x : Int), c.aft P b l <= x ↔ b <= x /\ ∀ a ∈ l, enAt P a.toNat + c.wa a.toNat <= x
 | [], b, x => by unfold Cs.aft; simp
 | a :: l, b, x => by
  have := Cs.aft_le_iff c P l (max b (enAt P a.toNat + c.wa a.toNat)) x
  unfold Cs.aft at this ⊢
  rw [List.foldl_cons, this]
  simp only [List.mem_cons, forall_eq_or_imp]
  constructor
  · rintro ⟨h1, h2⟩; exact ⟨by omega, by omega, h2⟩
  · rintro ⟨h1, h2, h3⟩; exact ⟨by omega, h3⟩
theorem SiteOk.ready {i h : Nat} (hi : i < N) (hh : (h : Int) < c.past) : c.bgI N i <= (h : Int) ↔ (c.fr i <= (h : Int) /\ (∀ k, k < i -> c.m k = c.m i -> c.enI N k <= (h : Int)) /\ ∀ a ∈ c.af i, c.enI N a.toNat + c.wa a.toNat <= (h : Int)) := by
 rw [SiteOk.bg_eq hi, ← H.last_le hi hh]
 unfold Cs.bgn
 have h1 := Cs.aft_le_iff c (c.plan i) (c.af i) (max (c.fr i) (c.last (c.plan i) (c.m i) i)) h
 have h2 : min (c.aft (c.plan i) (max (c.fr i) (c.last (c.plan i) (c.m i) i)) (c.af i)) c.past <= (h : Int) ↔ c.aft (c.plan i) (max (c.fr i) (c.last (c.plan i) (c.m i) i)) (c.af i) <= (h : Int) := by omega
 rw [h2, h1]
 have h3 : ∀ a ∈ c.af i, enAt (c.plan i) a.toNat = c.enI N a.toNat := fun a ha => by
  have := H.af i hi a ha
  unfold Cs.enI
  rw [c.en_le (show a.toNat < i by omega), c.en_le (show a.toNat < N by omega)]
 constructor
 ·
  rintro ⟨h4, h5⟩
  exact ⟨by omega, by omega, fun a ha => by rw [← h3 a ha]; exact h5 a ha⟩
 rintro ⟨h4, h5, h6⟩
 exact ⟨by omega, fun a ha => by rw [h3 a ha]; exact h6 a ha⟩
end
/-! ### rows of which the first i are an hour further -/
section
variable {α : Type}
end
end Go.Proofs.Ytlefmbjipdlcfaa
/- Ways that part over a piece of code meet again behind it: where the walk is in the piece already. -/
namespace Go.Proofs.Ytlefmbjipdlcfaa
open Go.RowKit
end Go.Proofs.Ytlefmbjipdlcfaa
