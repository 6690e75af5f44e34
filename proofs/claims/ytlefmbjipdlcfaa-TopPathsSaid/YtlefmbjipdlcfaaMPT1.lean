/- rescue: times over paths: the rounds over the paths find the least times, within as many rounds as there are spots. Plain maths. -/
import Derived.Test.YtlefmbjipdlcfaaMPR1
import Derived.Test.YtlefmbjipdlcfaaMPR2
set_option linter.unusedVariables false
set_option linter.unusedSimpArgs false
set_option linter.unnecessarySimpa false
namespace Go.Proofs.Ytlefmbjipdlcfaa
set_option maxRecDepth 100000
abbrev TM := List (Option Int)
def tget (m : TM) (x : Int) : Option Int := if 0 <= x then m.getD x.toNat none else none
def tset (m : TM) (x v : Int) : TM := m.set x.toNat (some v)
theorem tset_len (m : TM) (x v : Int) : (tset m x v).length = m.length := by simp [tset]
theorem tget_set {m : TM} {x v : Int} (h : 0 <= x /\ x < m.length) (y : Int) : tget (tset m x v) y = if y = x then some v else tget m y := by
 unfold tget tset
 by_cases h0 : 0 <= y
 ·
  rw [if_pos h0, if_pos h0, List.getD_eq_getElem?_getD, List.getD_eq_getElem?_getD, List.getElem?_set]
  by_cases e : y = x
  ·
   subst e
   rw [if_pos rfl, if_pos rfl, if_pos (by omega)]
   rfl
  · rw [if_neg e, if_neg (by omega)]
 · rw [if_neg h0, if_neg (by omega), if_neg h0]
def relT (x y long : Int) (s : TM × Bool) : TM × Bool := match tget s.1 x with
 | none => s
 | some a => match tget s.1 y with
  | none => (tset s.1 y (a + long), true)
  | some b => if a + long < b then (tset s.1 y (a + long), true) else s
def lgT (u : Lg -> Bool) (s : TM × Bool) (l : Lg) : TM × Bool := if u l = true then relT l.b l.a l.long (relT l.a l.b l.long s) else s
def rndT (ls : List Lg) (u : Lg -> Bool) (m : TM) : TM × Bool := ls.foldl (lgT u) (m, false)
def dsT (ls : List Lg) (u : Lg -> Bool) : Nat -> TM -> Option TM
 | 0, _ => none
 | k + 1, m => if (rndT ls u m).2 = true then dsT ls u k (rndT ls u m).1 else some (rndT ls u m).1
def time0 (n : Nat) (x : Int) : TM := tset (List.replicate n none) x 0
theorem tget_none (n : Nat) (x : Int) : tget (List.replicate n none) x = none := by
 unfold tget
 split
 ·
  rw [List.getD_eq_getElem?_getD, List.getElem?_replicate]
  split <;> rfl
 · rfl
section
variable {ls : List Lg} {u : Lg -> Bool} {d : Int} {n : Nat}
def SndT (ls : List Lg) (u : Lg -> Bool) (d : Int) (m : TM) : Prop := ∀ x v, tget m x = some v -> ∃ q, Wy ls u d x v q
def InvT (ls : List Lg) (u : Lg -> Bool) (d : Int) (k : Nat) (m : TM) : Prop := ∀ x p q, Wy ls u d x p q -> q <= k -> ∃ v, tget m x = some v /\ v <= p
def MonT (m m' : TM) : Prop := ∀ z v, tget m z = some v -> ∃ v', tget m' z = some v' /\ v' <= v
theorem MonT.refl (m : TM) : MonT m m := fun _ v h => ⟨v, h, Int.le_refl v⟩
theorem MonT.trans {a b c : TM} (h : MonT a b) (h2 : MonT b c) : MonT a c := fun z v e => by
 obtain ⟨v', e', l⟩ := h z v e
 obtain ⟨v'', e'', l'⟩ := h2 z v' e'
 exact ⟨v'', e'', Int.le_trans l' l⟩
structure StepT (ls : List Lg) (u : Lg -> Bool) (d : Int) (n : Nat) (s s' : TM × Bool) : Prop where
 len : s'.1.length = n
 mon : MonT s.1 s'.1
 snd : SndT ls u d s.1 -> SndT ls u d s'.1
 up : s.2 = true -> s'.2 = true
 no : s'.2 = false -> s' = s
theorem StepT.refl {s : TM × Bool} (h : s.1.length = n) : StepT ls u d n s s := ⟨h, MonT.refl _, id, id, fun _ => rfl⟩
theorem StepT.trans {a b c : TM × Bool} (h : StepT ls u d n a b) (h2 : StepT ls u d n b c) : StepT ls u d n a c :=
 ⟨h2.len, h.mon.trans h2.mon, fun s => h2.snd (h.snd s), fun e => h2.up (h.up e), fun e => by
  have e1 := h2.no e
  rw [e1] at e ⊢
  exact h.no e⟩
theorem relT_step {l : Lg} (hl : l ∈ ls) (hu : u l = true) {x y : Int} (hxy : l.a = x /\ l.b = y ∨ l.b = x /\ l.a = y) (hy : 0 <= y /\ y < n) {s : TM × Bool} (hlen : s.1.length = n) :
  StepT ls u d n s (relT x y l.long s) /\ ∀ a, tget s.1 x = some a -> ∃ b, tget (relT x y l.long s).1 y = some b /\ b <= a + l.long := by
 unfold relT
 cases hx : tget s.1 x with
 | none => exact ⟨StepT.refl hlen, fun a h => by cases h⟩
 | some a =>
  have hg := tget_set (m := s.1) (x := y) (v := a + l.long) (by omega)
  have key : (∀ b, tget s.1 y = some b -> a + l.long <= b) -> StepT ls u d n s (tset s.1 y (a + l.long), true) := fun hb => by
   refine ⟨by rw [tset_len, hlen], fun z v hz => ?_, fun hs z v hz => ?_, fun _ => rfl, fun e => by cases e⟩
   ·
    rw [hg]
    by_cases e : z = y
    · rw [if_pos e]; rw [e] at hz; exact ⟨_, rfl, hb v hz⟩
    · rw [if_neg e]; exact ⟨v, hz, Int.le_refl v⟩
   rw [hg] at hz
   by_cases e : z = y
   ·
    rw [if_pos e] at hz
    obtain rfl := Option.some.inj hz
    obtain ⟨q, hw⟩ := hs x a hx
    rw [e]
    exact ⟨q + 1, .cons hl hu (by omega) hw⟩
   · rw [if_neg e] at hz; exact hs z v hz
  simp only
  cases hb : tget s.1 y with
  | none =>
   refine ⟨key (fun b h => by rw [hb] at h; cases h), fun a' h => ?_⟩
   obtain rfl := Option.some.inj h
   exact ⟨_, by rw [hg, if_pos rfl], Int.le_refl _⟩
  | some b =>
   simp only
   by_cases hlt : a + l.long < b
   ·
    rw [if_pos hlt]
    refine ⟨key (fun b' h => by rw [hb] at h; obtain rfl := Option.some.inj h; omega), fun a' h => ?_⟩
    obtain rfl := Option.some.inj h
    exact ⟨_, by rw [hg, if_pos rfl], Int.le_refl _⟩
   rw [if_neg hlt]
   refine ⟨StepT.refl hlen, fun a' h => ?_⟩
   obtain rfl := Option.some.inj h
   exact ⟨b, hb, by omega⟩
theorem lgT_step (hls : ∀ l ∈ ls, LgOk n l) {l : Lg} (hl : l ∈ ls) {s : TM × Bool} (hlen : s.1.length = n) :
  StepT ls u d n s (lgT u s l) /\ (u l = true -> ∀ x y, (l.a = x /\ l.b = y ∨ l.b = x /\ l.a = y) -> ∀ a, tget s.1 x = some a -> ∃ b, tget (lgT u s l).1 y = some b /\ b <= a + l.long) := by
 unfold lgT
 by_cases hu : u l = true
 ·
  rw [if_pos hu]
  have ha := (hls l hl).a
  have hb := (hls l hl).b
  obtain ⟨s1, r1⟩ := relT_step (d := d) hl hu (x := l.a) (y := l.b) (.inl ⟨rfl, rfl⟩) (by omega) hlen
  obtain ⟨s2, r2⟩ := relT_step (d := d) hl hu (x := l.b) (y := l.a) (.inr ⟨rfl, rfl⟩) (by omega) s1.len
  refine ⟨s1.trans s2, fun _ x y hxy a hx => ?_⟩
  rcases hxy with ⟨rfl, rfl⟩ | ⟨rfl, rfl⟩
  ·
   obtain ⟨b, e, hb⟩ := r1 a hx
   obtain ⟨b', e', hb'⟩ := s2.mon _ _ e
   exact ⟨b', e', by omega⟩
  obtain ⟨a', e, ha'⟩ := s1.mon _ _ hx
  obtain ⟨b', e', hb'⟩ := r2 a' e
  exact ⟨b', e', by omega⟩
 rw [if_neg hu]
 exact ⟨StepT.refl hlen, fun h => absurd h hu⟩
theorem foldT_step (hls : ∀ l ∈ ls, LgOk n l) : ∀ (L : List Lg), (∀ l ∈ L, l ∈ ls) -> ∀ (s : TM × Bool), s.1.length = n →
  StepT ls u d n s (L.foldl (lgT u) s) /\ ∀ l ∈ L, u l = true -> ∀ x y, (l.a = x /\ l.b = y ∨ l.b = x /\ l.a = y) -> ∀ a, tget s.1 x = some a -> ∃ b, tget (L.foldl (lgT u) s).1 y = some b /\ b <= a + l.long
 | [], _, s, h => ⟨StepT.refl h, fun l hl => by cases hl⟩
 | l0 :: L, hL, s, h => by
  obtain ⟨s1, r1⟩ := lgT_step (u := u) (d := d) hls (hL l0 (.head _)) h
  obtain ⟨s2, r2⟩ := foldT_step hls L (fun l hl => hL l (.tail _ hl)) (lgT u s l0) s1.len
  refine ⟨s1.trans s2, fun l hl hu x y hxy a hx => ?_⟩
  rcases List.mem_cons.1 hl with rfl | hl
  ·
   obtain ⟨b, e, hb⟩ := r1 hu x y hxy a hx
   obtain ⟨b', e', hb'⟩ := s2.mon _ _ e
   exact ⟨b', e', by omega⟩
  obtain ⟨a', e, ha'⟩ := s1.mon _ _ hx
  obtain ⟨b', e', hb'⟩ := r2 l hl hu x y hxy a' e
  exact ⟨b', e', by omega⟩
theorem rndT_step (hls : ∀ l ∈ ls, LgOk n l) {m : TM} (hlen : m.length = n) :
  StepT ls u d n (m, false) (rndT ls u m) /\ ∀ l ∈ ls, u l = true -> ∀ x y, (l.a = x /\ l.b = y ∨ l.b = x /\ l.a = y) -> ∀ a, tget m x = some a -> ∃ b, tget (rndT ls u m).1 y = some b /\ b <= a + l.long :=
 foldT_step hls ls (fun _ h => h) (m, false) hlen
theorem InvT.next (hls : ∀ l ∈ ls, LgOk n l) {m : TM} (hlen : m.length = n) {k : Nat} (h : InvT ls u d k m) : InvT ls u d (k + 1) (rndT ls u m).1 := by
 obtain ⟨st, r⟩ := rndT_step (u := u) (d := d) hls hlen
 intro x p q hw hq
 cases hw with
 | nil =>
  obtain ⟨v, e, hv⟩ := h d 0 0 .nil (by omega)
  obtain ⟨v', e', hv'⟩ := st.mon _ _ e
  exact ⟨v', e', by omega⟩
 | @cons l x y p q hl hu hxy hw =>
  obtain ⟨v, e, hv⟩ := h y p q hw (by omega)
  obtain ⟨b, e', hb⟩ := r l hl hu y x (by omega) v e
  exact ⟨b, e', by omega⟩
theorem SndT.time0 (hd : 0 <= d /\ d < n) : SndT ls u d (time0 n d) := by
 intro x v h
 unfold Go.Proofs.Ytlefmbjipdlcfaa.time0 at h
 rw [tget_set (by rw [List.length_replicate]; exact hd)] at h
 split at h
 ·
  rename_i e
  obtain rfl := Option.some.inj h
  rw [e]
  exact ⟨0, .nil⟩
 · rw [tget_none] at h; cases h
theorem InvT.time0 (hls : ∀ l ∈ ls, LgOk n l) (hd : 0 <= d /\ d < n) : InvT ls u d 0 (time0 n d) := by
 intro x p q hw hq
 have h0 := hw.nonneg hls
 cases hw with
 | nil =>
  unfold Go.Proofs.Ytlefmbjipdlcfaa.time0
  rw [tget_set (by rw [List.length_replicate]; exact hd), if_pos rfl]
  exact ⟨0, rfl, Int.le_refl 0⟩
 | cons _ _ _ hw =>
  have := hw.nonneg hls
  omega
theorem InvT.mono {k k' : Nat} {m : TM} (h : InvT ls u d k m) (hk : k' <= k) : InvT ls u d k' m := fun x p q hw hq => h x p q hw (by omega)
theorem relT_rest (hls : ∀ l ∈ ls, LgOk n l) (hd : 0 <= d /\ d < n) {m : TM} (hs : SndT ls u d m) {k : Nat} (hi : InvT ls u d k m) (hk : n <= k + 1) {l : Lg} (hl : l ∈ ls) (hu : u l = true) {x y : Int} (hxy : l.a = x /\ l.b = y ∨ l.b = x /\ l.a = y) (o : Bool) : relT x y l.long (m, o) = (m, o) := by
 unfold relT
 cases hx : tget m x with
 | none => simp only [hx]
 | some a =>
  simp only [hx]
  obtain ⟨q, hw⟩ := hs x a hx
  obtain ⟨p', q', hw', hp', _, hq'⟩ := (Wy.cons hl hu (by omega) hw : Wy ls u d y (a + l.long) (q + 1)).short hls hd
  obtain ⟨v, e, hv⟩ := hi y p' q' hw' (by omega)
  rw [e]
  simp only
  rw [if_neg (by omega)]
theorem rndT_rest (hls : ∀ l ∈ ls, LgOk n l) (hd : 0 <= d /\ d < n) {m : TM} (hs : SndT ls u d m) {k : Nat} (hi : InvT ls u d k m) (hk : n <= k + 1) : rndT ls u m = (m, false) := by
 have key : ∀ L : List Lg, (∀ l ∈ L, l ∈ ls) -> L.foldl (lgT u) (m, false) = (m, false) := by
  intro L
  induction L with
  | nil => intro _; rfl
  | cons l0 L ih =>
   intro hL
   have e : lgT u (m, false) l0 = (m, false) := by
    unfold lgT
    by_cases hu : u l0 = true
    · rw [if_pos hu, relT_rest hls hd hs hi hk (hL l0 (.head _)) hu (.inl ⟨rfl, rfl⟩), relT_rest hls hd hs hi hk (hL l0 (.head _)) hu (.inr ⟨rfl, rfl⟩)]
    · rw [if_neg hu]
   rw [List.foldl_cons, e]
   exact ih fun l hl => hL l (.tail _ hl)
 exact key ls fun _ h => h
structure LeastT (ls : List Lg) (u : Lg -> Bool) (d : Int) (n : Nat) (m : TM) : Prop where
 len : m.length = n
 snd : SndT ls u d m
 all : ∀ x p q, Wy ls u d x p q -> ∃ v, tget m x = some v /\ v <= p
theorem leastT_of (hls : ∀ l ∈ ls, LgOk n l) {m : TM} (hlen : m.length = n) (hs : SndT ls u d m) (h0 : InvT ls u d 0 m) (h : (rndT ls u m).2 = false) : LeastT ls u d n m := by
 have e : (rndT ls u m).1 = m := by rw [(rndT_step (u := u) (d := d) hls hlen).1.no h]
 have hk : ∀ k, InvT ls u d k m := by
  intro k
  induction k with
  | zero => exact h0
  | succ k ih => have := ih.next hls hlen; rwa [e] at this
 refine ⟨hlen, hs, fun x p q hw => ?_⟩
 have := hw.nonneg hls
 exact hk q.toNat x p q hw (by omega)
theorem dsT_ends (hls : ∀ l ∈ ls, LgOk n l) (hd : 0 <= d /\ d < n) : ∀ (j k : Nat) (m : TM), n <= k + j + 1 -> m.length = n -> SndT ls u d m -> InvT ls u d k m -> ∃ mf, dsT ls u (j + 1) m = some mf /\ LeastT ls u d n mf
 | 0, k, m, hn, hlen, hs, hi => by
  have h := rndT_rest hls hd hs hi (by omega)
  refine ⟨m, by rw [dsT, h]; rfl, ?_⟩
  exact leastT_of hls hlen hs (hi.mono (Nat.zero_le _)) (by rw [h])
 | j + 1, k, m, hn, hlen, hs, hi => by
  have st := (rndT_step (d := d) (u := u) hls hlen).1
  by_cases h : (rndT ls u m).2 = true
  ·
   obtain ⟨mf, e, hm⟩ := dsT_ends hls hd j (k + 1) (rndT ls u m).1 (by omega) st.len (st.snd hs) (hi.next hls hlen)
   exact ⟨mf, by rw [dsT, if_pos h]; exact e, hm⟩
  have h' : (rndT ls u m).2 = false := by simpa using h
  have e : (rndT ls u m).1 = m := by rw [st.no h']
  refine ⟨m, by rw [dsT, if_neg h, e], ?_⟩
  exact leastT_of hls hlen hs (hi.mono (Nat.zero_le _)) h'
theorem dsT_time0 (hls : ∀ l ∈ ls, LgOk n l) (hd : 0 <= d /\ d < n) : ∃ mf, dsT ls u (n + 1) (time0 n d) = some mf /\ LeastT ls u d n mf :=
 dsT_ends hls hd n 0 (time0 n d) (by omega) (by simp [time0, tset]) (SndT.time0 hd) (InvT.time0 hls hd)
theorem Wy.back {x p q : Int} (h : Wy ls u d x p q) : Wy ls u x d p q := by
 induction h with
 | nil => exact .nil
 | @cons l x y p q hl hu hxy _ ih =>
  have h1 := (Wy.cons hl hu (by omega) .nil : Wy ls u x y (0 + l.long) (0 + 1))
  have h2 := Wy.app ih h1
  rwa [show 0 + l.long + p = p + l.long by omega, show 0 + 1 + q = q + 1 by omega] at h2
def perT (m : TM) (x : Int) : Int := match tget m x with | none => -1 | some v => v
theorem time_far (hls : ∀ l ∈ ls, LgOk n l) {m : TM} {x : Int} (hd : 0 <= d /\ d < n) (hx : 0 <= x /\ x < n) (h : LeastT ls u d n m) : perT m x = mget (lenM ls u n) d.toNat x.toNat := by
 obtain ⟨_, h1, h2⟩ := lenM_ok (u := u) hls
 have hs := h1 d.toNat x.toNat (by omega) (by omega)
 rw [Int.toNat_of_nonneg hd.1, Int.toNat_of_nonneg hx.1] at hs
 have hi := h2 d.toNat x.toNat (by omega) (by omega)
 rw [Int.toNat_of_nonneg hd.1, Int.toNat_of_nonneg hx.1] at hi
 unfold perT
 cases e : tget m x with
 | none =>
  simp only
  rcases hs with hs | ⟨q, hw⟩
  · exact hs.symm
  obtain ⟨v, e', _⟩ := h.all x _ _ hw.back
  rw [e] at e'; cases e'
 | some v =>
  simp only
  obtain ⟨q, hw⟩ := h.snd x v e
  have h3 := hi v (hw.back.wi hls hx)
  rcases hs with hs | ⟨q2, hw2⟩
  · omega
  obtain ⟨v', e', hv'⟩ := h.all x _ _ hw2.back
  rw [e] at e'
  obtain rfl := Option.some.inj e'
  omega
end
end Go.Proofs.Ytlefmbjipdlcfaa
