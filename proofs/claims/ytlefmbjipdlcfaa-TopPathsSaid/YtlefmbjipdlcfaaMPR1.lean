/- build: the rounds over the legs find the least ways (length first, then number of legs), within as many rounds as there are nodes; and the path that is read off. Plain maths. -/
import Derived.Test.YtlefmbjipdlcfaaMN5
set_option linter.unusedVariables false
set_option linter.unusedSimpArgs false
set_option linter.unnecessarySimpa false
namespace Go.Proofs.Ytlefmbjipdlcfaa
set_option maxRecDepth 100000
inductive Wy (ls : List Lg) (u : Lg -> Bool) (d : Int) : Int -> Int -> Int -> Prop
 | nil : Wy ls u d d 0 0
 | cons {l : Lg} {x y p q : Int} : l ∈ ls -> u l = true -> (l.a = x /\ l.b = y ∨ l.b = x /\ l.a = y) -> Wy ls u d y p q -> Wy ls u d x (p + l.long) (q + 1)
def leF (v w : Int × Int) : Prop := v.1 < w.1 ∨ v.1 = w.1 /\ v.2 <= w.2
theorem leF.refl (v : Int × Int) : leF v v := .inr ⟨rfl, Int.le_refl _⟩
theorem leF.trans {a b c : Int × Int} (h : leF a b) (h2 : leF b c) : leF a c := by unfold leF at *; omega
theorem leF.tot {a b : Int × Int} (h : ¬ leF a b) : leF b a := by unfold leF at *; omega
theorem leF.add {a b : Int × Int} (h : leF a b) (p q : Int) : leF (a.1 + p, a.2 + q) (b.1 + p, b.2 + q) := by unfold leF at *; simp only; omega
theorem lessF_iff {v w : Int × Int} : lessF v w = true ↔ ¬ leF w v := by
 unfold lessF leF cmpI
 rw [decide_eq_true_iff]
 simp only [fstE]
 split <;> split <;> (try split) <;> (try split) <;> omega
section
variable {ls : List Lg} {u : Lg -> Bool} {d : Int} {n : Nat}
theorem Wy.nonneg (hls : ∀ l ∈ ls, LgOk n l) {x p q : Int} (h : Wy ls u d x p q) : 0 <= q /\ q <= p := by
 induction h with
 | nil => omega
 | cons hl _ _ _ ih => have := (hls _ hl).long; omega
theorem Wy.inR (hls : ∀ l ∈ ls, LgOk n l) (hd : 0 <= d /\ d < n) {x p q : Int} (h : Wy ls u d x p q) : 0 <= x /\ x < n := by
 cases h with
 | nil => exact hd
 | cons hl _ hx _ => have h1 := (hls _ hl).a; have h2 := (hls _ hl).b; omega
inductive WyN (ls : List Lg) (u : Lg -> Bool) (d : Int) : List Int -> Int -> Int -> Int -> Prop
 | nil : WyN ls u d [d] d 0 0
 | cons {l : Lg} {x y p q : Int} {ns : List Int} : l ∈ ls -> u l = true -> (l.a = x /\ l.b = y ∨ l.b = x /\ l.a = y) -> WyN ls u d ns y p q -> WyN ls u d (x :: ns) x (p + l.long) (q + 1)
theorem WyN.wy {ns : List Int} {x p q : Int} (h : WyN ls u d ns x p q) : Wy ls u d x p q := by
 induction h with
 | nil => exact .nil
 | cons h1 h2 h3 _ ih => exact .cons h1 h2 h3 ih
theorem WyN.len {ns : List Int} {x p q : Int} (h : WyN ls u d ns x p q) : (ns.length : Int) = q + 1 := by
 induction h with
 | nil => rfl
 | cons _ _ _ _ ih => rw [List.length_cons]; push_cast; omega
theorem WyN.inR (hls : ∀ l ∈ ls, LgOk n l) (hd : 0 <= d /\ d < n) {ns : List Int} {x p q : Int} (h : WyN ls u d ns x p q) : ∀ z ∈ ns, 0 <= z /\ z < n := by
 induction h with
 | nil => intro z hz; rw [List.mem_singleton.1 hz]; exact hd
 | cons hl _ hx _ ih =>
  intro z hz
  rcases List.mem_cons.1 hz with rfl | hz
  · have h1 := (hls _ hl).a; have h2 := (hls _ hl).b; omega
  · exact ih z hz
theorem WyN.cut (hls : ∀ l ∈ ls, LgOk n l) {ns : List Int} {y p q : Int} (h : WyN ls u d ns y p q) {x : Int} (hx : x ∈ ns) (hn : ns.Nodup) :
  ∃ ns' p' q', WyN ls u d ns' x p' q' /\ p' <= p /\ q' <= q /\ ns'.Nodup := by
 induction h with
 | nil => rw [List.mem_singleton.1 hx]; exact ⟨_, _, _, .nil, Int.le_refl _, Int.le_refl _, hn⟩
 | cons h1 h2 h3 h4 ih =>
  rcases List.mem_cons.1 hx with rfl | hx
  · exact ⟨_, _, _, .cons h1 h2 h3 h4, Int.le_refl _, Int.le_refl _, hn⟩
  obtain ⟨ns', p', q', a, b, c, e⟩ := ih hx (List.nodup_cons.1 hn).2
  have := (hls _ h1).long
  exact ⟨ns', p', q', a, by omega, by omega, e⟩
theorem Wy.simple (hls : ∀ l ∈ ls, LgOk n l) {x p q : Int} (h : Wy ls u d x p q) : ∃ ns p' q', WyN ls u d ns x p' q' /\ p' <= p /\ q' <= q /\ ns.Nodup := by
 induction h with
 | nil => exact ⟨_, _, _, .nil, Int.le_refl _, Int.le_refl _, by simp⟩
 | cons h1 h2 h3 _ ih =>
  rename_i l x y p q hw
  obtain ⟨ns, p', q', a, b, c, e⟩ := ih
  have hlo := (hls _ h1).long
  by_cases hx : x ∈ ns
  ·
   obtain ⟨ns2, p2, q2, a2, b2, c2, e2⟩ := a.cut hls hx e
   exact ⟨ns2, p2, q2, a2, by omega, by omega, e2⟩
  · exact ⟨_, _, _, .cons h1 h2 h3 a, by omega, by omega, List.nodup_cons.2 ⟨hx, e⟩⟩
theorem nodup_le : ∀ (n : Nat) (l : List Int), l.Nodup -> (∀ z ∈ l, 0 <= z /\ z < n) -> l.length <= n
 | 0, l, _, h => by
  cases l with
  | nil => exact Nat.le_refl _
  | cons x l => have := h x (.head _); omega
 | n + 1, l, hn, h => by
  have h1 := nodup_le n (l.erase (n : Int)) (hn.erase _) (fun z hz => by
   have h2 := (hn.mem_erase_iff).1 hz
   have h3 := h z h2.2
   have h4 := h2.1
   omega)
  have h5 := List.length_erase (a := (n : Int)) (l := l)
  split at h5 <;> omega
theorem Wy.short (hls : ∀ l ∈ ls, LgOk n l) (hd : 0 <= d /\ d < n) {x p q : Int} (h : Wy ls u d x p q) : ∃ p' q', Wy ls u d x p' q' /\ p' <= p /\ q' <= q /\ q' < n := by
 obtain ⟨ns, p', q', a, b, c, e⟩ := h.simple hls
 have h1 := a.len
 have h2 := nodup_le n ns e (a.inR hls hd)
 exact ⟨p', q', a.wy, b, c, by omega⟩
/-! ### one leg, one direction -/
def SndF (ls : List Lg) (u : Lg -> Bool) (d : Int) (m : FM) : Prop := ∀ x v, fget m x = some v -> Wy ls u d x v.1 v.2
def InvF (ls : List Lg) (u : Lg -> Bool) (d : Int) (k : Nat) (m : FM) : Prop := ∀ x p q, Wy ls u d x p q -> q <= k -> ∃ v, fget m x = some v /\ leF v (p, q)
def MonF (m m' : FM) : Prop := ∀ z v, fget m z = some v -> ∃ v', fget m' z = some v' /\ leF v' v
theorem MonF.refl (m : FM) : MonF m m := fun _ v h => ⟨v, h, leF.refl v⟩
theorem MonF.trans {a b c : FM} (h : MonF a b) (h2 : MonF b c) : MonF a c := fun z v e => by
 obtain ⟨v1, e1, l1⟩ := h z v e
 obtain ⟨v2, e2, l2⟩ := h2 z v1 e1
 exact ⟨v2, e2, l2.trans l1⟩
theorem oth_is {l : Lg} (hl : LgOk n l) {x y : Int} (h : l.a = x /\ l.b = y ∨ l.b = x /\ l.a = y) : oth l x = y := by
 unfold oth
 have := hl.ne
 split
 · omega
 · rw [if_pos (by omega)]; omega
theorem oth_ok {l : Lg} (hl : LgOk n l) {x : Int} (h : x = l.a ∨ x = l.b) : (l.a = x /\ l.b = oth l x ∨ l.b = x /\ l.a = oth l x) /\ 0 <= oth l x := by
 have h1 := hl.a; have h2 := hl.b; have h3 := hl.ne
 unfold oth
 split
 · omega
 · rw [if_pos (by omega)]; omega
theorem relx_all (hls : ∀ l ∈ ls, LgOk n l) {l : Lg} (hl : l ∈ ls) {x : Int} (hx : x = l.a ∨ x = l.b) {s : FM × Bool} (hlen : s.1.length = n) :
  (relx l x s).1.length = n /\ MonF s.1 (relx l x s).1 /\ (∀ v, fget s.1 (oth l x) = some v -> ∃ v', fget (relx l x s).1 x = some v' /\ leF v' (v.1 + l.long, v.2 + 1)) /\ (u l = true -> SndF ls u d s.1 -> SndF ls u d (relx l x s).1) ∧
  (relx l x s = s ∨ ((relx l x s).2 = true /\ ∃ v, fget s.1 (oth l x) = some v /\ ∀ v', fget s.1 x = some v' -> ¬ leF v' (v.1 + l.long, v.2 + 1))) := by
 have ho := oth_ok (hls l hl) hx
 have hxb : 0 <= x /\ x < s.1.length := by have h1 := (hls l hl).a; have h2 := (hls l hl).b; omega
 rcases h : fget s.1 (oth l x) with _ | ⟨p, q⟩
 ·
  have e : relx l x s = s := by obtain ⟨m, o⟩ := s; exact relx_no h
  rw [e]
  exact ⟨hlen, MonF.refl _, (fun v hv => by cases hv), fun _ h => h, .inl rfl⟩
 have hset : ∀ (hno : ∀ v', fget s.1 x = some v' -> ¬ leF v' (p + l.long, q + 1)) (he : relx l x s = (fset s.1 x (p + l.long, q + 1), true)),
   (relx l x s).1.length = n /\ MonF s.1 (relx l x s).1 /\ (∀ v, some (p, q) = some v -> ∃ v', fget (relx l x s).1 x = some v' /\ leF v' (v.1 + l.long, v.2 + 1)) /\ (u l = true -> SndF ls u d s.1 -> SndF ls u d (relx l x s).1) ∧
   (relx l x s = s ∨ ((relx l x s).2 = true /\ ∃ v, some (p, q) = some v /\ ∀ v', fget s.1 x = some v' -> ¬ leF v' (v.1 + l.long, v.2 + 1))) := by
  intro hno he
  rw [he]
  refine ⟨by simp [fset, hlen], fun z v hz => ?_, fun v hv => ?_, fun hu hs z v hz => ?_, .inr ⟨rfl, (p, q), rfl, hno⟩⟩
  ·
   rw [fget_set hxb]
   by_cases e : z = x
   ·
    subst e
    rw [if_pos rfl]
    exact ⟨_, rfl, leF.tot (hno v hz)⟩
   · rw [if_neg e]; exact ⟨v, hz, leF.refl v⟩
  ·
   obtain rfl := Option.some.inj hv
   rw [fget_set hxb, if_pos rfl]
   exact ⟨_, rfl, leF.refl _⟩
  rw [fget_set hxb] at hz
  by_cases e : z = x
  ·
   subst e
   rw [if_pos rfl] at hz
   obtain rfl := Option.some.inj hz
   exact .cons hl hu ho.1 (hs _ _ h)
  · rw [if_neg e] at hz; exact hs z v hz
 rcases h2 : fget s.1 x with _ | ⟨p2, q2⟩
 ·
  rw [h2] at hset
  exact hset (fun v' e => by cases e) (by obtain ⟨m, o⟩ := s; exact relx_new h h2)
 by_cases h3 : lessF (p + l.long, q + 1) (p2, q2) = true
 ·
  rw [h2] at hset
  refine hset (fun v' e => by obtain rfl := Option.some.inj e; exact lessF_iff.1 h3) ?_
  obtain ⟨m, o⟩ := s
  unfold relx
  simp only [h, h2, h3, if_true]
 have e : relx l x s = s := by
  obtain ⟨m, o⟩ := s
  unfold relx
  simp only at h h2
  simp only [h, h2]
  rw [if_neg h3]
 rw [e]
 refine ⟨hlen, MonF.refl _, fun v hv => ?_, fun _ h => h, .inl rfl⟩
 obtain rfl := Option.some.inj hv
 refine ⟨_, h2, ?_⟩
 exact Classical.byContradiction fun hc => h3 (lessF_iff.2 hc)
def Edg (l : Lg) (x y : Int) : Prop := l.a = x /\ l.b = y ∨ l.b = x /\ l.a = y
def Imp (ls : List Lg) (u : Lg -> Bool) (m : FM) : Prop := ∃ l ∈ ls, u l = true /\ ∃ x y v, Edg l x y /\ fget m y = some v /\ ∀ v', fget m x = some v' -> ¬ leF v' (v.1 + l.long, v.2 + 1)
structure StepF (ls : List Lg) (u : Lg -> Bool) (d : Int) (n : Nat) (L : List Lg) (s s' : FM × Bool) : Prop where
 len : s'.1.length = n
 mon : MonF s.1 s'.1
 rel : ∀ l ∈ L, u l = true -> ∀ x y v, Edg l x y -> fget s.1 y = some v -> ∃ v', fget s'.1 x = some v' /\ leF v' (v.1 + l.long, v.2 + 1)
 snd : SndF ls u d s.1 -> SndF ls u d s'.1
 flag : s.2 = true -> s'.2 = true
 imp : s' = s ∨ (s'.2 = true /\ Imp ls u s.1)
theorem leF.addL {a b : Int × Int} (h : leF a b) (p q : Int) : leF (a.1 + p, a.2 + q) (b.1 + p, b.2 + q) := h.add p q
theorem StepF.nil {s : FM × Bool} (h : s.1.length = n) : StepF ls u d n [] s s := ⟨h, MonF.refl _, (fun l hl => by cases hl), id, id, .inl rfl⟩
theorem StepF.trans {L L' : List Lg} {a b c : FM × Bool} (h : StepF ls u d n L a b) (h2 : StepF ls u d n L' b c) : StepF ls u d n (L ++ L') a c := by
 refine ⟨h2.len, h.mon.trans h2.mon, fun l hl hu x y v he hy => ?_, fun hs => h2.snd (h.snd hs), fun hf => h2.flag (h.flag hf), ?_⟩
 ·
  rcases List.mem_append.1 hl with hl | hl
  ·
   obtain ⟨v', e, hv⟩ := h.rel l hl hu x y v he hy
   obtain ⟨v2, e2, hv2⟩ := h2.mon x v' e
   exact ⟨v2, e2, hv2.trans hv⟩
  obtain ⟨v', e, hv⟩ := h.mon y v hy
  obtain ⟨v2, e2, hv2⟩ := h2.rel l hl hu x y v' he e
  exact ⟨v2, e2, hv2.trans (hv.addL _ _)⟩
 rcases h.imp with rfl | ⟨hf, hi⟩
 ·
  rcases h2.imp with rfl | ⟨hf, hi⟩
  · exact .inl rfl
  · exact .inr ⟨hf, hi⟩
 · exact .inr ⟨h2.flag hf, hi⟩
theorem relx_step (hls : ∀ l ∈ ls, LgOk n l) {l : Lg} (hl : l ∈ ls) (hu : u l = true) {x : Int} (hx : x = l.a ∨ x = l.b) {s : FM × Bool} (hlen : s.1.length = n) :
  StepF ls u d n [] s (relx l x s) := by
 obtain ⟨h1, h2, _, h4, h5⟩ := relx_all (d := d) (u := u) hls hl hx hlen
 refine ⟨h1, h2, (fun l hl => by cases hl), h4 hu, fun hf => ?_, ?_⟩
 ·
  rcases h5 with e | ⟨e, _⟩
  · rw [e]; exact hf
  · exact e
 rcases h5 with e | ⟨e, v, h6, h7⟩
 · exact .inl e
 · exact .inr ⟨e, l, hl, hu, x, _, v, (oth_ok (hls l hl) hx).1, h6, h7⟩
theorem lgx_step (hls : ∀ l ∈ ls, LgOk n l) {l : Lg} (hl : l ∈ ls) {s : FM × Bool} (hlen : s.1.length = n) : StepF ls u d n [l] s (lgx u s l) := by
 by_cases hu : u l = true
 ·
  have e : lgx u s l = relx l l.b (relx l l.a s) := by rw [lgx, if_pos hu]
  have s1 := relx_step (d := d) hls hl hu (.inl rfl) hlen
  have s2 := relx_step (d := d) hls hl hu (.inr rfl) s1.len
  have a1 := relx_all (d := d) (u := u) hls hl (.inl rfl) hlen
  have a2 := relx_all (d := d) (u := u) hls hl (.inr rfl) s1.len
  have st := s1.trans s2
  rw [e]
  refine ⟨st.len, st.mon, fun l' hl' _ x y v he hy => ?_, st.snd, st.flag, st.imp⟩
  obtain rfl := List.mem_singleton.1 hl'
  rcases he with ⟨h1, h2⟩ | ⟨h1, h2⟩
  ·
   subst h1
   have eo : oth l' l'.a = y := oth_is (hls _ hl) (.inl ⟨rfl, h2⟩)
   obtain ⟨v', e', hv⟩ := a1.2.2.1 v (by rw [eo]; exact hy)
   obtain ⟨v2, e2, hv2⟩ := s2.mon _ v' e'
   exact ⟨v2, e2, hv2.trans hv⟩
  subst h1
  have eo : oth l' l'.b = y := oth_is (hls _ hl) (.inr ⟨rfl, h2⟩)
  obtain ⟨v1, e1, hv1⟩ := s1.mon _ v hy
  obtain ⟨v', e', hv⟩ := a2.2.2.1 v1 (by rw [eo]; exact e1)
  exact ⟨v', e', hv.trans (hv1.addL _ _)⟩
 have e : lgx u s l = s := by rw [lgx, if_neg hu]
 rw [e]
 refine ⟨hlen, MonF.refl _, fun l' hl' hu' => ?_, id, id, .inl rfl⟩
 obtain rfl := List.mem_singleton.1 hl'
 exact absurd hu' hu
theorem fold_step (hls : ∀ l ∈ ls, LgOk n l) : ∀ (L : List Lg), (∀ l ∈ L, l ∈ ls) -> ∀ (s : FM × Bool), s.1.length = n -> StepF ls u d n L s (L.foldl (lgx u) s)
 | [], _, s, hlen => StepF.nil hlen
 | l :: L, h, s, hlen => by
  have s1 := lgx_step (d := d) (u := u) hls (h l (.head _)) hlen
  have s2 := fold_step hls L (fun l' h' => h l' (.tail _ h')) (lgx u s l) s1.len
  exact s1.trans s2
/-! ### the rounds -/
theorem rnd_step (hls : ∀ l ∈ ls, LgOk n l) {m : FM} (hlen : m.length = n) : StepF ls u d n ls (m, false) (rndF ls u m) := fold_step hls ls (fun _ h => h) (m, false) hlen
theorem InvF.next (hls : ∀ l ∈ ls, LgOk n l) {m : FM} (hlen : m.length = n) {k : Nat} (h : InvF ls u d k m) : InvF ls u d (k + 1) (rndF ls u m).1 := by
 have st := rnd_step (d := d) (u := u) hls hlen
 intro x p q hw hq
 cases hw with
 | nil =>
  obtain ⟨v, e, hv⟩ := h d 0 0 .nil (by omega)
  obtain ⟨v', e', hv'⟩ := st.mon d v e
  exact ⟨v', e', hv'.trans hv⟩
 | cons h1 h2 h3 h4 =>
  obtain ⟨v, e, hv⟩ := h _ _ _ h4 (by push_cast at hq; omega)
  obtain ⟨v', e', hv'⟩ := st.rel _ h1 h2 _ _ v h3 e
  exact ⟨v', e', hv'.trans (hv.addL _ _)⟩
theorem SndF.far0 (hd : 0 <= d /\ d < n) : SndF ls u d (far0 n d) := by
 intro x v h
 unfold Go.Proofs.Ytlefmbjipdlcfaa.far0 at h
 rw [fget_set (by simpa using hd)] at h
 split at h
 ·
  rename_i e
  obtain rfl := Option.some.inj h
  subst e
  exact .nil
 unfold fget at h
 split at h
 ·
  rw [List.getD_eq_getElem?_getD, List.getElem?_replicate] at h
  split at h <;> cases h
 · cases h
theorem InvF.far0 (hls : ∀ l ∈ ls, LgOk n l) (hd : 0 <= d /\ d < n) : InvF ls u d 0 (far0 n d) := by
 intro x p q h hq
 cases h with
 | nil =>
  refine ⟨(0, 0), ?_, leF.refl _⟩
  unfold Go.Proofs.Ytlefmbjipdlcfaa.far0
  rw [fget_set (by simpa using hd), if_pos rfl]
 | cons h1 h2 h3 h4 => have := h4.nonneg hls; omega
theorem rnd_rest (hls : ∀ l ∈ ls, LgOk n l) (hd : 0 <= d /\ d < n) {m : FM} (hlen : m.length = n) (hs : SndF ls u d m) {k : Nat} (h : InvF ls u d k m) (hk : n <= k + 1) : (rndF ls u m).2 = false := by
 rcases (rnd_step (d := d) (u := u) hls hlen).imp with e | ⟨_, l, hl, hu, x, y, v, he, hy, hno⟩
 · rw [e]
 have hw : Wy ls u d x (v.1 + l.long) (v.2 + 1) := .cons hl hu he (hs y v hy)
 obtain ⟨p', q', a, b, c, e⟩ := hw.short hls hd
 obtain ⟨v', e', hv⟩ := h x p' q' a (by omega)
 refine absurd (hv.trans ?_) (hno v' e')
 unfold leF
 simp only
 omega
theorem rnd_same (hls : ∀ l ∈ ls, LgOk n l) {m : FM} (hlen : m.length = n) (h : (rndF ls u m).2 = false) : (rndF ls u m).1 = m := by
 rcases (rnd_step (d := 0) (u := u) hls hlen).imp with e | ⟨e, _⟩
 · rw [e]
 · rw [e] at h; cases h
structure Least (ls : List Lg) (u : Lg -> Bool) (d : Int) (n : Nat) (m : FM) : Prop where
 len : m.length = n
 snd : SndF ls u d m
 all : ∀ x p q, Wy ls u d x p q -> ∃ v, fget m x = some v /\ leF v (p, q)
theorem least_of (hls : ∀ l ∈ ls, LgOk n l) {m : FM} (hlen : m.length = n) (hs : SndF ls u d m) (h0 : InvF ls u d 0 m) (h : (rndF ls u m).2 = false) : Least ls u d n m := by
 have e := rnd_same hls hlen h
 have hk : ∀ k, InvF ls u d k m := by
  intro k
  induction k with
  | zero => exact h0
  | succ k ih => have := ih.next hls hlen; rwa [e] at this
 refine ⟨hlen, hs, fun x p q hw => ?_⟩
 have := hw.nonneg hls
 exact hk q.toNat x p q hw (by omega)
theorem InvF.mono {k k' : Nat} {m : FM} (h : InvF ls u d k m) (hk : k' <= k) : InvF ls u d k' m := fun x p q hw hq => h x p q hw (by omega)
theorem dst_ends (hls : ∀ l ∈ ls, LgOk n l) (hd : 0 <= d /\ d < n) : ∀ (j k : Nat) (m : FM), n <= k + j + 1 -> m.length = n -> SndF ls u d m -> InvF ls u d k m -> ∃ mf, dst ls u (j + 1) m = some mf /\ Least ls u d n mf
 | 0, k, m, hn, hlen, hs, hi => by
  have h := rnd_rest hls hd hlen hs hi (by omega)
  refine ⟨(rndF ls u m).1, by rw [dst, h]; rfl, ?_⟩
  rw [rnd_same hls hlen h]
  exact least_of hls hlen hs (hi.mono (Nat.zero_le _)) h
 | j + 1, k, m, hn, hlen, hs, hi => by
  have st := rnd_step (d := d) (u := u) hls hlen
  by_cases h : (rndF ls u m).2 = true
  ·
   obtain ⟨mf, e, hm⟩ := dst_ends hls hd j (k + 1) (rndF ls u m).1 (by omega) st.len (st.snd hs) (hi.next hls hlen)
   exact ⟨mf, by rw [dst, if_pos h]; exact e, hm⟩
  have h' : (rndF ls u m).2 = false := by simpa using h
  refine ⟨(rndF ls u m).1, by rw [dst, if_neg h], ?_⟩
  rw [rnd_same hls hlen h']
  exact least_of hls hlen hs (hi.mono (Nat.zero_le _)) h'
theorem dst_far0 (hls : ∀ l ∈ ls, LgOk n l) (hd : 0 <= d /\ d < n) : ∃ mf, dst ls u (n + 1) (far0 n d) = some mf /\ Least ls u d n mf :=
 dst_ends hls hd n 0 (far0 n d) (by omega) (by simp [far0, fset]) (SndF.far0 hd) (InvF.far0 hls hd)
/-! ### the path -/
theorem Least.zero (hls : ∀ l ∈ ls, LgOk n l) {m : FM} (h : Least ls u d n m) {v : Int × Int} (hv : fget m d = some v) : v = (0, 0) := by
 obtain ⟨v', e, hl⟩ := h.all d 0 0 .nil
 rw [hv] at e
 obtain rfl := Option.some.inj e
 have := (h.snd d v hv).nonneg hls
 unfold leF at hl
 obtain ⟨a, b⟩ := v
 simp only at hl this
 rw [Prod.mk.injEq]
 omega
theorem Least.hit (hls : ∀ l ∈ ls, LgOk n l) {m : FM} (h : Least ls useS d n m) {x : Int} {v : Int × Int} (hx : ¬ x = d) (hv : fget m x = some v) : ∃ l ∈ ls, hitF m x v.1 v.2 l = true /\ (l.a = x ∨ l.b = x) := by
 have hw := h.snd x v hv
 obtain ⟨a, b⟩ := v
 simp only at hw
 cases hw with
 | nil => exact absurd rfl hx
 | cons h1 h2 h3 h4 =>
  rename_i l y p q
  obtain ⟨v', e, hl⟩ := h.all _ _ _ h4
  obtain ⟨w, e2, hl2⟩ := h.all _ _ _ (.cons h1 h2 h3 (h.snd y v' e))
  rw [hv] at e2
  obtain rfl := Option.some.inj e2
  have ev : v' = (p, q) := by
   unfold leF at hl hl2
   obtain ⟨a', b'⟩ := v'
   simp only at hl hl2
   rw [Prod.mk.injEq]
   omega
  subst ev
  refine ⟨l, h1, ?_, by rcases h3 with h3 | h3; exact .inl h3.1; exact .inr h3.1⟩
  rw [hit_yes (a := p) (b := q) (by rw [oth_is (hls _ h1) h3]; exact e), h2]
  simp
end
end Go.Proofs.Ytlefmbjipdlcfaa
