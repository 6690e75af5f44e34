/- build: the lengths of the shortest paths between all nodes, with each node more that may be passed. Plain maths. -/
import Derived.Test.YtlefmbjipdlcfaaMPR1
set_option linter.unusedVariables false
set_option linter.unusedSimpArgs false
set_option linter.unnecessarySimpa false
namespace Go.Proofs.Ytlefmbjipdlcfaa
set_option maxRecDepth 100000
abbrev MatI := List (List Int)
def mget (M : MatI) (i j : Nat) : Int := (M.getD i []).getD j 0
def mset (M : MatI) (i j : Nat) (x : Int) : MatI := M.set i ((M.getD i []).set j x)
def Shp (n : Nat) (M : MatI) : Prop := M.length = n /\ ∀ r ∈ M, r.length = n
theorem Shp.row {n : Nat} {M : MatI} (h : Shp n M) {i : Nat} (hi : i < n) : (M.getD i []).length = n := by
 rw [List.getD_eq_getElem?_getD, List.getElem?_eq_getElem (by rw [h.1]; exact hi)]
 exact h.2 _ (List.getElem_mem _)
theorem Shp.at {n : Nat} {M : MatI} (h : Shp n M) {i : Nat} (hi : i < n) : M[i]? = some (M.getD i []) := by
 rw [List.getD_eq_getElem?_getD, List.getElem?_eq_getElem (by rw [h.1]; exact hi)]; rfl
theorem Shp.cell {n : Nat} {M : MatI} (h : Shp n M) {i j : Nat} (hi : i < n) (hj : j < n) : (M.getD i [])[j]? = some (mget M i j) := by
 unfold mget
 rw [List.getD_eq_getElem?_getD (l := M.getD i []), List.getElem?_eq_getElem (by rw [h.row hi]; exact hj)]; rfl
theorem Shp.set {n : Nat} {M : MatI} (h : Shp n M) {i j : Nat} (hi : i < n) (x : Int) : Shp n (mset M i j x) := by
 refine ⟨by simp [mset, h.1], fun r hr => ?_⟩
 unfold mset at hr
 rcases List.mem_or_eq_of_mem_set hr with hr | rfl
 · exact h.2 r hr
 · rw [List.length_set]; exact h.row hi
theorem mget_set {n : Nat} {M : MatI} (h : Shp n M) {i j : Nat} (hi : i < n) (hj : j < n) (x : Int) (a b : Nat) : mget (mset M i j x) a b = if a = i /\ b = j then x else mget M a b := by
 unfold mget mset
 rw [List.getD_eq_getElem?_getD (l := M.set _ _), List.getElem?_set]
 by_cases e : i = a
 ·
  subst e
  rw [if_pos rfl, if_pos (by rw [h.1]; exact hi)]
  simp only [Option.getD_some, true_and]
  rw [List.getD_eq_getElem?_getD, List.getElem?_set]
  by_cases e2 : j = b
  ·
   subst e2
   rw [if_pos rfl, if_pos (by rw [h.row hi]; exact hj), if_pos rfl]; rfl
  · rw [if_neg e2, if_neg (fun e => e2 e.symm), ← List.getD_eq_getElem?_getD]
 · rw [if_neg e, if_neg (fun h => e h.1.symm), ← List.getD_eq_getElem?_getD]
/-! ### what the program does -/
def row0 (n i : Nat) : List Int := (List.replicate n (-1)).set i 0
def mat0 (n : Nat) : Nat -> MatI
 | 0 => []
 | i + 1 => mat0 n i ++ [row0 n i]
def legM (u : Lg -> Bool) (M : MatI) (l : Lg) : MatI :=
 if u l = true /\ (mget M l.a.toNat l.b.toNat < 0 ∨ l.long < mget M l.a.toNat l.b.toNat) then mset (mset M l.a.toNat l.b.toNat l.long) l.b.toNat l.a.toNat l.long else M
def stepM (M : MatI) (m i k : Nat) : MatI :=
 if 0 <= mget M i m /\ 0 <= mget M m k /\ (mget M i k < 0 ∨ mget M i m + mget M m k < mget M i k) then mset M i k (mget M i m + mget M m k) else M
def fwK (M : MatI) (m i : Nat) : Nat -> MatI
 | 0 => M
 | k + 1 => stepM (fwK M m i k) m i k
def fwI (n : Nat) (M : MatI) (m : Nat) : Nat -> MatI
 | 0 => M
 | i + 1 => fwK (fwI n M m i) m i n
def fwM (n : Nat) (M : MatI) : Nat -> MatI
 | 0 => M
 | m + 1 => fwI n (fwM n M m) m n
def lenM (ls : List Lg) (u : Lg -> Bool) (n : Nat) : MatI := fwM n (ls.foldl (legM u) (mat0 n n)) n
/-! ### walks -/
inductive Wi (ls : List Lg) (u : Lg -> Bool) (m : Nat) : Int -> Int -> Int -> Prop
 | nil {x : Int} : Wi ls u m x x 0
 | one {l : Lg} {x y : Int} : l ∈ ls -> u l = true -> Edg l x y -> Wi ls u m x y l.long
 | cons {l : Lg} {x z y p : Int} : l ∈ ls -> u l = true -> Edg l x z -> z < m -> Wi ls u m z y p -> Wi ls u m x y (p + l.long)
section
variable {ls : List Lg} {u : Lg -> Bool} {n : Nat}
theorem Wi.nonneg (hls : ∀ l ∈ ls, LgOk n l) {m : Nat} {x y p : Int} (h : Wi ls u m x y p) : 0 <= p := by
 induction h with
 | nil => omega
 | one hl _ _ => have := (hls _ hl).long; omega
 | cons hl _ _ _ _ ih => have := (hls _ hl).long; omega
theorem Wi.part (hls : ∀ l ∈ ls, LgOk n l) {m : Nat} {x y p : Int} (h : Wi ls u (m + 1) x y p) : (∃ p', Wi ls u m x y p' /\ p' <= p) ∨ ∃ p1 p2, Wi ls u m x m p1 /\ Wi ls u m m y p2 /\ p1 + p2 <= p := by
 induction h with
 | nil => exact .inl ⟨0, .nil, Int.le_refl _⟩
 | one h1 h2 h3 => exact .inl ⟨_, .one h1 h2 h3, Int.le_refl _⟩
 | cons h1 h2 h3 h4 h5 ih =>
  rename_i l x z y p
  by_cases hz : z < (m : Int)
  ·
   rcases ih with ⟨p', a, b⟩ | ⟨p1, p2, a, b, c⟩
   · exact .inl ⟨_, .cons h1 h2 h3 hz a, by omega⟩
   · exact .inr ⟨_, p2, .cons h1 h2 h3 hz a, b, by omega⟩
  obtain rfl : z = (m : Int) := by push_cast at h4; omega
  rcases ih with ⟨p', a, b⟩ | ⟨p1, p2, a, b, c⟩
  · exact .inr ⟨_, p', .one h1 h2 h3, a, by omega⟩
  have := a.nonneg hls
  exact .inr ⟨_, p2, .one h1 h2 h3, b, by omega⟩
theorem Wi.wy {m : Nat} {x y p : Int} (h : Wi ls u m x y p) : ∃ q, Wy ls u y x p q := by
 induction h with
 | nil => exact ⟨0, .nil⟩
 | one h1 h2 h3 => exact ⟨0 + 1, by have := Wy.cons h1 h2 h3 (Wy.nil (ls := ls) (u := u)); rwa [Int.zero_add] at this⟩
 | cons h1 h2 h3 _ _ ih => obtain ⟨q, h⟩ := ih; exact ⟨q + 1, .cons h1 h2 h3 h⟩
theorem Wy.wi (hls : ∀ l ∈ ls, LgOk n l) {d x p q : Int} (hd : 0 <= d /\ d < n) (h : Wy ls u d x p q) : Wi ls u n x d p := by
 induction h with
 | nil => exact .nil
 | cons h1 h2 h3 h4 ih => exact .cons h1 h2 h3 (h4.inR hls hd).2 ih
theorem Wy.app {d e x p q p2 q2 : Int} (h : Wy ls u d x p q) (h2 : Wy ls u e d p2 q2) : Wy ls u e x (p2 + p) (q2 + q) := by
 induction h with
 | nil => simpa using h2
 | cons a b c _ ih =>
  have := Wy.cons a b c ih
  rwa [Int.add_assoc, Int.add_assoc] at this
/-! ### what the matrix says -/
def SndM (ls : List Lg) (u : Lg -> Bool) (n : Nat) (M : MatI) : Prop := ∀ i j, i < n -> j < n -> mget M i j = -1 ∨ ∃ q, Wy ls u (j : Int) (i : Int) (mget M i j) q
def MonM (n : Nat) (M M' : MatI) : Prop := ∀ i j, i < n -> j < n -> 0 <= mget M i j -> 0 <= mget M' i j /\ mget M' i j <= mget M i j
def InvM (ls : List Lg) (u : Lg -> Bool) (n m : Nat) (M : MatI) : Prop := ∀ i j, i < n -> j < n -> ∀ p, Wi ls u m (i : Int) (j : Int) p -> 0 <= mget M i j /\ mget M i j <= p
theorem MonM.refl (M : MatI) : MonM n M M := fun _ _ _ _ h => ⟨h, Int.le_refl _⟩
theorem MonM.trans {a b c : MatI} (h : MonM n a b) (h2 : MonM n b c) : MonM n a c := fun i j hi hj h0 => by
 have h3 := h i j hi hj h0
 have h4 := h2 i j hi hj h3.1
 exact ⟨h4.1, by omega⟩
theorem step_all (hls : ∀ l ∈ ls, LgOk n l) {M : MatI} (hs : Shp n M) (h : SndM ls u n M) {m i k : Nat} (hm : m < n) (hi : i < n) (hk : k < n) :
  Shp n (stepM M m i k) /\ SndM ls u n (stepM M m i k) /\ MonM n M (stepM M m i k) /\ (0 <= mget M i m -> 0 <= mget M m k -> 0 <= mget (stepM M m i k) i k /\ mget (stepM M m i k) i k <= mget M i m + mget M m k) := by
 unfold stepM
 split
 ·
  rename_i hc
  obtain ⟨h1, h2, h3⟩ := hc
  refine ⟨hs.set hi _, fun a b ha hb => ?_, fun a b ha hb h0 => ?_, fun _ _ => ?_⟩
  ·
   rw [mget_set hs hi hk]
   split
   ·
    rename_i e
    obtain ⟨rfl, rfl⟩ := e
    right
    obtain ⟨q1, w1⟩ := (h a m ha hm).resolve_left (by omega)
    obtain ⟨q2, w2⟩ := (h m b hm hb).resolve_left (by omega)
    exact ⟨_, by have := w1.app w2; rwa [Int.add_comm (mget M m b)] at this⟩
   · exact h a b ha hb
  ·
   rw [mget_set hs hi hk]
   split
   ·
    rename_i e
    obtain ⟨rfl, rfl⟩ := e
    omega
   · exact ⟨h0, Int.le_refl _⟩
  · rw [mget_set hs hi hk, if_pos ⟨rfl, rfl⟩]; omega
 rename_i hc
 exact ⟨hs, h, MonM.refl _, fun h1 h2 => by omega⟩
structure PhM (ls : List Lg) (u : Lg -> Bool) (n : Nat) (M M' : MatI) : Prop where
 shp : Shp n M'
 snd : SndM ls u n M'
 mon : MonM n M M'
theorem fwK_all (hls : ∀ l ∈ ls, LgOk n l) {M : MatI} (hs : Shp n M) (h : SndM ls u n M) {m i : Nat} (hm : m < n) (hi : i < n) : ∀ k, k <= n -> PhM ls u n M (fwK M m i k) /\ ∀ j, j < k -> 0 <= mget M i m -> 0 <= mget M m j -> 0 <= mget (fwK M m i k) i j /\ mget (fwK M m i k) i j <= mget M i m + mget M m j
 | 0, _ => ⟨⟨hs, h, MonM.refl _⟩, fun j hj => absurd hj (Nat.not_lt_zero _)⟩
 | k + 1, hk => by
  obtain ⟨p, c⟩ := fwK_all hls hs h hm hi k (by omega)
  obtain ⟨a1, a2, a3, a4⟩ := step_all hls p.shp p.snd hm hi (show k < n by omega)
  refine ⟨⟨a1, a2, p.mon.trans a3⟩, fun j hj h1 h2 => ?_⟩
  show 0 <= mget (stepM (fwK M m i k) m i k) i j /\ _
  rcases Nat.lt_succ_iff_lt_or_eq.1 hj with hj | rfl
  ·
   have h3 := c j hj h1 h2
   have h4 := a3 i j hi (by omega) h3.1
   exact ⟨h4.1, by show mget (stepM (fwK M m i k) m i k) i j <= _; omega⟩
  have h3 := p.mon i m hi hm h1
  have h4 := p.mon m j hm (by omega) h2
  have h5 := a4 h3.1 h4.1
  exact ⟨h5.1, by show mget (stepM (fwK M m i j) m i j) i j <= _; omega⟩
theorem fwI_all (hls : ∀ l ∈ ls, LgOk n l) {M : MatI} (hs : Shp n M) (h : SndM ls u n M) {m : Nat} (hm : m < n) : ∀ i, i <= n -> PhM ls u n M (fwI n M m i) /\ ∀ a j, a < i -> j < n -> 0 <= mget M a m -> 0 <= mget M m j -> 0 <= mget (fwI n M m i) a j /\ mget (fwI n M m i) a j <= mget M a m + mget M m j
 | 0, _ => ⟨⟨hs, h, MonM.refl _⟩, fun a j ha => absurd ha (Nat.not_lt_zero _)⟩
 | i + 1, hi => by
  obtain ⟨p, c⟩ := fwI_all hls hs h hm i (by omega)
  obtain ⟨q, d⟩ := fwK_all hls p.shp p.snd hm (show i < n by omega) n (Nat.le_refl _)
  refine ⟨⟨q.shp, q.snd, p.mon.trans q.mon⟩, fun a j ha hj h1 h2 => ?_⟩
  show 0 <= mget (fwK (fwI n M m i) m i n) a j /\ _
  rcases Nat.lt_succ_iff_lt_or_eq.1 ha with ha | rfl
  ·
   have h3 := c a j ha hj h1 h2
   have h4 := q.mon a j (by omega) hj h3.1
   exact ⟨h4.1, by show mget (fwK (fwI n M m i) m i n) a j <= _; omega⟩
  have h3 := p.mon a m (by omega) hm h1
  have h4 := p.mon m j hm hj h2
  have h5 := d j hj h3.1 h4.1
  exact ⟨h5.1, by show mget (fwK (fwI n M m a) m a n) a j <= _; omega⟩
theorem fwM_all (hls : ∀ l ∈ ls, LgOk n l) {M : MatI} (hs : Shp n M) (h : SndM ls u n M) (h0 : InvM ls u n 0 M) : ∀ m, m <= n -> PhM ls u n M (fwM n M m) /\ InvM ls u n m (fwM n M m)
 | 0, _ => ⟨⟨hs, h, MonM.refl _⟩, h0⟩
 | m + 1, hm => by
  obtain ⟨p, c⟩ := fwM_all hls hs h h0 m (by omega)
  obtain ⟨q, d⟩ := fwI_all hls p.shp p.snd (show m < n by omega) n (Nat.le_refl _)
  refine ⟨⟨q.shp, q.snd, p.mon.trans q.mon⟩, fun i j hi hj x hw => ?_⟩
  show 0 <= mget (fwI n (fwM n M m) m n) i j /\ mget (fwI n (fwM n M m) m n) i j <= x
  rcases hw.part hls with ⟨p', a, b⟩ | ⟨p1, p2, a, b, e⟩
  ·
   have h3 := c i j hi hj p' a
   have h4 := q.mon i j hi hj h3.1
   exact ⟨h4.1, by omega⟩
  have h3 := c i m hi (by omega) p1 a
  have h4 := c m j (by omega) hj p2 b
  have h5 := d i j hi hj h3.1 h4.1
  exact ⟨h5.1, by omega⟩
/-! ### the beginning -/
theorem mat0_len (n : Nat) : ∀ k, (mat0 n k).length = k
 | 0 => rfl
 | k + 1 => by rw [mat0, List.length_append, mat0_len n k]; rfl
theorem mat0_at (n : Nat) : ∀ (k i : Nat), i < k -> (mat0 n k)[i]? = some (row0 n i)
 | k + 1, i, h => by
  rw [mat0]
  rcases Nat.lt_succ_iff_lt_or_eq.1 h with h | rfl
  · rw [List.getElem?_append_left (by rw [mat0_len]; exact h)]; exact mat0_at n k i h
  · rw [List.getElem?_append_right (by rw [mat0_len]; exact Nat.le_refl _), mat0_len, Nat.sub_self]; rfl
theorem mat0_shp (n : Nat) : Shp n (mat0 n n) := ⟨mat0_len n n, fun r hr => by
 obtain ⟨i, hi, e⟩ := List.getElem_of_mem hr
 rw [mat0_len] at hi
 have h := mat0_at n n i hi
 rw [List.getElem?_eq_getElem (by rw [mat0_len]; exact hi)] at h
 rw [← e, Option.some.inj h]
 simp [row0]⟩
theorem mat0_get {n i j : Nat} (hi : i < n) (hj : j < n) : mget (mat0 n n) i j = if i = j then 0 else -1 := by
 unfold mget
 rw [List.getD_eq_getElem?_getD (l := mat0 n n), mat0_at n n i hi]
 simp only [Option.getD_some, row0]
 rw [List.getD_eq_getElem?_getD, List.getElem?_set]
 by_cases e : i = j
 · rw [if_pos e, if_pos e, if_pos (by simpa using hi)]; rfl
 · rw [if_neg e, if_neg e, List.getElem?_replicate, if_pos hj]; rfl
structure LegI (ls L : List Lg) (u : Lg -> Bool) (n : Nat) (M : MatI) : Prop where
 shp : Shp n M
 snd : SndM ls u n M
 sym : ∀ i j, i < n -> j < n -> mget M i j = mget M j i
 zero : ∀ i, i < n -> mget M i i = 0
 leg : ∀ l ∈ L, u l = true -> 0 <= mget M l.a.toNat l.b.toNat /\ mget M l.a.toNat l.b.toNat <= l.long
theorem LegI.start : LegI ls [] u n (mat0 n n) := by
 refine ⟨mat0_shp n, fun i j hi hj => ?_, fun i j hi hj => ?_, fun i hi => ?_, fun l hl => by cases hl⟩
 ·
  rw [mat0_get hi hj]
  split
  · rename_i e; subst e; exact .inr ⟨0, .nil⟩
  · exact .inl rfl
 ·
  rw [mat0_get hi hj, mat0_get hj hi]
  by_cases e : i = j
  · rw [if_pos e, if_pos e.symm]
  · rw [if_neg e, if_neg (fun h => e h.symm)]
 · rw [mat0_get hi hi, if_pos rfl]
theorem LegI.next (hls : ∀ l ∈ ls, LgOk n l) {L : List Lg} {M : MatI} (h : LegI ls L u n M) {l : Lg} (hl : l ∈ ls) : LegI ls (L ++ [l]) u n (legM u M l) := by
 have h1 := (hls l hl).a; have h2 := (hls l hl).b; have h3 := (hls l hl).ne; have h4 := (hls l hl).long
 have ha : l.a.toNat < n := by omega
 have hb : l.b.toNat < n := by omega
 unfold legM
 split
 ·
  rename_i hc
  have s1 := h.shp.set (j := l.b.toNat) ha l.long
  have e : ∀ i j, mget (mset (mset M l.a.toNat l.b.toNat l.long) l.b.toNat l.a.toNat l.long) i j = if (i = l.b.toNat /\ j = l.a.toNat) ∨ (i = l.a.toNat /\ j = l.b.toNat) then l.long else mget M i j := fun i j => by
   rw [mget_set s1 hb ha, mget_set h.shp ha hb]
   by_cases c1 : i = l.b.toNat /\ j = l.a.toNat
   · rw [if_pos c1, if_pos (.inl c1)]
   by_cases c2 : i = l.a.toNat /\ j = l.b.toNat
   · rw [if_neg c1, if_pos c2, if_pos (.inr c2)]
   · rw [if_neg c1, if_neg c2, if_neg (by rintro (h | h); exact c1 h; exact c2 h)]
  refine ⟨s1.set hb _, fun i j hi hj => ?_, fun i j hi hj => ?_, fun i hi => ?_, fun l' hl' hu => ?_⟩
  ·
   rw [e]
   split
   ·
    rename_i c
    right
    have hw : ∀ x y : Int, Edg l x y -> ∃ q, Wy ls u y x l.long q := fun x y hxy => ⟨0 + 1, by have := Wy.cons hl hc.1 hxy (Wy.nil (ls := ls) (u := u)); rwa [Int.zero_add] at this⟩
    rcases c with ⟨rfl, rfl⟩ | ⟨rfl, rfl⟩
    · exact hw _ _ (.inr ⟨by omega, by omega⟩)
    · exact hw _ _ (.inl ⟨by omega, by omega⟩)
   · exact h.snd i j hi hj
  ·
   rw [e, e]
   by_cases c : (i = l.b.toNat /\ j = l.a.toNat) ∨ (i = l.a.toNat /\ j = l.b.toNat)
   · rw [if_pos c, if_pos (by omega)]
   · rw [if_neg c, if_neg (by omega)]; exact h.sym i j hi hj
  · rw [e, if_neg (by omega)]; exact h.zero i hi
  rw [e]
  rcases List.mem_append.1 hl' with h5 | h5
  ·
   split
   ·
    rename_i c
    have h6 := (hls _ hl).long
    have h7 := h.leg l' h5 hu
    have hcc := hc.2
    rcases c with ⟨c1, c2⟩ | ⟨c1, c2⟩
    · rw [c1, c2, h.sym _ _ hb ha] at h7; omega
    · rw [c1, c2] at h7; omega
   · exact h.leg l' h5 hu
  obtain rfl := List.mem_singleton.1 h5
  rw [if_pos (.inr ⟨rfl, rfl⟩)]; omega
 rename_i hc
 refine ⟨h.shp, h.snd, h.sym, h.zero, fun l' hl' hu => ?_⟩
 rcases List.mem_append.1 hl' with h5 | h5
 · exact h.leg l' h5 hu
 obtain rfl := List.mem_singleton.1 h5
 have : ¬ (mget M l'.a.toNat l'.b.toNat < 0 ∨ l'.long < mget M l'.a.toNat l'.b.toNat) := fun h => hc ⟨hu, h⟩
 omega
theorem legI_all (hls : ∀ l ∈ ls, LgOk n l) : ∀ (L L0 : List Lg) (M : MatI), (∀ l ∈ L, l ∈ ls) -> LegI ls L0 u n M -> LegI ls (L0 ++ L) u n (L.foldl (legM u) M)
 | [], L0, M, _, h => by rw [List.append_nil]; exact h
 | l :: L, L0, M, hL, h => by
  have h1 := legI_all hls L (L0 ++ [l]) (legM u M l) (fun l' h' => hL l' (.tail _ h')) (h.next hls (hL l (.head _)))
  rwa [List.append_assoc] at h1
theorem LegI.inv (hls : ∀ l ∈ ls, LgOk n l) {M : MatI} (h : LegI ls ls u n M) : InvM ls u n 0 M := fun i j hi hj p hw => by
 have key : ∀ (x y p : Int), Wi ls u 0 x y p -> x = i -> y = j -> 0 <= mget M i j /\ mget M i j <= p := by
  intro x y p hw
  cases hw with
  | nil =>
   intro h1 h2
   obtain rfl : i = j := by omega
   rw [h.zero i hi]; omega
  | one h1 h2 h3 =>
   rename_i l
   intro e1 e2
   have h5 := h.leg l h1 h2
   have hA := (hls l h1).a; have hB := (hls l h1).b
   unfold Edg at h3
   rcases h3 with ⟨a, b⟩ | ⟨a, b⟩
   · rw [show l.a.toNat = i by omega, show l.b.toNat = j by omega] at h5; exact h5
   · rw [show l.b.toNat = i by omega, show l.a.toNat = j by omega, h.sym _ _ hj hi] at h5; exact h5
  | cons h1 h2 h3 h4 h5 =>
   intro e1 e2
   have hA := (hls _ h1).a; have hB := (hls _ h1).b
   unfold Edg at h3
   omega
 exact key _ _ p hw rfl rfl
theorem lenM_ok (hls : ∀ l ∈ ls, LgOk n l) : Shp n (lenM ls u n) /\ SndM ls u n (lenM ls u n) /\ InvM ls u n n (lenM ls u n) := by
 have h := legI_all (u := u) hls ls [] (mat0 n n) (fun _ h => h) LegI.start
 rw [List.nil_append] at h
 obtain ⟨p, c⟩ := fwM_all hls h.shp h.snd (h.inv hls) n (Nat.le_refl _)
 exact ⟨p.shp, p.snd, c⟩
theorem len_far (hls : ∀ l ∈ ls, LgOk n l) {m : FM} {d x : Int} (hd : 0 <= d /\ d < n) (hx : 0 <= x /\ x < n) (h : Least ls u d n m) : perF m x = mget (lenM ls u n) x.toNat d.toNat := by
 obtain ⟨_, h2, h3⟩ := lenM_ok (u := u) hls
 have a2 := h2 x.toNat d.toNat (by omega) (by omega)
 have a3 := h3 x.toNat d.toNat (by omega) (by omega)
 rw [Int.toNat_of_nonneg hx.1, Int.toNat_of_nonneg hd.1] at a2 a3
 rcases hm : fget m x with _ | ⟨p, q⟩
 ·
  rw [perF_no hm]
  rcases a2 with a2 | ⟨q, hw⟩
  · exact a2.symm
  obtain ⟨v, e, _⟩ := h.all _ _ _ hw
  rw [hm] at e; cases e
 rw [perF_yes hm]
 have h5 := a3 p ((h.snd x (p, q) hm).wi hls hd)
 rcases a2 with a2 | ⟨q', hw⟩
 · omega
 obtain ⟨v, e, hl⟩ := h.all _ _ _ hw
 rw [hm] at e
 obtain rfl := Option.some.inj e
 unfold leF at hl
 simp only at hl
 omega
end
end Go.Proofs.Ytlefmbjipdlcfaa
