/- Hoffman: a network in which no set has less room than none has numbers that go round; in plain numbers. -/
import Derived.Test.YtfifldbinnkdmaaPBook
import Derived.Test.YtfifldbinnkdmaaKP
set_option linter.unusedVariables false
set_option linter.unusedSimpArgs false
set_option linter.unnecessarySimpa false
namespace Go.Proofs.Ytfifldbinnkdmaa

/-- An edge of a network: from, to, at least, at most. -/
structure Ed where
  fr : Nat
  tw : Nat
  lo : Int
  hi : Int
/-- What an edge adds to the room of a set: what may leave it less what must enter it. -/
def roomE (S : Nat → Bool) (e : Ed) : Int := if S e.fr = true then (if S e.tw = true then 0 else e.hi) else (if S e.tw = true then - e.lo else 0)
def room (S : Nat → Bool) : List Ed → Int
  | [] => 0
  | e :: l => roomE S e + room S l
theorem roomE_sub (S T : Nat → Bool) (e : Ed) (h : e.lo ≤ e.hi) : roomE (fun v => S v && T v) e + roomE (fun v => S v || T v) e ≤ roomE S e + roomE T e := by
  unfold roomE
  cases h1 : S e.fr <;> cases h2 : S e.tw <;> cases h3 : T e.fr <;> cases h4 : T e.tw <;> simp [h1, h2, h3, h4] <;> omega
theorem room_sub (S T : Nat → Bool) : ∀ (l : List Ed), (∀ e ∈ l, e.lo ≤ e.hi) → room (fun v => S v && T v) l + room (fun v => S v || T v) l ≤ room S l + room T l
  | [], _ => by simp [room]
  | e :: l, h => by
    have h1 := roomE_sub S T e (h e (.head _))
    have h2 := room_sub S T l fun e he => h e (.tail _ he)
    simp only [room]; omega
theorem roomE_cross (S T : Nat → Bool) (e : Ed) (h1 : S e.fr = true) (h2 : S e.tw = false) (h3 : T e.fr = false) (h4 : T e.tw = true) : roomE (fun v => S v && T v) e + roomE (fun v => S v || T v) e + (e.hi - e.lo) ≤ roomE S e + roomE T e := by
  simp [roomE, h1, h2, h3, h4]; omega
/-- The room of a set, of a list in two parts. -/
theorem room_app (S : Nat → Bool) : ∀ a b, room S (a ++ b) = room S a + room S b
  | [], b => by simp [room]
  | e :: a, b => by simp only [List.cons_append, room, room_app S a b]; omega
def Fit (l : List Ed) (x : List Int) : Prop := x.length = l.length ∧ ∀ (i : Nat) (e : Ed) (v : Int), l[i]? = some e → x[i]? = some v → e.lo ≤ v ∧ v ≤ e.hi
/-- How much is open yet. -/
def slack : List Ed → Nat
  | [] => 0
  | e :: l => (e.hi - e.lo).toNat + slack l
theorem slack_app : ∀ a b, slack (a ++ b) = slack a + slack b
  | [], b => by simp [slack]
  | e :: a, b => by simp only [List.cons_append, slack, slack_app a b]; omega
theorem slack_zero : ∀ {l : List Ed}, (∀ e ∈ l, e.lo ≤ e.hi) → slack l = 0 → ∀ e ∈ l, e.lo = e.hi
  | [], _, _, e, he => by cases he
  | a :: l, h, h0, e, he => by
    simp only [slack] at h0
    rcases List.mem_cons.1 he with rfl | he
    · have := h _ (.head _); omega
    · exact slack_zero (fun e he => h e (.tail _ he)) (by omega) e he
theorem slack_pos : ∀ {l : List Ed}, (∀ e ∈ l, e.lo ≤ e.hi) → 0 < slack l → ∃ a e b, l = a ++ e :: b ∧ e.lo < e.hi
  | [], _, h0 => by simp [slack] at h0
  | e :: l, h, h0 => by
    by_cases c : e.lo < e.hi
    · exact ⟨[], e, l, rfl, c⟩
    · have := h e (.head _)
      simp only [slack] at h0
      obtain ⟨a, e', b, rfl, h1⟩ := slack_pos (fun e he => h e (.tail _ he)) (by omega : 0 < slack l)
      exact ⟨e :: a, e', b, rfl, h1⟩
theorem fit_down {a b : List Ed} {e : Ed} {x : List Int} (h : Fit (a ++ ⟨e.fr, e.tw, e.lo, e.hi - 1⟩ :: b) x) : Fit (a ++ e :: b) x := by
  refine ⟨by have := h.1; simpa using this, fun i e' v h1 h2 => ?_⟩
  by_cases c : i = a.length
  · subst c
    have h3 := h.2 a.length ⟨e.fr, e.tw, e.lo, e.hi - 1⟩ v (by simp) h2
    have e1 : e = e' := by simpa using h1
    subst e1
    simp only at h3; omega
  · refine h.2 i e' v ?_ h2
    rw [← h1]
    simp only [List.getElem?_append, List.getElem?_cons]
    split
    · rfl
    · rw [if_neg (by omega), if_neg (by omega)]
theorem fit_up {a b : List Ed} {e : Ed} {x : List Int} (h : Fit (a ++ ⟨e.fr, e.tw, e.lo + 1, e.hi⟩ :: b) x) : Fit (a ++ e :: b) x := by
  refine ⟨by have := h.1; simpa using this, fun i e' v h1 h2 => ?_⟩
  by_cases c : i = a.length
  · subst c
    have h3 := h.2 a.length ⟨e.fr, e.tw, e.lo + 1, e.hi⟩ v (by simp) h2
    have e1 : e = e' := by simpa using h1
    subst e1
    simp only at h3; omega
  · refine h.2 i e' v ?_ h2
    rw [← h1]
    simp only [List.getElem?_append, List.getElem?_cons]
    split
    · rfl
    · rw [if_neg (by omega), if_neg (by omega)]
/-- The same edges, each with its number. -/
def pin : List Ed → List Int → List Ed
  | e :: l, v :: x => ⟨e.fr, e.tw, v, v⟩ :: pin l x
  | _, _ => []
theorem pin_self : ∀ {l : List Ed}, (∀ e ∈ l, e.lo = e.hi) → pin l (l.map Ed.lo) = l
  | [], _ => rfl
  | e :: l, h => by
    simp only [List.map_cons, pin]
    rw [pin_self fun e he => h e (.tail _ he)]
    have := h e (.head _)
    congr 1
    cases e; simp at this ⊢; exact this
theorem pin_down : ∀ (a b : List Ed) (e : Ed) (p : Int) (x : List Int), pin (a ++ ⟨e.fr, e.tw, e.lo, p⟩ :: b) x = pin (a ++ e :: b) x
  | [], b, e, p, [] => rfl
  | [], b, e, p, v :: x => rfl
  | _ :: a, b, e, p, [] => rfl
  | c :: a, b, e, p, v :: x => by simp only [List.cons_append, pin]; rw [pin_down a b e p x]
theorem pin_up : ∀ (a b : List Ed) (e : Ed) (p : Int) (x : List Int), pin (a ++ ⟨e.fr, e.tw, p, e.hi⟩ :: b) x = pin (a ++ e :: b) x
  | [], b, e, p, [] => rfl
  | [], b, e, p, v :: x => rfl
  | _ :: a, b, e, p, [] => rfl
  | c :: a, b, e, p, v :: x => by simp only [List.cons_append, pin]; rw [pin_up a b e p x]
/-- Hoffman: where no set has less room than none, there are numbers that go round. -/
theorem hoffman : ∀ (n : Nat) (l : List Ed), slack l = n → (∀ e ∈ l, e.lo ≤ e.hi) → (∀ S, 0 ≤ room S l) → ∃ x, Fit l x ∧ ∀ S, 0 ≤ room S (pin l x)
  | 0, l, h0, h, hS => by
    have e := slack_zero h h0
    refine ⟨l.map Ed.lo, ⟨by simp, fun i a v h1 h2 => ?_⟩, ?_⟩
    · rw [List.getElem?_map, h1] at h2
      have := e a (List.mem_of_getElem? h1)
      simp at h2
      omega
    · rw [pin_self e]; exact hS
  | n + 1, l, h0, h, hS => by
    obtain ⟨a, e, b, rfl, hlt⟩ := slack_pos h (by omega)
    have hmem : ∀ c : Ed, c.lo ≤ c.hi → ∀ x ∈ a ++ c :: b, x.lo ≤ x.hi := fun c hc x hx => by
      rcases List.mem_append.1 hx with hx | hx
      · exact h x (List.mem_append_left _ hx)
      · rcases List.mem_cons.1 hx with rfl | hx
        · exact hc
        · exact h x (List.mem_append_right _ (.tail _ hx))
    have hs : slack (a ++ e :: b) = slack a + ((e.hi - e.lo).toNat + slack b) := by rw [slack_app]; rfl
    by_cases hd : ∀ S, 0 ≤ room S (a ++ ⟨e.fr, e.tw, e.lo, e.hi - 1⟩ :: b)
    · obtain ⟨x, hx, hx2⟩ := hoffman n (a ++ ⟨e.fr, e.tw, e.lo, e.hi - 1⟩ :: b) (by rw [slack_app]; simp only [slack]; omega) (hmem _ (by simp only; omega)) hd
      exact ⟨x, fit_down hx, by rw [← pin_down a b e (e.hi - 1) x]; exact hx2⟩
    · by_cases hu : ∀ S, 0 ≤ room S (a ++ ⟨e.fr, e.tw, e.lo + 1, e.hi⟩ :: b)
      · obtain ⟨x, hx, hx2⟩ := hoffman n (a ++ ⟨e.fr, e.tw, e.lo + 1, e.hi⟩ :: b) (by rw [slack_app]; simp only [slack]; omega) (hmem _ (by simp only; omega)) hu
        exact ⟨x, fit_up hx, by rw [← pin_up a b e (e.lo + 1) x]; exact hx2⟩
      · exfalso
        obtain ⟨S, h1⟩ := Classical.not_forall.1 hd
        obtain ⟨T, h2⟩ := Classical.not_forall.1 hu
        have s1 := hS S
        have s2 := hS T
        have s3 := hS fun v => S v && T v
        have s4 := hS fun v => S v || T v
        simp only [room_app, room] at h1 h2 s1 s2 s3 s4
        have ha := room_sub S T a fun x hx => h x (List.mem_append_left _ hx)
        have hb := room_sub S T b fun x hx => h x (List.mem_append_right _ (.tail _ hx))
        have c1 : S e.fr = true ∧ S e.tw = false := by
          cases q1 : S e.fr <;> cases q2 : S e.tw <;> simp [roomE, q1, q2] at h1 s1 ⊢ <;> omega
        have c2 : T e.fr = false ∧ T e.tw = true := by
          cases q1 : T e.fr <;> cases q2 : T e.tw <;> simp [roomE, q1, q2] at h2 s2 ⊢ <;> omega
        have hc := roomE_cross S T e c1.1 c1.2 c2.1 c2.2
        have t1 : roomE S ⟨e.fr, e.tw, e.lo, e.hi - 1⟩ = roomE S e - 1 := by simp [roomE, c1.1, c1.2]
        have t2 : roomE T ⟨e.fr, e.tw, e.lo + 1, e.hi⟩ = roomE T e - 1 := by simp [roomE, c2.1, c2.2]; omega
        rw [t1] at h1
        rw [t2] at h2
        omega
end Go.Proofs.Ytfifldbinnkdmaa
/- The network of a book: where no set contradicts it, it has a truth; in plain numbers. -/
namespace Go.Proofs.Ytfifldbinnkdmaa
open Go.RowKit

/-- The set of numbers below n as a number. -/
def encS (S : Nat → Bool) : Nat → Nat
  | 0 => 0
  | n + 1 => encS S n ||| (if S n = true then 2 ^ n else 0)
theorem encS_lt (S : Nat → Bool) : ∀ n, encS S n < 2 ^ n
  | 0 => by simp [encS]
  | n + 1 => by
    have h1 := encS_lt S n
    have h2 : (2 : Nat) ^ n < 2 ^ (n + 1) := Nat.pow_lt_pow_right (by omega) (by omega)
    unfold encS
    refine Nat.or_lt_two_pow (by omega) ?_
    split <;> omega
theorem encS_bit (S : Nat → Bool) : ∀ n k, (encS S n).testBit k = (decide (k < n) && S k)
  | 0, k => by simp [encS]
  | n + 1, k => by
    unfold encS
    rw [Nat.testBit_or, encS_bit S n k]
    by_cases c : S n = true
    · rw [if_pos c, Nat.testBit_two_pow]
      by_cases e : n = k
      · subst e; simp [c]
      · have e1 : decide (k < n + 1) = decide (k < n) := by simp; omega
        rw [e1]; simp [e]
    · rw [if_neg c, Nat.zero_testBit, Bool.or_false]
      by_cases e : n = k
      · subst e; simp at c; simp [c]
      · have e1 : decide (k < n + 1) = decide (k < n) := by simp; omega
        rw [e1]
/-- The sum over what is not in a set. -/
def sumC (i : Nat) (f : Nat → Int) : Nat → Int
  | 0 => 0
  | k + 1 => sumC i f k + (if i.testBit k = true then 0 else f k)
section
variable (n : Nat) (A : List Acc) (M : List Mv) (L : Nat → Sp) (T : Sp)
def edO (k : Nat) : Ed := ⟨n, k, (ga A k).op.lo, (ga A k).op.hi⟩
def edC (k : Nat) : Ed := ⟨k, n, (ga A k).cl.lo, (ga A k).cl.hi⟩
def edM (k : Nat) : Ed := ⟨(gm M k).fr.toNat, (gm M k).to.toNat, (gm M k).li.lo, (gm M k).li.hi⟩
def edL (k : Nat) : Ed := ⟨k, n + 1, (L k).lo, (L k).hi⟩
def rng (f : Nat → Ed) (n : Nat) : List Ed := (List.range n).map f
def edges (m : Nat) : List Ed := rng (edO n A) n ++ (rng (edC n A) n ++ (rng (edM M) m ++ (rng (edL n L) n ++ [⟨n + 1, n, T.lo, T.hi⟩])))
end
theorem room_rng (S : Nat → Bool) (f : Nat → Ed) : ∀ n, room S (rng f n) = sumN (fun k => roomE S (f k)) n
  | 0 => rfl
  | n + 1 => by
    show room S ((List.range (n + 1)).map f) = _
    rw [List.range_succ, List.map_append, room_app]
    show room S (rng f n) + _ = _
    rw [room_rng S f n]
    simp [room, sumN]
theorem room_edges (n : Nat) (A : List Acc) (M : List Mv) (L : Nat → Sp) (T : Sp) (m : Nat) (S : Nat → Bool) : room S (edges n A M L T m) = sumN (fun k => roomE S (edO n A k)) n + (sumN (fun k => roomE S (edC n A k)) n + (sumN (fun k => roomE S (edM M k)) m + (sumN (fun k => roomE S (edL n L k)) n + roomE S ⟨n + 1, n, T.lo, T.hi⟩))) := by
  unfold edges
  rw [room_app, room_app, room_app, room_app, room_rng, room_rng, room_rng, room_rng]
  simp [room]
theorem grpA_least {A : List Acc} {i n : Nat} {S : Nat → Bool} (hn : S n = false) : ∀ m, (∀ k, k < m → i.testBit k = S k) → (grpA A i m).least = -(sumN (fun k => roomE S (edO n A k)) m + sumN (fun k => roomE S (edC n A k)) m)
  | 0, _ => rfl
  | m + 1, h => by
    have ih := grpA_least (A := A) hn m fun k hk => h k (by omega)
    have hb := h m (by omega)
    cases c : S m with
    | true =>
      rw [c] at hb
      rw [grpA_yes hb]
      simp only [ih, sumN, roomE, edO, edC, hn, c]
      simp; omega
    | false =>
      rw [c] at hb
      rw [grpA_no hb]
      simp only [ih, sumN, roomE, edO, edC, hn, c]
      simp
theorem grpA_most {A : List Acc} {i n : Nat} {S : Nat → Bool} (hn : S n = true) : ∀ m, (∀ k, k < m → i.testBit k = !S k) → (grpA A i m).most = sumN (fun k => roomE S (edO n A k)) m + sumN (fun k => roomE S (edC n A k)) m
  | 0, _ => rfl
  | m + 1, h => by
    have ih := grpA_most (A := A) hn m fun k hk => h k (by omega)
    have hb := h m (by omega)
    cases c : S m with
    | true =>
      rw [c] at hb
      rw [grpA_no hb]
      simp only [ih, sumN, roomE, edO, edC, hn, c]
      simp
    | false =>
      rw [c] at hb
      rw [grpA_yes hb]
      simp only [ih, sumN, roomE, edO, edC, hn, c]
      simp; omega
theorem grpM_least {M : List Mv} {i n : Nat} {g : Grp} {S : Nat → Bool} (h : ∀ k, k < n → i.testBit k = S k) : ∀ m, (∀ j, j < m → ((gm M j).fr.toNat < n) ∧ (gm M j).to.toNat < n) → (grpM M i g m).least = g.least - sumN (fun k => roomE S (edM M k)) m
  | 0, _ => by simp [grpM, sumN]
  | m + 1, hm => by
    have ih := grpM_least (g := g) h m fun j hj => hm j (by omega)
    obtain ⟨h1, h2⟩ := hm m (by omega)
    have e1 := h _ h1
    have e2 := h _ h2
    have hr : roomE S (edM M m) = if S (gm M m).fr.toNat = true then (if S (gm M m).to.toNat = true then 0 else (gm M m).li.hi) else (if S (gm M m).to.toNat = true then -(gm M m).li.lo else 0) := rfl
    simp only [grpM, bitOf, e1, e2, sumN, hr]
    rcases Bool.eq_false_or_eq_true (S (gm M m).fr.toNat) with c1 | c1 <;> rcases Bool.eq_false_or_eq_true (S (gm M m).to.toNat) with c2 | c2 <;> simp [c1, c2] <;> rw [ih] <;> omega
theorem grpM_most {M : List Mv} {i n : Nat} {g : Grp} {S : Nat → Bool} (h : ∀ k, k < n → i.testBit k = !S k) : ∀ m, (∀ j, j < m → ((gm M j).fr.toNat < n) ∧ (gm M j).to.toNat < n) → (grpM M i g m).most = g.most + sumN (fun k => roomE S (edM M k)) m
  | 0, _ => by simp [grpM, sumN]
  | m + 1, hm => by
    have ih := grpM_most (g := g) h m fun j hj => hm j (by omega)
    obtain ⟨h1, h2⟩ := hm m (by omega)
    have e1 := h _ h1
    have e2 := h _ h2
    have hr : roomE S (edM M m) = if S (gm M m).fr.toNat = true then (if S (gm M m).to.toNat = true then 0 else (gm M m).li.hi) else (if S (gm M m).to.toNat = true then -(gm M m).li.lo else 0) := rfl
    simp only [grpM, bitOf, e1, e2, sumN, hr]
    rcases Bool.eq_false_or_eq_true (S (gm M m).fr.toNat) with c1 | c1 <;> rcases Bool.eq_false_or_eq_true (S (gm M m).to.toNat) with c2 | c2 <;> simp [c1, c2] <;> rw [ih] <;> omega
theorem los_in {i n : Nat} {L : Nat → Sp} {S : Nat → Bool} : ∀ m, (∀ k, k < m → i.testBit k = S k) → S (n + 1) = false → sumN (fun k => roomE S (edL n L k)) m = sumS i (fun k => (L k).hi) m
  | 0, _, _ => rfl
  | m + 1, h, hl => by
    have ih := los_in (L := L) m (fun k hk => h k (by omega)) hl
    have hb := h m (by omega)
    have hr : roomE S (edL n L m) = if S m = true then (if S (n + 1) = true then 0 else (L m).hi) else (if S (n + 1) = true then -(L m).lo else 0) := rfl
    simp only [sumN, sumS, ih, hr, hl, hb]
    rcases Bool.eq_false_or_eq_true (S m) with c | c <;> simp [c]
theorem los_lo {i n : Nat} {L : Nat → Sp} {S : Nat → Bool} : ∀ m, (∀ k, k < m → i.testBit k = S k) → S (n + 1) = true → sumN (fun k => roomE S (edL n L k)) m = -(sumC i (fun k => (L k).lo) m)
  | 0, _, _ => rfl
  | m + 1, h, hl => by
    have ih := los_lo (L := L) m (fun k hk => h k (by omega)) hl
    have hb := h m (by omega)
    have hr : roomE S (edL n L m) = if S m = true then (if S (n + 1) = true then 0 else (L m).hi) else (if S (n + 1) = true then -(L m).lo else 0) := rfl
    simp only [sumN, sumC, ih, hr, hl, hb]
    rcases Bool.eq_false_or_eq_true (S m) with c | c <;> simp [c] <;> omega
theorem los_out {i n : Nat} {L : Nat → Sp} {S : Nat → Bool} : ∀ m, (∀ k, k < m → i.testBit k = !S k) → S (n + 1) = false → sumN (fun k => roomE S (edL n L k)) m = sumC i (fun k => (L k).hi) m
  | 0, _, _ => rfl
  | m + 1, h, hl => by
    have ih := los_out (L := L) m (fun k hk => h k (by omega)) hl
    have hb := h m (by omega)
    have hr : roomE S (edL n L m) = if S m = true then (if S (n + 1) = true then 0 else (L m).hi) else (if S (n + 1) = true then -(L m).lo else 0) := rfl
    simp only [sumN, sumC, ih, hr, hl, hb]
    rcases Bool.eq_false_or_eq_true (S m) with c | c <;> simp [c]
theorem los_olo {i n : Nat} {L : Nat → Sp} {S : Nat → Bool} : ∀ m, (∀ k, k < m → i.testBit k = !S k) → S (n + 1) = true → sumN (fun k => roomE S (edL n L k)) m = -(sumS i (fun k => (L k).lo) m)
  | 0, _, _ => rfl
  | m + 1, h, hl => by
    have ih := los_olo (L := L) m (fun k hk => h k (by omega)) hl
    have hb := h m (by omega)
    have hr : roomE S (edL n L m) = if S m = true then (if S (n + 1) = true then 0 else (L m).hi) else (if S (n + 1) = true then -(L m).lo else 0) := rfl
    simp only [sumN, sumS, ih, hr, hl, hb]
    rcases Bool.eq_false_or_eq_true (S m) with c | c <;> simp [c] <;> omega
/-- What the sets of a book say of what its accounts may lose (L), and all together (T). -/
structure Room (b : Bok) (L : Nat → Sp) (T : Sp) : Prop where
  c1 : ∀ i, i < 2 ^ b.accs.length → (grp b i).least ≤ sumS i (fun k => (L k).hi) b.accs.length
  c2 : ∀ i, i < 2 ^ b.accs.length → (grp b i).least + sumC i (fun k => (L k).lo) b.accs.length ≤ T.hi
  c3 : ∀ i, i < 2 ^ b.accs.length → T.lo ≤ (grp b i).most + sumC i (fun k => (L k).hi) b.accs.length
  c4 : ∀ i, i < 2 ^ b.accs.length → sumS i (fun k => (L k).lo) b.accs.length ≤ (grp b i).most
theorem mv_nat {b : Bok} (hok : BokOk b) : ∀ j, j < b.mvs.length → ((gm b.mvs j).fr.toNat < b.accs.length) ∧ (gm b.mvs j).to.toNat < b.accs.length := fun j hj => by
  have h1 := (hok.mv j hj).fr
  have h2 := (hok.mv j hj).to
  omega
theorem room_ok {b : Bok} {L : Nat → Sp} {T : Sp} (hok : BokOk b) (h : Room b L T) (S : Nat → Bool) : 0 ≤ room S (edges b.accs.length b.accs b.mvs L T b.mvs.length) := by
  rw [room_edges]
  cases hw : S b.accs.length with
  | false =>
    have hb : ∀ k, k < b.accs.length → (encS S b.accs.length).testBit k = S k := fun k hk => by rw [encS_bit]; simp [hk]
    have hi := encS_lt S b.accs.length
    have h1 := grpA_least (A := b.accs) hw b.accs.length hb
    have h2 := grpM_least (g := grpA b.accs (encS S b.accs.length) b.accs.length) hb b.mvs.length (mv_nat hok)
    cases hl : S (b.accs.length + 1) with
    | false =>
      have h3 := los_in (L := L) b.accs.length hb hl
      have h4 := h.c1 _ hi
      unfold grp at h4
      have hr : roomE S ⟨b.accs.length + 1, b.accs.length, T.lo, T.hi⟩ = if S (b.accs.length + 1) = true then (if S b.accs.length = true then 0 else T.hi) else (if S b.accs.length = true then -T.lo else 0) := rfl
      rw [h3, hr, hw, hl]
      simp; omega
    | true =>
      have h3 := los_lo (L := L) b.accs.length hb hl
      have h4 := h.c2 _ hi
      unfold grp at h4
      have hr : roomE S ⟨b.accs.length + 1, b.accs.length, T.lo, T.hi⟩ = if S (b.accs.length + 1) = true then (if S b.accs.length = true then 0 else T.hi) else (if S b.accs.length = true then -T.lo else 0) := rfl
      rw [h3, hr, hw, hl]
      simp; omega
  | true =>
    have hb : ∀ k, k < b.accs.length → (encS (fun v => !S v) b.accs.length).testBit k = !S k := fun k hk => by rw [encS_bit]; simp [hk]
    have hi := encS_lt (fun v => !S v) b.accs.length
    have h1 := grpA_most (A := b.accs) hw b.accs.length hb
    have h2 := grpM_most (g := grpA b.accs (encS (fun v => !S v) b.accs.length) b.accs.length) hb b.mvs.length (mv_nat hok)
    cases hl : S (b.accs.length + 1) with
    | false =>
      have h3 := los_out (L := L) b.accs.length hb hl
      have h4 := h.c3 _ hi
      unfold grp at h4
      have hr : roomE S ⟨b.accs.length + 1, b.accs.length, T.lo, T.hi⟩ = if S (b.accs.length + 1) = true then (if S b.accs.length = true then 0 else T.hi) else (if S b.accs.length = true then -T.lo else 0) := rfl
      rw [h3, hr, hw, hl]
      simp; omega
    | true =>
      have h3 := los_olo (L := L) b.accs.length hb hl
      have h4 := h.c4 _ hi
      unfold grp at h4
      have hr : roomE S ⟨b.accs.length + 1, b.accs.length, T.lo, T.hi⟩ = if S (b.accs.length + 1) = true then (if S b.accs.length = true then 0 else T.hi) else (if S b.accs.length = true then -T.lo else 0) := rfl
      rw [h3, hr, hw, hl]
      simp; omega
end Go.Proofs.Ytfifldbinnkdmaa
/- A book that no set contradicts has a truth; in plain numbers. -/
namespace Go.Proofs.Ytfifldbinnkdmaa
open Go.RowKit

theorem pin_app : ∀ (a b : List Ed) (x : List Int), a.length ≤ x.length → pin (a ++ b) x = pin a (x.take a.length) ++ pin b (x.drop a.length)
  | [], b, x, _ => by simp [pin]
  | e :: a, b, [], h => by simp at h
  | e :: a, b, v :: x, h => by
    simp only [List.cons_append, pin, List.length_cons, List.take_succ_cons, List.drop_succ_cons]
    rw [pin_app a b x (by simpa using h)]
theorem fit_app {a b : List Ed} {x : List Int} (h : Fit (a ++ b) x) : Fit a (x.take a.length) ∧ Fit b (x.drop a.length) := by
  obtain ⟨hl, h⟩ := h
  rw [List.length_append] at hl
  refine ⟨⟨by rw [List.length_take]; omega, fun i e v h1 h2 => ?_⟩, ⟨by rw [List.length_drop]; omega, fun i e v h1 h2 => ?_⟩⟩
  · have hi := (List.getElem?_eq_some_iff.1 h1).1
    refine h i e v (by rw [List.getElem?_append_left hi]; exact h1) ?_
    rw [List.getElem?_take] at h2
    rw [if_pos hi] at h2
    exact h2
  · refine h (a.length + i) e v (by rw [List.getElem?_append_right (by omega)]; rw [show a.length + i - a.length = i by omega]; exact h1) ?_
    rw [List.getElem?_drop] at h2
    exact h2
theorem rng_len (f : Nat → Ed) (n : Nat) : (rng f n).length = n := by simp [rng]
theorem rng_at {f : Nat → Ed} {n k : Nat} (h : k < n) : (rng f n)[k]? = some (f k) := by simp [rng, h]
theorem rng_succ (f : Nat → Ed) (n : Nat) : rng f (n + 1) = rng f n ++ [f n] := by simp [rng, List.range_succ]
def pinE (f : Nat → Ed) (y : List Int) (k : Nat) : Ed := ⟨(f k).fr, (f k).tw, gi y k, gi y k⟩
theorem pin_rng (f : Nat → Ed) : ∀ (n : Nat) (y : List Int), y.length = n → pin (rng f n) y = rng (pinE f y) n
  | 0, y, h => by
    have e : y = [] := List.length_eq_zero_iff.1 h
    subst e
    rfl
  | n + 1, y, h => by
    rw [rng_succ, rng_succ, pin_app _ _ _ (by rw [rng_len]; omega), rng_len, pin_rng f n (y.take n) (by rw [List.length_take]; omega)]
    have e : y.drop n = [gi y n] := by
      rw [List.drop_eq_getElem_cons (by omega), List.drop_eq_nil_of_le (by omega)]
      simp [gi, List.getElem?_eq_getElem (show n < y.length by omega)]
    rw [e]
    congr 1
    refine List.map_congr_left fun k hk => ?_
    have hk' := List.mem_range.1 hk
    unfold pinE
    have e2 : gi (y.take n) k = gi y k := by
      unfold gi
      simp only [List.getD_eq_getElem?_getD, List.getElem?_take, if_pos hk']
    rw [e2]
theorem fit_rng {f : Nat → Ed} {n : Nat} {y : List Int} (h : Fit (rng f n) y) {k : Nat} (hk : k < n) : (f k).lo ≤ gi y k ∧ gi y k ≤ (f k).hi := by
  have hl := h.1
  rw [rng_len] at hl
  refine h.2 k (f k) (gi y k) (rng_at hk) ?_
  rw [List.getElem?_eq_getElem (by omega)]
  simp [gi, List.getElem?_eq_getElem (show k < y.length by omega)]
theorem flip_E (S : Nat → Bool) (e : Ed) (h : e.lo = e.hi) : roomE (fun v => !S v) e = - roomE S e := by
  unfold roomE
  rcases Bool.eq_false_or_eq_true (S e.fr) with c1 | c1 <;> rcases Bool.eq_false_or_eq_true (S e.tw) with c2 | c2 <;> simp [c1, c2] <;> omega
theorem flip_room (S : Nat → Bool) : ∀ l : List Ed, (∀ e ∈ l, e.lo = e.hi) → room (fun v => !S v) l = - room S l
  | [], _ => rfl
  | e :: l, h => by
    have h1 := flip_E S e (h e (.head _))
    have h2 := flip_room S l fun e he => h e (.tail _ he)
    simp only [room]; omega
theorem pin_eq : ∀ (l : List Ed) (x : List Int), ∀ e ∈ pin l x, e.lo = e.hi
  | [], x, e, he => by simp [pin] at he
  | a :: l, [], e, he => by simp [pin] at he
  | a :: l, v :: x, e, he => by
    simp only [pin, List.mem_cons] at he
    rcases he with rfl | he
    · rfl
    · exact pin_eq l x e he
theorem room_pin {l : List Ed} {x : List Int} (h : ∀ S, 0 ≤ room S (pin l x)) (S : Nat → Bool) : room S (pin l x) = 0 := by
  have h1 := h S
  have h2 := h fun v => !S v
  rw [flip_room S _ (pin_eq l x)] at h2
  omega
theorem moves_bal {O V : List Int} {M : List Mv} {k : Nat} : ∀ m, (∀ j, j < m → (0 ≤ (gm M j).fr ∧ 0 ≤ (gm M j).to) ∧ (gm M j).fr ≠ (gm M j).to) → sumN (fun j => roomE (fun v => v == k) (pinE (edM M) V j)) m = gi O k - balF O M V k m
  | 0, _ => by simp [sumN, balF]
  | m + 1, h => by
    have ih := moves_bal (O := O) (V := V) (k := k) m fun j hj => h j (by omega)
    obtain ⟨⟨h1, h2⟩, h3⟩ := h m (by omega)
    have e1 : ((gm M m).fr = (k : Int)) = ((gm M m).fr.toNat = k) := by apply propext; omega
    have e2 : ((gm M m).to = (k : Int)) = ((gm M m).to.toNat = k) := by apply propext; omega
    have hr : roomE (fun v => v == k) (pinE (edM M) V m) = if ((gm M m).fr.toNat == k) = true then (if ((gm M m).to.toNat == k) = true then 0 else gi V m) else (if ((gm M m).to.toNat == k) = true then - gi V m else 0) := rfl
    simp only [sumN, balF, ih, hr, e1, e2, beq_iff_eq]
    by_cases c1 : (gm M m).fr.toNat = k
    · rw [if_pos c1, if_pos c1, if_neg (by omega), if_neg (by omega)]; omega
    · rw [if_neg c1, if_neg c1]
      by_cases c2 : (gm M m).to.toNat = k
      · rw [if_pos c2, if_pos c2]; omega
      · rw [if_neg c2, if_neg c2]; omega
theorem sumN_zero {f : Nat → Int} : ∀ n, (∀ k, k < n → f k = 0) → sumN f n = 0
  | 0, _ => rfl
  | n + 1, h => by simp only [sumN]; rw [sumN_zero n fun k hk => h k (by omega), h n (by omega)]; rfl
theorem sumN_neg (f : Nat → Int) : ∀ n, sumN (fun k => -(f k)) n = -(sumN f n)
  | 0 => rfl
  | n + 1 => by simp only [sumN]; rw [sumN_neg f n]; omega
theorem truth_exists {b : Bok} {L : Nat → Sp} {T : Sp} (hok : BokOk b) (h : Room b L T) (hL : ∀ k, k < b.accs.length → (0 ≤ (L k).lo ∧ (L k).lo ≤ (L k).hi) ∧ ((ga b.accs k).kind = 2 → (L k).hi = 0)) (hT : T.lo ≤ T.hi) :
    ∃ O C V : List Int, (O.length = b.accs.length ∧ C.length = b.accs.length ∧ V.length = b.mvs.length) ∧ TruthIn b O C V ∧ (∀ k, k < b.accs.length → (L k).lo ≤ losA b O C V k ∧ losA b O C V k ≤ (L k).hi) ∧ T.lo ≤ sumN (losA b O C V) b.accs.length ∧ sumN (losA b O C V) b.accs.length ≤ T.hi := by
  have hle : ∀ e ∈ edges b.accs.length b.accs b.mvs L T b.mvs.length, e.lo ≤ e.hi := by
    intro e he
    unfold edges rng at he
    simp only [List.mem_append, List.mem_map, List.mem_range, List.mem_singleton] at he
    rcases he with ⟨k, hk, rfl⟩ | ⟨k, hk, rfl⟩ | ⟨k, hk, rfl⟩ | ⟨k, hk, rfl⟩ | rfl
    · have := (hok.acc k hk).op; show (ga b.accs k).op.lo ≤ (ga b.accs k).op.hi; omega
    · have := (hok.acc k hk).cl; show (ga b.accs k).cl.lo ≤ (ga b.accs k).cl.hi; omega
    · have := (hok.mv k hk).li; show (gm b.mvs k).li.lo ≤ (gm b.mvs k).li.hi; omega
    · exact (hL k hk).1.2
    · exact hT
  obtain ⟨x, hx, hS⟩ := hoffman _ _ rfl hle (room_ok hok h)
  have hS := room_pin hS
  unfold edges at hx hS
  have hlx := hx.1
  simp only [List.length_append, rng_len, List.length_singleton] at hlx
  obtain ⟨f1, g1⟩ := fit_app hx
  obtain ⟨f2, g2⟩ := fit_app g1
  obtain ⟨f3, g3⟩ := fit_app g2
  obtain ⟨f4, g4⟩ := fit_app g3
  rw [pin_app _ _ _ (by rw [rng_len]; omega)] at hS
  rw [pin_app _ _ _ (by simp only [rng_len, List.length_drop]; omega)] at hS
  rw [pin_app _ _ _ (by simp only [rng_len, List.length_drop]; omega)] at hS
  rw [pin_app _ _ _ (by simp only [rng_len, List.length_drop]; omega)] at hS
  simp only [rng_len] at f1 f2 f3 f4 g4 hS
  obtain ⟨O, hO⟩ : ∃ z, x.take b.accs.length = z := ⟨_, rfl⟩
  obtain ⟨C, hC⟩ : ∃ z, (x.drop b.accs.length).take b.accs.length = z := ⟨_, rfl⟩
  obtain ⟨V, hV⟩ : ∃ z, ((x.drop b.accs.length).drop b.accs.length).take b.mvs.length = z := ⟨_, rfl⟩
  obtain ⟨W, hW⟩ : ∃ z, (((x.drop b.accs.length).drop b.accs.length).drop b.mvs.length).take b.accs.length = z := ⟨_, rfl⟩
  obtain ⟨Z, hZ⟩ : ∃ z, (((x.drop b.accs.length).drop b.accs.length).drop b.mvs.length).drop b.accs.length = z := ⟨_, rfl⟩
  rw [hO] at f1 hS
  rw [hC] at f2 hS
  rw [hV] at f3 hS
  rw [hW] at f4 hS
  rw [hZ] at g4 hS
  have lO : O.length = b.accs.length := by rw [← hO, List.length_take]; omega
  have lC : C.length = b.accs.length := by rw [← hC, List.length_take, List.length_drop]; omega
  have lV : V.length = b.mvs.length := by rw [← hV, List.length_take, List.length_drop, List.length_drop]; omega
  have lW : W.length = b.accs.length := by rw [← hW, List.length_take, List.length_drop, List.length_drop, List.length_drop]; omega
  have lZ : Z.length = 1 := by rw [← hZ, List.length_drop, List.length_drop, List.length_drop, List.length_drop]; omega
  obtain ⟨t, rfl⟩ := List.length_eq_one_iff.1 lZ
  have ht : T.lo ≤ t ∧ t ≤ T.hi := g4.2 0 ⟨b.accs.length + 1, b.accs.length, T.lo, T.hi⟩ t rfl rfl
  rw [pin_rng _ _ _ lO, pin_rng _ _ _ lC, pin_rng _ _ _ lV, pin_rng _ _ _ lW] at hS
  have hS2 : ∀ S : Nat → Bool, sumN (fun k => roomE S (pinE (edO b.accs.length b.accs) O k)) b.accs.length + (sumN (fun k => roomE S (pinE (edC b.accs.length b.accs) C k)) b.accs.length + (sumN (fun k => roomE S (pinE (edM b.mvs) V k)) b.mvs.length + (sumN (fun k => roomE S (pinE (edL b.accs.length L) W k)) b.accs.length + roomE S ⟨b.accs.length + 1, b.accs.length, t, t⟩))) = 0 := fun S => by
    have h1 := hS S
    rw [room_app, room_app, room_app, room_app, room_rng, room_rng, room_rng, room_rng] at h1
    simpa [room, pin] using h1
  -- what an account loses
  have hlos : ∀ k, k < b.accs.length → losA b O C V k = gi W k := fun k hk => by
    have h1 := hS2 fun v => v == k
    have e1 : sumN (fun q => roomE (fun v => v == k) (pinE (edO b.accs.length b.accs) O q)) b.accs.length = -(gi O k) := by
      rw [sumN_congr (g := fun q => if q = k then -(gi O k) else 0) _ fun q hq => ?_, sumN_one, if_pos hk]
      have hr : roomE (fun v => v == k) (pinE (edO b.accs.length b.accs) O q) = if (b.accs.length == k) = true then (if (q == k) = true then 0 else gi O q) else (if (q == k) = true then -(gi O q) else 0) := rfl
      rw [hr, if_neg (by simp; omega)]
      by_cases c : q = k
      · subst c; simp
      · simp [c]
    have e2 : sumN (fun q => roomE (fun v => v == k) (pinE (edC b.accs.length b.accs) C q)) b.accs.length = gi C k := by
      rw [sumN_congr (g := fun q => if q = k then gi C k else 0) _ fun q hq => ?_, sumN_one, if_pos hk]
      have hr : roomE (fun v => v == k) (pinE (edC b.accs.length b.accs) C q) = if (q == k) = true then (if (b.accs.length == k) = true then 0 else gi C q) else (if (b.accs.length == k) = true then -(gi C q) else 0) := rfl
      rw [hr]
      by_cases c : q = k
      · subst c; simp; omega
      · simp [c]; omega
    have e3 := moves_bal (O := O) (V := V) (M := b.mvs) (k := k) b.mvs.length fun j hj => by
      have h1 := hok.mv j hj
      exact ⟨⟨h1.fr.1, h1.to.1⟩, h1.ne⟩
    have e4 : sumN (fun q => roomE (fun v => v == k) (pinE (edL b.accs.length L) W q)) b.accs.length = gi W k := by
      rw [sumN_congr (g := fun q => if q = k then gi W k else 0) _ fun q hq => ?_, sumN_one, if_pos hk]
      have hr : roomE (fun v => v == k) (pinE (edL b.accs.length L) W q) = if (q == k) = true then (if (b.accs.length + 1 == k) = true then 0 else gi W q) else (if (b.accs.length + 1 == k) = true then -(gi W q) else 0) := rfl
      rw [hr]
      by_cases c : q = k
      · subst c; simp; omega
      · simp [c]; omega
    have e5 : roomE (fun v => v == k) ⟨b.accs.length + 1, b.accs.length, t, t⟩ = 0 := by
      have hr : roomE (fun v => v == k) ⟨b.accs.length + 1, b.accs.length, t, t⟩ = if (b.accs.length + 1 == k) = true then (if (b.accs.length == k) = true then 0 else t) else (if (b.accs.length == k) = true then -t else 0) := rfl
      rw [hr, if_neg (by simp; omega), if_neg (by simp; omega)]
    rw [e1, e2, e3, e4, e5] at h1
    unfold losA
    omega
  have htot : sumN (fun k => gi W k) b.accs.length = t := by
    have h1 := hS2 fun v => v == b.accs.length + 1
    have e1 : sumN (fun q => roomE (fun v => v == b.accs.length + 1) (pinE (edO b.accs.length b.accs) O q)) b.accs.length = 0 := sumN_zero _ fun q hq => by
      have hr : roomE (fun v => v == b.accs.length + 1) (pinE (edO b.accs.length b.accs) O q) = if (b.accs.length == b.accs.length + 1) = true then (if (q == b.accs.length + 1) = true then 0 else gi O q) else (if (q == b.accs.length + 1) = true then -(gi O q) else 0) := rfl
      rw [hr, if_neg (by simp), if_neg (by simp; omega)]
    have e2 : sumN (fun q => roomE (fun v => v == b.accs.length + 1) (pinE (edC b.accs.length b.accs) C q)) b.accs.length = 0 := sumN_zero _ fun q hq => by
      have hr : roomE (fun v => v == b.accs.length + 1) (pinE (edC b.accs.length b.accs) C q) = if (q == b.accs.length + 1) = true then (if (b.accs.length == b.accs.length + 1) = true then 0 else gi C q) else (if (b.accs.length == b.accs.length + 1) = true then -(gi C q) else 0) := rfl
      rw [hr, if_neg (by simp; omega), if_neg (by simp)]
    have e3 : sumN (fun q => roomE (fun v => v == b.accs.length + 1) (pinE (edM b.mvs) V q)) b.mvs.length = 0 := sumN_zero _ fun q hq => by
      have hm := mv_nat hok q hq
      have hr : roomE (fun v => v == b.accs.length + 1) (pinE (edM b.mvs) V q) = if ((gm b.mvs q).fr.toNat == b.accs.length + 1) = true then (if ((gm b.mvs q).to.toNat == b.accs.length + 1) = true then 0 else gi V q) else (if ((gm b.mvs q).to.toNat == b.accs.length + 1) = true then -(gi V q) else 0) := rfl
      rw [hr, if_neg (by rw [beq_iff_eq]; omega), if_neg (by rw [beq_iff_eq]; omega)]
    have e4 : sumN (fun q => roomE (fun v => v == b.accs.length + 1) (pinE (edL b.accs.length L) W q)) b.accs.length = -(sumN (fun k => gi W k) b.accs.length) := by
      rw [← sumN_neg]
      refine sumN_congr _ fun q hq => ?_
      have hr : roomE (fun v => v == b.accs.length + 1) (pinE (edL b.accs.length L) W q) = if (q == b.accs.length + 1) = true then (if (b.accs.length + 1 == b.accs.length + 1) = true then 0 else gi W q) else (if (b.accs.length + 1 == b.accs.length + 1) = true then -(gi W q) else 0) := rfl
      rw [hr, if_neg (by simp; omega), if_pos (by simp)]
    have e5 : roomE (fun v => v == b.accs.length + 1) ⟨b.accs.length + 1, b.accs.length, t, t⟩ = t := by
      have hr : roomE (fun v => v == b.accs.length + 1) ⟨b.accs.length + 1, b.accs.length, t, t⟩ = if (b.accs.length + 1 == b.accs.length + 1) = true then (if (b.accs.length == b.accs.length + 1) = true then 0 else t) else (if (b.accs.length == b.accs.length + 1) = true then -t else 0) := rfl
      rw [hr, if_pos (by simp), if_neg (by simp)]
    rw [e1, e2, e3, e4, e5] at h1
    omega
  refine ⟨O, C, V, ⟨lO, lC, lV⟩, ⟨fun k hk => ⟨fit_rng f1 hk, fit_rng f2 hk⟩, fun j hj => fit_rng f3 hj, fun j hj => ⟨(hok.mv j hj).fr, (hok.mv j hj).to⟩, fun k hk => ?_⟩, fun k hk => ?_, ?_⟩
  · have h1 := fit_rng f4 hk
    have h2 := hL k hk
    have e1 : (edL b.accs.length L k).lo = (L k).lo := rfl
    have e2 : (edL b.accs.length L k).hi = (L k).hi := rfl
    rw [hlos k hk]
    rw [e1, e2] at h1
    exact ⟨by omega, fun e => by have := h2.2 e; omega⟩
  · rw [hlos k hk]; exact fit_rng f4 hk
  · rw [sumN_congr (g := fun k => gi W k) _ hlos, htot]; exact ht
end Go.Proofs.Ytfifldbinnkdmaa
/- Each end of what accounts lose, of the total and of a refined span is that of a truth; in plain numbers. -/
namespace Go.Proofs.Ytfifldbinnkdmaa
open Go.RowKit

/-- No set of accounts contradicts a book. -/
def Calm (b : Bok) : Prop := ∀ i, i < 2 ^ b.accs.length → 0 ≤ (grp b i).most ∧ ((grp b i).ground = true → (grp b i).least ≤ 0)
theorem calm_iff {b : Bok} : calm b (2 ^ b.accs.length) ↔ Calm b := by
  constructor
  · intro h i hi
    have h1 := h i hi
    unfold clash at h1
    rw [Bool.or_eq_false_iff] at h1
    obtain ⟨h1, h2⟩ := h1
    refine ⟨by simpa using h1, fun hg => ?_⟩
    rw [hg] at h2
    simpa using h2
  · intro h i hi
    obtain ⟨h1, h2⟩ := h i hi
    unfold clash
    rw [Bool.or_eq_false_iff]
    refine ⟨by simpa using h1, ?_⟩
    cases hg : (grp b i).ground with
    | false => rfl
    | true => have := h2 hg; simpa using this
def CAP : Int := 2251799813685248
def L0 (b : Bok) (k : Nat) : Sp := if (ga b.accs k).kind = 2 then ⟨0, 0⟩ else ⟨0, CAP⟩
def T0 : Sp := ⟨0, 16 * CAP⟩
theorem L0_lo (b : Bok) (k : Nat) : (L0 b k).lo = 0 := by unfold L0; split <;> rfl
theorem L0_hi (b : Bok) (k : Nat) : 0 ≤ (L0 b k).hi := by unfold L0 CAP; split <;> simp
theorem L0_tank {b : Bok} {k : Nat} (h : (ga b.accs k).kind ≠ 2) : (L0 b k).hi = CAP := by unfold L0; rw [if_neg h]
theorem sumS_zero {i : Nat} {f : Nat → Int} : ∀ n, (∀ k, k < n → i.testBit k = true → f k = 0) → sumS i f n = 0
  | 0, _ => rfl
  | n + 1, h => by
    simp only [sumS]
    rw [sumS_zero n fun k hk => h k (by omega)]
    split
    · rename_i hb; rw [h n (by omega) hb]; rfl
    · rfl
theorem sumC_zero {i : Nat} {f : Nat → Int} : ∀ n, (∀ k, k < n → f k = 0) → sumC i f n = 0
  | 0, _ => rfl
  | n + 1, h => by
    simp only [sumC]
    rw [sumC_zero n fun k hk => h k (by omega), h n (by omega)]
    split <;> rfl
theorem sumC_nn {i : Nat} {f : Nat → Int} : ∀ n, (∀ k, k < n → 0 ≤ f k) → 0 ≤ sumC i f n
  | 0, _ => Int.le_refl _
  | n + 1, h => by
    have h1 := sumC_nn (i := i) n fun k hk => h k (by omega)
    have h2 := h n (by omega)
    simp only [sumC]
    split <;> omega
theorem sumC_ge {i a : Nat} {f : Nat → Int} : ∀ n, (∀ k, k < n → 0 ≤ f k) → a < n → i.testBit a = false → f a ≤ sumC i f n
  | 0, _, ha, _ => by omega
  | n + 1, h, ha, hb => by
    have h1 := sumC_nn (i := i) n fun k hk => h k (by omega)
    have h2 := h n (by omega)
    simp only [sumC]
    by_cases e : a = n
    · subst e; rw [hb]; simp; omega
    · have := sumC_ge (i := i) n (fun k hk => h k (by omega)) (by omega : a < n) hb
      split <;> omega
theorem sumC_one {i a : Nat} {x : Int} (hx : 0 ≤ x) {f : Nat → Int} (h : ∀ k, k ≠ a → f k = 0) (ha : f a = x) : ∀ n, sumC i f n ≤ x
  | 0 => hx
  | n + 1 => by
    have h1 := sumC_one (i := i) hx h ha n
    simp only [sumC]
    by_cases e : n = a
    · subst e
      rw [sumC_zero n fun k hk => h k (by omega)]
      split <;> omega
    · rw [h n e]
      split <;> omega
theorem grpA_tank {l : List Acc} {i : Nat} : ∀ n, (grpA l i n).ground = false → ∃ k, k < n ∧ i.testBit k = true ∧ (ga l k).kind ≠ 2
  | 0, h => by simp [grpA] at h
  | n + 1, h => by
    cases hb : i.testBit n with
    | true =>
      rw [grpA_yes hb] at h
      simp only [Bool.and_eq_false_iff] at h
      rcases h with h | h
      · obtain ⟨k, h1, h2⟩ := grpA_tank n h; exact ⟨k, by omega, h2⟩
      · exact ⟨n, by omega, hb, by simpa using h⟩
    | false =>
      rw [grpA_no hb] at h
      obtain ⟨k, h1, h2⟩ := grpA_tank n h; exact ⟨k, by omega, h2⟩
theorem grpA_out {l : List Acc} {i : Nat} : ∀ n, (grpA l i n).rest = false → ∃ k, k < n ∧ i.testBit k = false ∧ (ga l k).kind ≠ 2
  | 0, h => by simp [grpA] at h
  | n + 1, h => by
    cases hb : i.testBit n with
    | true =>
      rw [grpA_yes hb] at h
      obtain ⟨k, h1, h2⟩ := grpA_out n h; exact ⟨k, by omega, h2⟩
    | false =>
      rw [grpA_no hb] at h
      simp only [Bool.and_eq_false_iff] at h
      rcases h with h | h
      · obtain ⟨k, h1, h2⟩ := grpA_out n h; exact ⟨k, by omega, h2⟩
      · exact ⟨n, by omega, hb, by simpa using h⟩
theorem oth_tank {b : Bok} {a i : Nat} : ∀ n, othF b a i n = false → ∃ k, k < n ∧ k ≠ a ∧ i.testBit k = true ∧ (ga b.accs k).kind ≠ 2
  | 0, h => by simp [othF] at h
  | n + 1, h => by
    simp only [othF, Bool.and_eq_false_iff, Bool.or_eq_false_iff] at h
    rcases h with h | ⟨⟨h1, h2⟩, h3⟩
    · obtain ⟨k, h1, h2⟩ := oth_tank n h; exact ⟨k, by omega, h2⟩
    · exact ⟨n, by omega, by simpa using h1, by simpa using h2, by simpa using h3⟩
theorem L0_ok {b : Bok} (k : Nat) : (0 ≤ (L0 b k).lo ∧ (L0 b k).lo ≤ (L0 b k).hi) ∧ ((ga b.accs k).kind = 2 → (L0 b k).hi = 0) := by
  refine ⟨⟨by rw [L0_lo]; omega, by rw [L0_lo]; exact L0_hi b k⟩, fun h => ?_⟩
  unfold L0
  rw [if_pos h]
section
variable {b : Bok} (hok : BokOk b) (hc : Calm b)
include hok hc
theorem base_c1 {L : Nat → Sp} (hn : ∀ k, k < b.accs.length → 0 ≤ (L k).hi) {i : Nat} (hi : i < 2 ^ b.accs.length) (hL : ∀ k, k < b.accs.length → i.testBit k = true → (ga b.accs k).kind ≠ 2 → (L k).hi = CAP) : (grp b i).least ≤ sumS i (fun k => (L k).hi) b.accs.length := by
  have h0 : 0 ≤ sumS i (fun k => (L k).hi) b.accs.length := sumS_nn fun k hk _ => hn k hk
  cases hg : (grp b i).ground with
  | true => have := (hc i hi).2 hg; omega
  | false =>
    have hg' : (grpA b.accs i b.accs.length).ground = false := by rw [← (grpM_ground b.mvs i _ b.mvs.length).1]; exact hg
    obtain ⟨k, h1, h2, h3⟩ := grpA_tank _ hg'
    have h4 := sumS_ge (i := i) (a := k) (f := fun k => (L k).hi) (n := b.accs.length) hn h1 h2
    have h5 := hL k h1 h2 h3
    have h6 := (grp_bd hok i).1
    unfold CAP at h5
    omega
theorem room0 : Room b (L0 b) T0 := by
  refine ⟨fun i hi => base_c1 hok hc (fun k _ => L0_hi b k) hi fun k _ _ h => L0_tank h, fun i hi => ?_, fun i hi => ?_, fun i hi => ?_⟩
  · rw [sumC_zero _ fun k _ => L0_lo b k]
    have := (grp_bd hok i).1
    unfold T0 CAP
    simp only
    omega
  · have h1 := (hc i hi).1
    have h2 := sumC_nn (i := i) (f := fun k => (L0 b k).hi) b.accs.length fun k _ => L0_hi b k
    show (0 : Int) ≤ _
    omega
  · rw [sumS_zero _ fun k _ _ => L0_lo b k]
    exact (hc i hi).1
/-- A truth, with as many numbers as there are spans. -/
def TruL (b : Bok) (O C V : List Int) : Prop := (O.length = b.accs.length ∧ C.length = b.accs.length ∧ V.length = b.mvs.length) ∧ TruthIn b O C V
theorem some_truth : ∃ O C V, TruL b O C V := by
  obtain ⟨O, C, V, h1, h2, _⟩ := truth_exists hok (room0 hok hc) (fun k _ => L0_ok k) (by unfold T0 CAP; decide)
  exact ⟨O, C, V, h1, h2⟩
end
/-- A span whose ends are the least and the greatest of some numbers. -/
def Ends (P : Int → Prop) (s : Sp) : Prop := P s.lo ∧ P s.hi ∧ ∀ v, P v → s.lo ≤ v ∧ v ≤ s.hi
theorem Ends.uniq {P Q : Int → Prop} {s t : Sp} (h : Ends P s) (h' : Ends Q t) (e : ∀ v, P v ↔ Q v) : s = t := by
  obtain ⟨a1, a2, a3⟩ := h
  obtain ⟨b1, b2, b3⟩ := h'
  have c1 := a3 _ ((e _).2 b1)
  have c2 := a3 _ ((e _).2 b2)
  have c3 := b3 _ ((e _).1 a1)
  have c4 := b3 _ ((e _).1 a2)
  cases s
  cases t
  simp only at c1 c2 c3 c4
  congr 1 <;> omega
theorem acc_lo {b : Bok} {a : Nat} : ∀ m, 0 ≤ (accF b a m).lo ∧ ∀ i, i < m → i.testBit a = true → othF b a i b.accs.length = true → (grp b i).least ≤ (accF b a m).lo
  | 0 => ⟨Int.le_refl _, fun i hi => by omega⟩
  | m + 1 => by
    obtain ⟨h1, h2⟩ := acc_lo (b := b) (a := a) m
    simp only [accF]
    by_cases hb : m.testBit a = true
    · rw [if_pos hb]
      refine ⟨by simp only; split <;> omega, fun i hi hi2 ho => ?_⟩
      simp only
      by_cases e : i = m
      · subst e; rw [if_pos ho]; omega
      · have := h2 i (by omega) hi2 ho
        split <;> omega
    · rw [if_neg hb]
      refine ⟨h1, fun i hi hi2 ho => ?_⟩
      by_cases e : i = m
      · subst e; exact absurd hi2 hb
      · exact h2 i (by omega) hi2 ho
theorem acc_hi {b : Bok} {a : Nat} : ∀ m, (accF b a m).hi ≤ 1125899906842624 ∧ ∀ i, i < m → i.testBit a = true → (accF b a m).hi ≤ (grp b i).most
  | 0 => ⟨Int.le_refl _, fun i hi => by omega⟩
  | m + 1 => by
    obtain ⟨h1, h2⟩ := acc_hi (b := b) (a := a) m
    simp only [accF]
    by_cases hb : m.testBit a = true
    · rw [if_pos hb]
      refine ⟨by simp only; omega, fun i hi hi2 => ?_⟩
      simp only
      by_cases e : i = m
      · subst e; omega
      · have := h2 i (by omega) hi2
        omega
    · rw [if_neg hb]
      refine ⟨h1, fun i hi hi2 => ?_⟩
      by_cases e : i = m
      · subst e; exact absurd hi2 hb
      · exact h2 i (by omega) hi2
theorem tot_lo {b : Bok} : ∀ m, 0 ≤ (totF b m).lo ∧ ∀ i, i < m → (grp b i).least ≤ (totF b m).lo
  | 0 => ⟨Int.le_refl _, fun i hi => by omega⟩
  | m + 1 => by
    obtain ⟨h1, h2⟩ := tot_lo (b := b) m
    simp only [totF]
    refine ⟨by omega, fun i hi => ?_⟩
    by_cases e : i = m
    · subst e; omega
    · have := h2 i (by omega); omega
theorem tot_hi {b : Bok} : ∀ m, (totF b m).hi ≤ 1125899906842624 ∧ ∀ i, i < m → (grp b i).rest = true → (totF b m).hi ≤ (grp b i).most
  | 0 => ⟨Int.le_refl _, fun i hi => by omega⟩
  | m + 1 => by
    obtain ⟨h1, h2⟩ := tot_hi (b := b) m
    simp only [totF]
    refine ⟨by split <;> omega, fun i hi hr => ?_⟩
    by_cases e : i = m
    · subst e; rw [if_pos hr]; omega
    · have := h2 i (by omega) hr
      split <;> omega
section
variable {b : Bok} (hok : BokOk b) (hc : Calm b)
include hok hc
omit hc in
theorem los_bd {O C V : List Int} (h : TruthIn b O C V) : sumN (losA b O C V) b.accs.length ≤ 1125899906842624 := by
  have hn := hok.n8
  have hsum := los_sum (O := O) (C := C) (V := V) hok.mv
  have hO1 : sumN (fun k => gi O k) b.accs.length ≤ 1000000000 * (b.accs.length : Int) := sumN_le _ fun k hk => by
    have h1 := (h.acc k hk).1
    have h2 := (hok.acc k hk).op
    omega
  have hC1 : 0 ≤ sumN (fun k => gi C k) b.accs.length := sumN_nn _ fun k hk => by
    have h1 := (h.acc k hk).2
    have h2 := (hok.acc k hk).cl
    omega
  omega
theorem loss_at {a : Nat} (ha : a < b.accs.length) {x : Int} (hx : (lossA b a).lo ≤ x ∧ x ≤ (lossA b a).hi) : ∃ O C V, TruL b O C V ∧ losA b O C V a = x := by
  by_cases hk : (ga b.accs a).kind = 2
  · obtain ⟨O, C, V, h⟩ := some_truth hok hc
    refine ⟨O, C, V, h, ?_⟩
    unfold lossA at hx
    rw [if_pos hk] at hx
    simp only at hx
    rw [(h.2.los a ha).2 hk]
    omega
  · unfold lossA at hx
    rw [if_neg hk] at hx
    obtain ⟨p1, p2⟩ := acc_lo (b := b) (a := a) (2 ^ b.accs.length)
    obtain ⟨q1, q2⟩ := acc_hi (b := b) (a := a) (2 ^ b.accs.length)
    have e1 : ∀ k, k ≠ a → (fun k => if k = a then (⟨x, x⟩ : Sp) else L0 b k) k = L0 b k := fun k h => if_neg h
    have e2 : (fun k => if k = a then (⟨x, x⟩ : Sp) else L0 b k) a = ⟨x, x⟩ := if_pos rfl
    obtain ⟨L, hL⟩ : ∃ L, (fun k => if k = a then (⟨x, x⟩ : Sp) else L0 b k) = L := ⟨_, rfl⟩
    rw [hL] at e1 e2
    have hnn : ∀ k, 0 ≤ (L k).hi := fun k => by
      by_cases e : k = a
      · subst e; rw [e2]; show 0 ≤ x; omega
      · rw [e1 k e]; exact L0_hi b k
    have hr : Room b L T0 := by
      refine ⟨fun i hi => ?_, fun i hi => ?_, fun i hi => ?_, fun i hi => ?_⟩
      · cases hb : i.testBit a with
        | false =>
          exact base_c1 hok hc (fun k _ => hnn k) hi fun k _ hkb hkk => by
            have e : k ≠ a := fun e => by subst e; rw [hb] at hkb; cases hkb
            rw [e1 k e]; exact L0_tank hkk
        | true =>
          cases ho : othF b a i b.accs.length with
          | true =>
            have h1 := p2 i hi hb ho
            have h2 := sumS_ge (i := i) (a := a) (f := fun k => (L k).hi) (n := b.accs.length) (fun k _ => hnn k) ha hb
            simp only [e2] at h2
            omega
          | false =>
            obtain ⟨k, h1, h2, h3, h4⟩ := oth_tank _ ho
            have h5 := sumS_ge (i := i) (a := k) (f := fun k => (L k).hi) (n := b.accs.length) (fun k _ => hnn k) h1 h3
            rw [e1 k h2, L0_tank h4] at h5
            have h6 := (grp_bd hok i).1
            unfold CAP at h5
            omega
      · have h1 := sumC_one (i := i) (a := a) (x := x) (by omega) (f := fun k => (L k).lo) (fun k h => by show (L k).lo = 0; rw [e1 k h]; exact L0_lo b k) (by show (L a).lo = x; rw [e2]) b.accs.length
        have h2 := (grp_bd hok i).1
        unfold T0 CAP
        simp only
        omega
      · have h1 := (hc i hi).1
        have h2 := sumC_nn (i := i) (f := fun k => (L k).hi) b.accs.length fun k _ => hnn k
        show (0 : Int) ≤ _
        omega
      · rw [sumS_only (a := a) (f := fun k => (L k).lo) (fun k _ _ h => by show (L k).lo = 0; rw [e1 k h]; exact L0_lo b k)]
        split
        · rename_i h
          have := q2 i hi h.2
          show (L a).lo ≤ _
          rw [e2]
          show x ≤ _
          omega
        · exact (hc i hi).1
    obtain ⟨O, C, V, h1, h2, h3, _⟩ := truth_exists hok hr (fun k _ => by
      by_cases e : k = a
      · subst e; rw [e2]; exact ⟨⟨by show 0 ≤ x; omega, Int.le_refl _⟩, fun h => absurd h hk⟩
      · rw [e1 k e]; exact L0_ok k) (by unfold T0 CAP; decide)
    refine ⟨O, C, V, ⟨h1, h2⟩, ?_⟩
    have h4 := h3 a ha
    rw [e2] at h4
    simp only at h4
    omega
theorem tot_at {x : Int} (hx : (lossT b).lo ≤ x ∧ x ≤ (lossT b).hi) : ∃ O C V, TruL b O C V ∧ sumN (losA b O C V) b.accs.length = x := by
  unfold lossT at hx
  obtain ⟨p1, p2⟩ := tot_lo (b := b) (2 ^ b.accs.length)
  obtain ⟨q1, q2⟩ := tot_hi (b := b) (2 ^ b.accs.length)
  have r0 := room0 hok hc
  have hr : Room b (L0 b) ⟨x, x⟩ := by
    refine ⟨r0.c1, fun i hi => ?_, fun i hi => ?_, r0.c4⟩
    · rw [sumC_zero _ fun k _ => L0_lo b k]
      have := p2 i hi
      show _ ≤ x
      omega
    · have h2 := sumC_nn (i := i) (f := fun k => (L0 b k).hi) b.accs.length fun k _ => L0_hi b k
      have h3 := (hc i hi).1
      show x ≤ _
      cases hs : (grp b i).rest with
      | true => have := q2 i hi hs; omega
      | false =>
        have hs' : (grpA b.accs i b.accs.length).rest = false := by rw [← (grpM_ground b.mvs i _ b.mvs.length).2]; exact hs
        obtain ⟨k, h4, h5, h6⟩ := grpA_out _ hs'
        have h7 := sumC_ge (i := i) (a := k) (f := fun k => (L0 b k).hi) b.accs.length (fun k _ => L0_hi b k) h4 h5
        simp only [L0_tank h6] at h7
        unfold CAP at h7
        omega
  obtain ⟨O, C, V, h1, h2, _, h4⟩ := truth_exists hok hr (fun k _ => L0_ok k) (Int.le_refl _)
  simp only at h4
  exact ⟨O, C, V, ⟨h1, h2⟩, by omega⟩
theorem ends_loss {a : Nat} (ha : a < b.accs.length) : Ends (fun v => ∃ O C V, TruL b O C V ∧ losA b O C V a = v) (lossA b a) := by
  obtain ⟨O, C, V, h⟩ := some_truth hok hc
  have h1 := loss_in hok h.2 ha
  refine ⟨loss_at hok hc ha ⟨Int.le_refl _, by omega⟩, loss_at hok hc ha ⟨by omega, Int.le_refl _⟩, ?_⟩
  rintro v ⟨O', C', V', h', rfl⟩
  exact loss_in hok h'.2 ha
theorem ends_tot : Ends (fun v => ∃ O C V, TruL b O C V ∧ sumN (losA b O C V) b.accs.length = v) (lossT b) := by
  obtain ⟨O, C, V, h⟩ := some_truth hok hc
  have h1 : (lossT b).lo ≤ _ ∧ _ ≤ (lossT b).hi := tot_in h.2 (los_bd hok h.2) (2 ^ b.accs.length)
  refine ⟨tot_at hok hc ⟨Int.le_refl _, by omega⟩, tot_at hok hc ⟨by omega, Int.le_refl _⟩, ?_⟩
  rintro v ⟨O', C', V', h', rfl⟩
  exact tot_in h'.2 (los_bd hok h'.2) (2 ^ b.accs.length)
end
end Go.Proofs.Ytfifldbinnkdmaa
/- Each end of a refined span is that of a truth; a refined book lies within the book and has the same truths; in plain numbers. -/
namespace Go.Proofs.Ytfifldbinnkdmaa
open Go.RowKit

theorem narF_sub {b : Bok} {into out : Nat → Bool} {was : Sp} : ∀ m, was.lo ≤ (narF b into out was m).lo ∧ (narF b into out was m).hi ≤ was.hi
  | 0 => ⟨Int.le_refl _, Int.le_refl _⟩
  | m + 1 => by
    obtain ⟨h1, h2⟩ := narF_sub (b := b) (into := into) (out := out) (was := was) m
    unfold narF
    by_cases c1 : into m = true
    · rw [if_pos c1]; simp only; refine ⟨by omega, ?_⟩; split <;> omega
    · rw [if_neg c1]
      by_cases c2 : out m = true
      · rw [if_pos c2]; simp only; refine ⟨?_, by omega⟩; split <;> omega
      · rw [if_neg c2]; exact ⟨h1, h2⟩
theorem narF_into {b : Bok} {into out : Nat → Bool} {was : Sp} : ∀ m i, i < m → into i = true → was.hi - (grp b i).most ≤ (narF b into out was m).lo ∧ ((grp b i).ground = true → (narF b into out was m).hi ≤ was.lo - (grp b i).least)
  | 0, i, hi, _ => by omega
  | m + 1, i, hi, hin => by
    unfold narF
    by_cases e : i = m
    · subst e
      rw [if_pos hin]
      simp only
      refine ⟨by omega, fun hg => ?_⟩
      rw [if_pos hg]; omega
    · obtain ⟨h1, h2⟩ := narF_into (b := b) (into := into) (out := out) (was := was) m i (by omega) hin
      by_cases c1 : into m = true
      · rw [if_pos c1]; simp only; refine ⟨by omega, fun hg => ?_⟩; have := h2 hg; split <;> omega
      · rw [if_neg c1]
        by_cases c2 : out m = true
        · rw [if_pos c2]; simp only; refine ⟨?_, fun hg => ?_⟩
          · split <;> omega
          · have := h2 hg; omega
        · rw [if_neg c2]; exact ⟨h1, h2⟩
theorem narF_outo {b : Bok} {into out : Nat → Bool} {was : Sp} : ∀ m i, i < m → into i = false → out i = true → (narF b into out was m).hi ≤ was.lo + (grp b i).most ∧ ((grp b i).ground = true → was.hi + (grp b i).least ≤ (narF b into out was m).lo)
  | 0, i, hi, _, _ => by omega
  | m + 1, i, hi, hin, hou => by
    unfold narF
    by_cases e : i = m
    · subst e
      rw [if_neg (by rw [hin]; simp), if_pos hou]
      simp only
      refine ⟨by omega, fun hg => ?_⟩
      rw [if_pos hg]; omega
    · obtain ⟨h1, h2⟩ := narF_outo (b := b) (into := into) (out := out) (was := was) m i (by omega) hin hou
      by_cases c1 : into m = true
      · rw [if_pos c1]; simp only; refine ⟨?_, fun hg => ?_⟩
        · split <;> omega
        · have := h2 hg; omega
      · rw [if_neg c1]
        by_cases c2 : out m = true
        · rw [if_pos c2]; simp only; refine ⟨by omega, fun hg => ?_⟩; have := h2 hg; split <;> omega
        · rw [if_neg c2]; exact ⟨h1, h2⟩
theorem grp_setOp_no {b : Bok} {a i : Nat} {s : Sp} (ha : a < b.accs.length) (hb : i.testBit a = false) : grp (setOp b a s) i = grp b i := by
  unfold grp setOp
  simp only [List.length_set]
  rw [grpA_same (l := b.accs) (l' := b.accs.set a { ga b.accs a with op := s }) (i := i) _ (fun k _ => by rw [ga_setOp ha]; split <;> simp_all) (fun k _ hkb => by
    rw [ga_setOp ha, if_neg (fun e => by subst e; rw [hb] at hkb; cases hkb)]; exact ⟨rfl, rfl⟩)]
theorem grp_setCl_no {b : Bok} {a i : Nat} {s : Sp} (ha : a < b.accs.length) (hb : i.testBit a = false) : grp (setCl b a s) i = grp b i := by
  unfold grp setCl
  simp only [List.length_set]
  rw [grpA_same (l := b.accs) (l' := b.accs.set a { ga b.accs a with cl := s }) (i := i) _ (fun k _ => by rw [ga_setCl ha]; split <;> simp_all) (fun k _ hkb => by
    rw [ga_setCl ha, if_neg (fun e => by subst e; rw [hb] at hkb; cases hkb)]; exact ⟨rfl, rfl⟩)]
theorem shG_zero (g : Grp) : shG g 0 0 = g := by cases g; simp [shG]
theorem grp_setLi_no {b : Bok} {a i : Nat} {s : Sp} (ha : a < b.mvs.length) (ht : bitOf i (gm b.mvs a).to = bitOf i (gm b.mvs a).fr) : grp (setLi b a s) i = grp b i := by
  rw [← shG_zero (grp b i)]
  unfold grp setLi
  simp only [List.length_set]
  refine grpM_one (a := a) (fun k hk => by rw [gm_setLi ha, if_neg hk]) (fun _ _ => ?_) _ ha
  have ih := grpM_alike (l := b.mvs) (l' := b.mvs.set a { gm b.mvs a with li := s }) (i := i) (g := grpA b.accs i b.accs.length) a fun k hk => by rw [gm_setLi ha, if_neg (by omega)]
  rw [shG_zero]
  simp only [grpM, ih]
  rw [gm_setLi ha, if_pos rfl]
  simp only [ht]
  cases bitOf i (gm b.mvs a).fr <;> simp
theorem acc_setOp {b : Bok} {a : Nat} {x : Int} (hok : BokOk b) (ha : a < b.accs.length) (hx : 0 ≤ x ∧ x ≤ 1000000000) : BokOk (setOp b a ⟨x, x⟩) := by
  have e : (setOp b a ⟨x, x⟩).accs.length = b.accs.length := List.length_set
  refine ⟨by rw [e]; exact hok.n0, by rw [e]; exact hok.n8, hok.m30, fun k hk => ?_, fun k hk => by rw [e]; exact hok.mv k hk⟩
  rw [e] at hk
  show AccOk (ga (b.accs.set a _) k)
  rw [ga_setOp ha]
  have h1 := hok.acc a ha
  split
  · exact ⟨h1.named, h1.kind, by show 0 ≤ x ∧ x ≤ x ∧ x ≤ 1000000000; omega, h1.cl⟩
  · exact hok.acc k hk
theorem acc_setCl {b : Bok} {a : Nat} {x : Int} (hok : BokOk b) (ha : a < b.accs.length) (hx : 0 ≤ x ∧ x ≤ 1000000000) : BokOk (setCl b a ⟨x, x⟩) := by
  have e : (setCl b a ⟨x, x⟩).accs.length = b.accs.length := List.length_set
  refine ⟨by rw [e]; exact hok.n0, by rw [e]; exact hok.n8, hok.m30, fun k hk => ?_, fun k hk => by rw [e]; exact hok.mv k hk⟩
  rw [e] at hk
  show AccOk (ga (b.accs.set a _) k)
  rw [ga_setCl ha]
  have h1 := hok.acc a ha
  split
  · exact ⟨h1.named, h1.kind, h1.op, by show 0 ≤ x ∧ x ≤ x ∧ x ≤ 1000000000; omega⟩
  · exact hok.acc k hk
theorem mv_setLi {b : Bok} {a : Nat} {x : Int} (hok : BokOk b) (ha : a < b.mvs.length) (hx : 0 ≤ x ∧ x ≤ 1000000000) : BokOk (setLi b a ⟨x, x⟩) := by
  have e : (setLi b a ⟨x, x⟩).mvs.length = b.mvs.length := List.length_set
  refine ⟨hok.n0, hok.n8, by rw [e]; exact hok.m30, hok.acc, fun k hk => ?_⟩
  rw [e] at hk
  show MvOk b.accs.length (gm (b.mvs.set a _) k)
  rw [gm_setLi ha]
  have h1 := hok.mv a ha
  split
  · exact ⟨h1.fr, h1.to, h1.ne, by show 0 ≤ x ∧ x ≤ x ∧ x ≤ 1000000000; omega⟩
  · exact hok.mv k hk
/-- A book whose spans lie within those of another one, with the same accounts and moves, has no other truths. -/
structure NarB (c b : Bok) : Prop where
  n : c.accs.length = b.accs.length
  m : c.mvs.length = b.mvs.length
  acc : ∀ k, k < b.accs.length → (ga c.accs k).kind = (ga b.accs k).kind ∧ subS (ga c.accs k).op (ga b.accs k).op ∧ subS (ga c.accs k).cl (ga b.accs k).cl
  mv : ∀ k, k < b.mvs.length → ((gm c.mvs k).fr = (gm b.mvs k).fr ∧ (gm c.mvs k).to = (gm b.mvs k).to) ∧ subS (gm c.mvs k).li (gm b.mvs k).li
theorem NarB.los {c b : Bok} (h : NarB c b) (O C V : List Int) (k : Nat) : losA c O C V k = losA b O C V k := by
  unfold losA
  rw [h.m, balF_same b.mvs.length fun q hq => (h.mv q hq).1]
theorem NarB.tru {c b : Bok} (h : NarB c b) {O C V : List Int} (ht : TruL c O C V) : TruL b O C V := by
  obtain ⟨⟨l1, l2, l3⟩, h1, h2, h3, h4⟩ := ht
  rw [h.n] at l1 l2 h1 h3 h4
  rw [h.m] at l3 h2 h3
  refine ⟨⟨l1, l2, l3⟩, fun k hk => ?_, fun k hk => ?_, fun k hk => ?_, fun k hk => ?_⟩
  · have a1 := h1 k hk
    obtain ⟨_, a2, a3⟩ := h.acc k hk
    unfold truA at a1 ⊢
    unfold subS at a2 a3
    omega
  · have a1 := h2 k hk
    have a2 := (h.mv k hk).2
    unfold truM at a1 ⊢
    unfold subS at a2
    omega
  · have a1 := h3 k hk
    rw [(h.mv k hk).1.1, (h.mv k hk).1.2] at a1
    exact a1
  · have a1 := h4 k hk
    rw [h.los, (h.acc k hk).1] at a1
    exact a1
section
variable {b : Bok} (hok : BokOk b) (hc : Calm b)
include hok hc
theorem op_at {a : Nat} (ha : a < b.accs.length) {x : Int} (hx : (narO b a).lo ≤ x ∧ x ≤ (narO b a).hi) : ∃ O C V, TruL b O C V ∧ gi O a = x := by
  unfold narO at hx
  have h0 := narF_sub (b := b) (into := fun i_ => bitOf i_ (a : Int)) (out := fun _ => false) (was := (ga b.accs a).op) (2 ^ b.accs.length)
  have hop := (hok.acc a ha).op
  have e : (setOp b a ⟨x, x⟩).accs.length = b.accs.length := List.length_set
  have hcs : Calm (setOp b a ⟨x, x⟩) := by
    intro i hi
    rw [e] at hi
    cases hb : i.testBit a with
    | true =>
      rw [grp_setOp ha hb]
      have h1 := narF_into (b := b) (into := fun i_ => bitOf i_ (a : Int)) (out := fun _ => false) (was := (ga b.accs a).op) (2 ^ b.accs.length) i hi (by show bitOf i (a : Int) = true; rw [bitOf_natT]; exact hb)
      simp only [shG]
      exact ⟨by omega, fun hg => by have := h1.2 hg; omega⟩
    | false => rw [grp_setOp_no ha hb]; exact hc i hi
  obtain ⟨O, C, V, h⟩ := some_truth (acc_setOp hok ha (x := x) (by omega)) hcs
  have hn : NarB (setOp b a ⟨x, x⟩) b := by
    refine ⟨e, rfl, fun k hk => ?_, fun k hk => ⟨⟨rfl, rfl⟩, Int.le_refl _, Int.le_refl _⟩⟩
    show (ga (b.accs.set a _) k).kind = _ ∧ subS (ga (b.accs.set a _) k).op _ ∧ subS (ga (b.accs.set a _) k).cl _
    rw [ga_setOp ha]
    split
    · rename_i e2; subst e2; exact ⟨rfl, ⟨by show _ ≤ x; omega, by show x ≤ _; omega⟩, Int.le_refl _, Int.le_refl _⟩
    · exact ⟨rfl, ⟨Int.le_refl _, Int.le_refl _⟩, Int.le_refl _, Int.le_refl _⟩
  refine ⟨O, C, V, hn.tru h, ?_⟩
  have h2 := (h.2.acc a (by rw [e]; exact ha)).1
  have e2 : (ga (setOp b a ⟨x, x⟩).accs a).op = ⟨x, x⟩ := by
    show (ga (b.accs.set a _) a).op = _
    rw [ga_setOp ha, if_pos rfl]
  rw [e2] at h2
  simp only at h2
  omega
theorem cl_at {a : Nat} (ha : a < b.accs.length) {x : Int} (hx : (narC b a).lo ≤ x ∧ x ≤ (narC b a).hi) : ∃ O C V, TruL b O C V ∧ gi C a = x := by
  unfold narC at hx
  have h0 := narF_sub (b := b) (into := fun _ => false) (out := fun i_ => bitOf i_ (a : Int)) (was := (ga b.accs a).cl) (2 ^ b.accs.length)
  have hop := (hok.acc a ha).cl
  have e : (setCl b a ⟨x, x⟩).accs.length = b.accs.length := List.length_set
  have hcs : Calm (setCl b a ⟨x, x⟩) := by
    intro i hi
    rw [e] at hi
    cases hb : i.testBit a with
    | true =>
      rw [grp_setCl ha hb]
      have h1 := narF_outo (b := b) (into := fun _ => false) (out := fun i_ => bitOf i_ (a : Int)) (was := (ga b.accs a).cl) (2 ^ b.accs.length) i hi rfl (by show bitOf i (a : Int) = true; rw [bitOf_natT]; exact hb)
      simp only [shG]
      exact ⟨by omega, fun hg => by have := h1.2 hg; omega⟩
    | false => rw [grp_setCl_no ha hb]; exact hc i hi
  obtain ⟨O, C, V, h⟩ := some_truth (acc_setCl hok ha (x := x) (by omega)) hcs
  have hn : NarB (setCl b a ⟨x, x⟩) b := by
    refine ⟨e, rfl, fun k hk => ?_, fun k hk => ⟨⟨rfl, rfl⟩, Int.le_refl _, Int.le_refl _⟩⟩
    show (ga (b.accs.set a _) k).kind = _ ∧ subS (ga (b.accs.set a _) k).op _ ∧ subS (ga (b.accs.set a _) k).cl _
    rw [ga_setCl ha]
    split
    · rename_i e2; subst e2; exact ⟨rfl, ⟨Int.le_refl _, Int.le_refl _⟩, by show _ ≤ x; omega, by show x ≤ _; omega⟩
    · exact ⟨rfl, ⟨Int.le_refl _, Int.le_refl _⟩, Int.le_refl _, Int.le_refl _⟩
  refine ⟨O, C, V, hn.tru h, ?_⟩
  have h2 := (h.2.acc a (by rw [e]; exact ha)).2
  have e2 : (ga (setCl b a ⟨x, x⟩).accs a).cl = ⟨x, x⟩ := by
    show (ga (b.accs.set a _) a).cl = _
    rw [ga_setCl ha, if_pos rfl]
  rw [e2] at h2
  simp only at h2
  omega
theorem li_at {a : Nat} (ha : a < b.mvs.length) {x : Int} (hx : (narL b a).lo ≤ x ∧ x ≤ (narL b a).hi) : ∃ O C V, TruL b O C V ∧ gi V a = x := by
  unfold narL at hx
  have h0 := narF_sub (b := b) (into := fun i_ => bitOf i_ (gm b.mvs a).to && !bitOf i_ (gm b.mvs a).fr) (out := fun i_ => bitOf i_ (gm b.mvs a).fr && !bitOf i_ (gm b.mvs a).to) (was := (gm b.mvs a).li) (2 ^ b.accs.length)
  have hop := (hok.mv a ha).li
  have hcs : Calm (setLi b a ⟨x, x⟩) := by
    intro i hi
    have hi : i < 2 ^ b.accs.length := hi
    cases ht : bitOf i (gm b.mvs a).to with
    | true =>
      cases hf : bitOf i (gm b.mvs a).fr with
      | true => rw [grp_setLi_no ha (by rw [ht, hf])]; exact hc i hi
      | false =>
        rw [grp_setLi_in ha ht hf]
        have h1 := narF_into (b := b) (into := fun i_ => bitOf i_ (gm b.mvs a).to && !bitOf i_ (gm b.mvs a).fr) (out := fun i_ => bitOf i_ (gm b.mvs a).fr && !bitOf i_ (gm b.mvs a).to) (was := (gm b.mvs a).li) (2 ^ b.accs.length) i hi (by simp [ht, hf])
        simp only [shG]
        exact ⟨by omega, fun hg => by have := h1.2 hg; omega⟩
    | false =>
      cases hf : bitOf i (gm b.mvs a).fr with
      | false => rw [grp_setLi_no ha (by rw [ht, hf])]; exact hc i hi
      | true =>
        rw [grp_setLi_out ha ht hf]
        have h1 := narF_outo (b := b) (into := fun i_ => bitOf i_ (gm b.mvs a).to && !bitOf i_ (gm b.mvs a).fr) (out := fun i_ => bitOf i_ (gm b.mvs a).fr && !bitOf i_ (gm b.mvs a).to) (was := (gm b.mvs a).li) (2 ^ b.accs.length) i hi (by simp [ht, hf]) (by simp [ht, hf])
        simp only [shG]
        exact ⟨by omega, fun hg => by have := h1.2 hg; omega⟩
  obtain ⟨O, C, V, h⟩ := some_truth (mv_setLi hok ha (x := x) (by omega)) hcs
  have e : (setLi b a ⟨x, x⟩).mvs.length = b.mvs.length := List.length_set
  have hn : NarB (setLi b a ⟨x, x⟩) b := by
    refine ⟨rfl, e, fun k hk => ⟨rfl, ⟨Int.le_refl _, Int.le_refl _⟩, Int.le_refl _, Int.le_refl _⟩, fun k hk => ?_⟩
    show ((gm (b.mvs.set a _) k).fr = _ ∧ (gm (b.mvs.set a _) k).to = _) ∧ subS (gm (b.mvs.set a _) k).li _
    rw [gm_setLi ha]
    split
    · rename_i e2; subst e2; exact ⟨⟨rfl, rfl⟩, by show _ ≤ x; omega, by show x ≤ _; omega⟩
    · exact ⟨⟨rfl, rfl⟩, Int.le_refl _, Int.le_refl _⟩
  refine ⟨O, C, V, hn.tru h, ?_⟩
  have h2 := h.2.mv a (by rw [e]; exact ha)
  unfold truM at h2
  have e2 : (gm (setLi b a ⟨x, x⟩).mvs a).li = ⟨x, x⟩ := by
    show (gm (b.mvs.set a _) a).li = _
    rw [gm_setLi ha, if_pos rfl]
  rw [e2] at h2
  simp only at h2
  omega
theorem ends_op {a : Nat} (ha : a < b.accs.length) : Ends (fun v => ∃ O C V, TruL b O C V ∧ gi O a = v) (narO b a) := by
  obtain ⟨O, C, V, h⟩ := some_truth hok hc
  have h1 := narO_in h.2 ha
  refine ⟨op_at hok hc ha ⟨Int.le_refl _, by omega⟩, op_at hok hc ha ⟨by omega, Int.le_refl _⟩, ?_⟩
  rintro v ⟨O', C', V', h', rfl⟩
  exact narO_in h'.2 ha
theorem ends_cl {a : Nat} (ha : a < b.accs.length) : Ends (fun v => ∃ O C V, TruL b O C V ∧ gi C a = v) (narC b a) := by
  obtain ⟨O, C, V, h⟩ := some_truth hok hc
  have h1 := narC_in h.2 ha
  refine ⟨cl_at hok hc ha ⟨Int.le_refl _, by omega⟩, cl_at hok hc ha ⟨by omega, Int.le_refl _⟩, ?_⟩
  rintro v ⟨O', C', V', h', rfl⟩
  exact narC_in h'.2 ha
theorem ends_li {a : Nat} (ha : a < b.mvs.length) : Ends (fun v => ∃ O C V, TruL b O C V ∧ gi V a = v) (narL b a) := by
  obtain ⟨O, C, V, h⟩ := some_truth hok hc
  have h1 := narL_in h.2 ha
  refine ⟨li_at hok hc ha ⟨Int.le_refl _, by omega⟩, li_at hok hc ha ⟨by omega, Int.le_refl _⟩, ?_⟩
  rintro v ⟨O', C', V', h', rfl⟩
  exact narL_in h'.2 ha
omit hok hc in
/-- The refined book lies within the book. -/
theorem ref_nar : NarB (refB b) b := by
  refine ⟨refAL_len _ _, refML_len _ _, fun k hk => ?_, fun k hk => ?_⟩
  · rw [ga_ref hk]
    exact ⟨rfl, narF_sub _, narF_sub _⟩
  · rw [gm_ref hk]
    exact ⟨⟨rfl, rfl⟩, narF_sub _⟩
omit hok hc in
/-- A truth of the book is one of the refined book. -/
theorem ref_tru {O C V : List Int} (h : TruL b O C V) : TruL (refB b) O C V := by
  have hn := (ref_nar (b := b))
  obtain ⟨hl, ht⟩ := h
  refine ⟨by rw [hn.n, hn.m]; exact hl, fun k hk => ref_truA ht (by rw [hn.n] at hk; exact hk), fun k hk => ref_truM ht (by rw [hn.m] at hk; exact hk), fun k hk => ?_, fun k hk => ?_⟩
  · rw [hn.m] at hk
    rw [gm_ref hk, hn.n]
    exact ht.fr k hk
  · rw [hn.n] at hk
    rw [hn.los, ga_ref hk]
    exact ht.los k hk
theorem ref_ok : BokOk (refB b) := by
  have hn := (ref_nar (b := b))
  obtain ⟨O, C, V, h⟩ := some_truth hok hc
  refine ⟨by rw [hn.n]; exact hok.n0, by rw [hn.n]; exact hok.n8, by rw [hn.m]; exact hok.m30, fun k hk => ?_, fun k hk => ?_⟩
  · rw [hn.n] at hk
    have h1 := hok.acc k hk
    have h2 := narO_in h.2 hk
    have h3 := narC_in h.2 hk
    have h4 := (hn.acc k hk).2
    rw [ga_ref hk] at h4 ⊢
    unfold subS at h4
    exact ⟨h1.named, h1.kind, by have := h1.op; simp only at h4 ⊢; omega, by have := h1.cl; simp only at h4 ⊢; omega⟩
  · rw [hn.m] at hk
    have h1 := hok.mv k hk
    have h2 := narL_in h.2 hk
    have h4 := (hn.mv k hk).2
    rw [gm_ref hk] at h4 ⊢
    unfold subS at h4
    rw [hn.n]
    exact ⟨h1.fr, h1.to, h1.ne, by have := h1.li; simp only at h4 ⊢; omega⟩
theorem ref_calm : Calm (refB b) := by
  obtain ⟨O, C, V, h⟩ := some_truth hok hc
  exact calm_iff.1 (calm_tru (ref_tru h).2 _)
omit hok hc in
theorem ref_iff {O C V : List Int} : TruL (refB b) O C V ↔ TruL b O C V := ⟨((ref_nar (b := b))).tru, ref_tru⟩
theorem ref_loss {a : Nat} (ha : a < b.accs.length) : lossA (refB b) a = lossA b a := by
  have hn := (ref_nar (b := b))
  refine (ends_loss (ref_ok hok hc) (ref_calm hok hc) (by rw [hn.n]; exact ha)).uniq (ends_loss hok hc ha) fun v => ?_
  simp only [ref_iff, hn.los]
theorem ref_tot : lossT (refB b) = lossT b := by
  have hn := (ref_nar (b := b))
  refine (ends_tot (ref_ok hok hc) (ref_calm hok hc)).uniq (ends_tot hok hc) fun v => ?_
  have e : ∀ O C V, losA (refB b) O C V = losA b O C V := fun O C V => funext fun k => hn.los O C V k
  simp only [ref_iff, e, hn.n]
theorem ref_lossL : lossL (refB b) = lossL b := by
  have hn := (ref_nar (b := b))
  unfold lossL
  rw [hn.n]
  exact List.map_congr_left fun k hk => ref_loss hok hc (List.mem_range.1 hk)
/-- What is refined again does not turn. -/
theorem ref_ref : refB (refB b) = refB b := by
  have hn := (ref_nar (b := b))
  have h1 := ref_ok hok hc
  have h2 := ref_calm hok hc
  have ea : ∀ k, k < b.accs.length → ga (refB (refB b)).accs k = ga (refB b).accs k := fun k hk => by
    have hk' : k < (refB b).accs.length := by rw [hn.n]; exact hk
    rw [ga_ref hk']
    have e1 : narO (refB b) k = narO b k := (ends_op h1 h2 hk').uniq (ends_op hok hc hk) fun v => by simp only [ref_iff]
    have e2 : narC (refB b) k = narC b k := (ends_cl h1 h2 hk').uniq (ends_cl hok hc hk) fun v => by simp only [ref_iff]
    rw [e1, e2, ga_ref hk]
  have em : ∀ k, k < b.mvs.length → gm (refB (refB b)).mvs k = gm (refB b).mvs k := fun k hk => by
    have hk' : k < (refB b).mvs.length := by rw [hn.m]; exact hk
    rw [gm_ref hk']
    have e1 : narL (refB b) k = narL b k := (ends_li h1 h2 hk').uniq (ends_li hok hc hk) fun v => by simp only [ref_iff]
    rw [e1, gm_ref hk]
  have l1 : (refB (refB b)).accs.length = (refB b).accs.length := (ref_nar (b := refB b)).n
  have l2 : (refB (refB b)).mvs.length = (refB b).mvs.length := (ref_nar (b := refB b)).m
  have x1 : (refB (refB b)).accs = (refB b).accs := List.ext_getElem l1 fun k p1 p2 => by
    rw [← ga_get p1, ← ga_get p2]; exact ea k (by rw [← hn.n]; exact p2)
  have x2 : (refB (refB b)).mvs = (refB b).mvs := List.ext_getElem l2 fun k p1 p2 => by
    rw [← gm_get p1, ← gm_get p2]; exact em k (by rw [← hn.m]; exact p2)
  cases hq : refB (refB b)
  cases hr : refB b
  rw [hq, hr] at x1 x2
  simp only at x1 x2
  rw [x1, x2]
end
end Go.Proofs.Ytfifldbinnkdmaa
