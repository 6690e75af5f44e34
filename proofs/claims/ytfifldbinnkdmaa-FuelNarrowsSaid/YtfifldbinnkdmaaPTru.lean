/- Books and truths, in plain numbers: a book with a truth is valid, its losses are those of all truths, narrower books have narrower losses. -/
import Derived.Test.YtfifldbinnkdmaaBal
import Derived.Test.YtfifldbinnkdmaaLoss
import Derived.Test.YtfifldbinnkdmaaMiss
set_option linter.unusedVariables false
set_option linter.unusedSimpArgs false
set_option linter.unnecessarySimpa false
namespace Go.Proofs.Ytfifldbinnkdmaa
open Go.RowKit

/-- The sum over a set of accounts. -/
def sumS (i : Nat) (f : Nat → Int) : Nat → Int
  | 0 => 0
  | k + 1 => sumS i f k + (if i.testBit k = true then f k else 0)
theorem sumS_add (i : Nat) (f g : Nat → Int) : ∀ n, sumS i (fun k => f k + g k) n = sumS i f n + sumS i g n
  | 0 => rfl
  | n + 1 => by
    simp only [sumS]
    rw [sumS_add i f g n]
    split <;> omega
theorem sumS_congr {i : Nat} {f g : Nat → Int} : ∀ {n : Nat}, (∀ k, k < n → f k = g k) → sumS i f n = sumS i g n
  | 0, _ => rfl
  | n + 1, h => by
    simp only [sumS]
    rw [sumS_congr fun k hk => h k (by omega), h n (by omega)]
theorem sumS_one (i : Nat) (v : Int) (z : Nat) : ∀ n, sumS i (fun k => if z = k then v else 0) n = if z < n ∧ i.testBit z = true then v else 0
  | 0 => by simp [sumS]
  | n + 1 => by
    simp only [sumS]
    rw [sumS_one i v z n]
    by_cases h : z = n
    · subst h
      rw [if_neg (by omega), if_pos rfl]
      by_cases hb : i.testBit z = true
      · rw [if_pos hb, if_pos ⟨by omega, hb⟩]; omega
      · rw [if_neg hb, if_neg (fun h => hb h.2)]; omega
    · rw [if_neg h]
      have e2 : (if i.testBit n = true then (0 : Int) else 0) = 0 := by split <;> rfl
      have e3 : (z < n ∧ i.testBit z = true) = (z < n + 1 ∧ i.testBit z = true) := propext ⟨fun h => ⟨by omega, h.2⟩, fun h2 => ⟨by omega, h2.2⟩⟩
      rw [e2, Int.add_zero]
      simp only [e3]
theorem sumS_nn {i : Nat} {f : Nat → Int} : ∀ {n : Nat}, (∀ k, k < n → i.testBit k = true → 0 ≤ f k) → 0 ≤ sumS i f n
  | 0, _ => Int.le_refl _
  | n + 1, h => by
    simp only [sumS]
    have := sumS_nn (i := i) (f := f) (n := n) fun k hk hb => h k (by omega) hb
    split
    · rename_i hb
      have := h n (by omega) hb
      omega
    · omega
/-- All but one of a set count for nothing. -/
theorem sumS_only {i a : Nat} {f : Nat → Int} : ∀ {n : Nat}, (∀ k, k < n → i.testBit k = true → k ≠ a → f k = 0) → sumS i f n = if a < n ∧ i.testBit a = true then f a else 0
  | 0, _ => by simp [sumS]
  | n + 1, h => by
    simp only [sumS]
    rw [sumS_only (i := i) (a := a) (f := f) (n := n) fun k hk => h k (by omega)]
    by_cases e : n = a
    · subst e
      rw [if_neg (by omega)]
      by_cases hb : i.testBit n = true
      · rw [if_pos hb, if_pos ⟨by omega, hb⟩]; omega
      · rw [if_neg hb, if_neg (fun h => hb h.2)]; omega
    · have h2 : (if i.testBit n = true then f n else 0) = 0 := by
        split
        · rename_i hb; exact h n (by omega) hb e
        · rfl
      rw [h2]
      by_cases hb : a < n ∧ i.testBit a = true
      · rw [if_pos hb, if_pos ⟨by omega, hb.2⟩]; omega
      · rw [if_neg hb, if_neg (fun h3 => hb ⟨by omega, h3.2⟩)]; omega
theorem sumS_ge {i a : Nat} {f : Nat → Int} : ∀ {n : Nat}, (∀ k, k < n → 0 ≤ f k) → a < n → i.testBit a = true → f a ≤ sumS i f n
  | 0, _, h, _ => by omega
  | n + 1, h, ha, hb => by
    simp only [sumS]
    by_cases e : a = n
    · subst e
      have := sumS_nn (i := i) (f := f) (n := a) fun k hk _ => h k (by omega)
      rw [if_pos hb]; omega
    · have := sumS_ge (i := i) (a := a) (f := f) (n := n) (fun k hk => h k (by omega)) (by omega) hb
      have := h n (by omega)
      split <;> omega

/-- What an account loses in a truth. -/
def losA (b : Bok) (O C V : List Int) (k : Nat) : Int := balF O b.mvs V k b.mvs.length - gi C k
structure TruthIn (b : Bok) (O C V : List Int) : Prop where
  acc : ∀ k, k < b.accs.length → truA b O C k
  mv : ∀ j, j < b.mvs.length → truM b V j
  fr : ∀ j, j < b.mvs.length → (0 ≤ (gm b.mvs j).fr ∧ (gm b.mvs j).fr < b.accs.length) ∧ 0 ≤ (gm b.mvs j).to ∧ (gm b.mvs j).to < b.accs.length
  los : ∀ k, k < b.accs.length → 0 ≤ losA b O C V k ∧ ((ga b.accs k).kind = 2 → losA b O C V k = 0)
def moveS (b : Bok) (V : List Int) (i j : Nat) : Int := (if bitOf i (gm b.mvs j).to = true then gi V j else 0) - (if bitOf i (gm b.mvs j).fr = true then gi V j else 0)
def setT (b : Bok) (O C V : List Int) (i : Nat) : Nat → Int
  | 0 => sumS i (fun k => gi O k - gi C k) b.accs.length
  | j + 1 => setT b O C V i j + moveS b V i j
theorem setT_sum {b : Bok} {O C V : List Int} {i : Nat} (h : ∀ j, j < b.mvs.length → (0 ≤ (gm b.mvs j).fr ∧ (gm b.mvs j).fr < b.accs.length) ∧ 0 ≤ (gm b.mvs j).to ∧ (gm b.mvs j).to < b.accs.length) :
    ∀ j, j ≤ b.mvs.length → setT b O C V i j = sumS i (fun k => balF O b.mvs V k j - gi C k) b.accs.length
  | 0, _ => rfl
  | j + 1, hj => by
    obtain ⟨⟨f1, f2⟩, t1, t2⟩ := h j (by omega)
    have e : sumS i (fun k => balF O b.mvs V k (j + 1) - gi C k) b.accs.length = sumS i (fun k => (balF O b.mvs V k j - gi C k) + ((if (gm b.mvs j).to.toNat = k then gi V j else 0) + (if (gm b.mvs j).fr.toNat = k then -(gi V j) else 0))) b.accs.length := by
      refine sumS_congr fun k hk => ?_
      simp only [balF]
      have e1 : ((gm b.mvs j).to = (k : Int)) = ((gm b.mvs j).to.toNat = k) := by apply propext; omega
      have e2 : ((gm b.mvs j).fr = (k : Int)) = ((gm b.mvs j).fr.toNat = k) := by apply propext; omega
      simp only [e1, e2]
      split <;> split <;> omega
    rw [e, sumS_add, sumS_add, sumS_one, sumS_one, ← setT_sum h j (by omega)]
    simp only [setT, moveS, bitOf]
    have a1 : (gm b.mvs j).to.toNat < b.accs.length := by omega
    have a2 : (gm b.mvs j).fr.toNat < b.accs.length := by omega
    by_cases h1 : i.testBit (gm b.mvs j).to.toNat = true <;> by_cases h2 : i.testBit (gm b.mvs j).fr.toNat = true <;> simp only [h1, h2, a1, a2, true_and, and_self, and_false, if_true, if_false, Bool.false_eq_true] <;> omega
theorem grpA_tru {b : Bok} {O C : List Int} {i : Nat} : ∀ n, (∀ k, k < n → truA b O C k) → (grpA b.accs i n).least ≤ sumS i (fun k => gi O k - gi C k) n ∧ sumS i (fun k => gi O k - gi C k) n ≤ (grpA b.accs i n).most
  | 0, _ => by simp [grpA, sumS]
  | n + 1, h => by
    obtain ⟨h1, h2⟩ := grpA_tru (i := i) n fun k hk => h k (by omega)
    obtain ⟨⟨a1, a2⟩, a3, a4⟩ := h n (by omega)
    unfold grpA
    simp only [sumS]
    by_cases hb : i.testBit n = true
    · rw [if_pos hb, if_pos hb]; simp only; omega
    · rw [if_neg hb, if_neg hb]; simp only; omega
theorem grp_tru {b : Bok} {O C V : List Int} (h : TruthIn b O C V) (i : Nat) : (grp b i).least ≤ sumS i (losA b O C V) b.accs.length ∧ sumS i (losA b O C V) b.accs.length ≤ (grp b i).most := by
  have key : ∀ j, j ≤ b.mvs.length → (grpM b.mvs i (grpA b.accs i b.accs.length) j).least ≤ setT b O C V i j ∧ setT b O C V i j ≤ (grpM b.mvs i (grpA b.accs i b.accs.length) j).most := by
    intro j
    induction j with
    | zero => intro _; exact grpA_tru _ h.acc
    | succ j ih =>
      intro hj
      obtain ⟨h1, h2⟩ := ih (by omega)
      have h3 := h.mv j (by omega)
      unfold truM at h3
      unfold grpM
      simp only [setT, moveS]
      cases c1 : bitOf i (gm b.mvs j).to <;> cases c2 : bitOf i (gm b.mvs j).fr <;> simp only [Bool.not_true, Bool.not_false, Bool.and_true, Bool.and_false, Bool.false_eq_true, if_true, if_false] <;> omega
  have e := setT_sum (O := O) (C := C) (V := V) (i := i) h.fr b.mvs.length (Nat.le_refl _)
  have k := key b.mvs.length (Nat.le_refl _)
  rw [e] at k
  exact k
theorem grpM_ground (l : List Mv) (i : Nat) (g : Grp) : ∀ j, (grpM l i g j).ground = g.ground ∧ (grpM l i g j).rest = g.rest
  | 0 => ⟨rfl, rfl⟩
  | j + 1 => by
    unfold grpM
    split
    · exact grpM_ground l i g j
    · split
      · exact grpM_ground l i g j
      · exact grpM_ground l i g j
theorem grpA_ground {l : List Acc} {i : Nat} : ∀ n, (grpA l i n).ground = true → ∀ k, k < n → i.testBit k = true → (ga l k).kind = 2
  | 0, _, k, hk, _ => by omega
  | n + 1, h, k, hk, hb => by
    unfold grpA at h
    by_cases e : i.testBit n = true
    · rw [if_pos e] at h
      simp only [Bool.and_eq_true, beq_iff_eq] at h
      by_cases ek : k = n
      · subst ek; exact h.2
      · exact grpA_ground n h.1 k (by omega) hb
    · rw [if_neg e] at h
      have ek : k ≠ n := fun ek => e (ek ▸ hb)
      exact grpA_ground n h k (by omega) hb
theorem calm_tru {b : Bok} {O C V : List Int} (h : TruthIn b O C V) (m : Nat) : calm b m := by
  intro i _
  obtain ⟨h1, h2⟩ := grp_tru h i
  have h3 := sumS_nn (i := i) (f := losA b O C V) (n := b.accs.length) fun k hk _ => (h.los k hk).1
  unfold clash
  have a1 : decide ((grp b i).most < 0) = false := by simp; omega
  rw [a1, Bool.false_or]
  cases hg : (grp b i).ground with
  | false => rfl
  | true =>
    have hg' : (grpA b.accs i b.accs.length).ground = true := by rw [← (grpM_ground b.mvs i _ b.mvs.length).1]; exact hg
    have h4 := grpA_ground b.accs.length hg'
    have h5 : sumS i (losA b O C V) b.accs.length = 0 := by
      rw [sumS_only (a := b.accs.length) fun k hk hb _ => (h.los k hk).2 (h4 k hk hb), if_neg (by omega)]
    simp
    omega
theorem check_tru {b : Bok} {O C V : List Int} (hf : formedE b = 0) (h : TruthIn b O C V) : checkE b = 0 := by
  unfold checkE
  rw [if_pos hf, if_pos (calm_tru h _)]

/-! ### losses hold all truths -/
theorem oth_tru {b : Bok} {a i : Nat} : ∀ n, othF b a i n = true → ∀ k, k < n → i.testBit k = true → k ≠ a → (ga b.accs k).kind = 2
  | 0, _, k, hk, _, _ => by omega
  | n + 1, h, k, hk, hb, ha => by
    simp only [othF, Bool.and_eq_true, Bool.or_eq_true, beq_iff_eq, Bool.not_eq_true'] at h
    by_cases e : k = n
    · subst e
      rcases h.2 with (h2 | h2) | h2
      · exact absurd h2 ha
      · rw [hb] at h2; cases h2
      · exact h2
    · exact oth_tru n h.1 k (by omega) hb ha
theorem acc_in {b : Bok} {O C V : List Int} (hok : BokOk b) (h : TruthIn b O C V) {a : Nat} (ha : a < b.accs.length) : ∀ m, (accF b a m).lo ≤ losA b O C V a ∧ losA b O C V a ≤ (accF b a m).hi
  | 0 => by
    refine ⟨(h.los a ha).1, ?_⟩
    have h1 := (grp_tru h (2 ^ a)).2
    have h2 := (grp_bd hok (2 ^ a)).2.2
    have h3 := sumS_ge (i := 2 ^ a) (a := a) (f := losA b O C V) (fun k hk => (h.los k hk).1) ha (by simp)
    show losA b O C V a ≤ 1125899906842624
    omega
  | m + 1 => by
    obtain ⟨h1, h2⟩ := acc_in hok h ha m
    unfold accF
    by_cases hb : m.testBit a = true
    · rw [if_pos hb]
      obtain ⟨g1, g2⟩ := grp_tru h m
      have h3 := sumS_ge (i := m) (a := a) (f := losA b O C V) (fun k hk => (h.los k hk).1) ha hb
      refine ⟨?_, by simp only; omega⟩
      simp only
      by_cases ho : othF b a m b.accs.length = true
      · rw [if_pos ho]
        have h4 := sumS_only (i := m) (a := a) (f := losA b O C V) (n := b.accs.length) fun k hk hb' hne => (h.los k hk).2 (oth_tru _ ho k hk hb' hne)
        rw [if_pos ⟨ha, hb⟩] at h4
        omega
      · rw [if_neg ho]; exact h1
    · rw [if_neg hb]; exact ⟨h1, h2⟩
theorem loss_in {b : Bok} {O C V : List Int} (hok : BokOk b) (h : TruthIn b O C V) {a : Nat} (ha : a < b.accs.length) : (lossA b a).lo ≤ losA b O C V a ∧ losA b O C V a ≤ (lossA b a).hi := by
  unfold lossA
  by_cases e : (ga b.accs a).kind = 2
  · rw [if_pos e, (h.los a ha).2 e]; exact ⟨Int.le_refl _, Int.le_refl _⟩
  · rw [if_neg e]; exact acc_in hok h ha _

/-! ### narrower books -/
def subS (x y : Sp) : Prop := y.lo ≤ x.lo ∧ x.hi ≤ y.hi
/-- A book within another one: the same accounts and moves, narrower spans. -/
structure subB (c b : Bok) : Prop where
  n : c.accs.length = b.accs.length
  m : c.mvs.length = b.mvs.length
  acc : ∀ k, k < b.accs.length → ((ga c.accs k).kind = (ga b.accs k).kind ∧ (ga c.accs k).name = (ga b.accs k).name) ∧ subS (ga c.accs k).op (ga b.accs k).op ∧ subS (ga c.accs k).cl (ga b.accs k).cl
  mv : ∀ j, j < b.mvs.length → ((gm c.mvs j).fr = (gm b.mvs j).fr ∧ (gm c.mvs j).to = (gm b.mvs j).to) ∧ subS (gm c.mvs j).li (gm b.mvs j).li
theorem grpA_sub {c b : Bok} (h : subB c b) (i : Nat) : ∀ n, n ≤ b.accs.length → ((grpA b.accs i n).least ≤ (grpA c.accs i n).least ∧ (grpA c.accs i n).most ≤ (grpA b.accs i n).most) ∧ (grpA c.accs i n).ground = (grpA b.accs i n).ground ∧ (grpA c.accs i n).rest = (grpA b.accs i n).rest
  | 0, _ => ⟨⟨Int.le_refl _, Int.le_refl _⟩, rfl, rfl⟩
  | n + 1, hn => by
    obtain ⟨⟨h1, h2⟩, h3, h4⟩ := grpA_sub h i n (by omega)
    obtain ⟨⟨k1, _⟩, ⟨o1, o2⟩, c1, c2⟩ := h.acc n (by omega)
    unfold grpA
    split
    · simp only
      rw [h3, h4, k1]
      exact ⟨⟨by omega, by omega⟩, rfl, rfl⟩
    · simp only
      rw [h3, h4, k1]
      exact ⟨⟨by omega, by omega⟩, rfl, rfl⟩
theorem grp_sub {c b : Bok} (h : subB c b) (i : Nat) : ((grp b i).least ≤ (grp c i).least ∧ (grp c i).most ≤ (grp b i).most) ∧ (grp c i).ground = (grp b i).ground ∧ (grp c i).rest = (grp b i).rest := by
  have ha := grpA_sub h i b.accs.length (Nat.le_refl _)
  have key : ∀ j, j ≤ b.mvs.length → ((grpM b.mvs i (grpA b.accs i b.accs.length) j).least ≤ (grpM c.mvs i (grpA c.accs i b.accs.length) j).least ∧ (grpM c.mvs i (grpA c.accs i b.accs.length) j).most ≤ (grpM b.mvs i (grpA b.accs i b.accs.length) j).most) := by
    intro j
    induction j with
    | zero => intro _; exact ha.1
    | succ j ih =>
      intro hj
      obtain ⟨h1, h2⟩ := ih (by omega)
      obtain ⟨⟨f, t⟩, l1, l2⟩ := h.mv j (by omega)
      unfold grpM
      rw [f, t]
      split
      · simp only; omega
      · split
        · simp only; omega
        · omega
  have k := key b.mvs.length (Nat.le_refl _)
  unfold grp
  rw [h.n, h.m]
  exact ⟨k, by rw [(grpM_ground _ _ _ _).1, (grpM_ground _ _ _ _).1]; exact ha.2.1, by rw [(grpM_ground _ _ _ _).2, (grpM_ground _ _ _ _).2]; exact ha.2.2⟩
theorem oth_sub {c b : Bok} (h : subB c b) (a i : Nat) : ∀ n, n ≤ b.accs.length → othF c a i n = othF b a i n
  | 0, _ => rfl
  | n + 1, hn => by
    simp only [othF]
    rw [oth_sub h a i n (by omega), (h.acc n (by omega)).1.1]
theorem tot_sub {c b : Bok} (h : subB c b) : subS (lossT c) (lossT b) := by
  unfold lossT
  rw [h.n]
  have key : ∀ m, subS (totF c m) (totF b m) := by
    intro m
    induction m with
    | zero => exact ⟨Int.le_refl _, Int.le_refl _⟩
    | succ m ih =>
      obtain ⟨h1, h2⟩ := ih
      obtain ⟨⟨g1, g2⟩, _, g3⟩ := grp_sub h m
      unfold totF subS
      simp only
      rw [g3]
      refine ⟨by omega, ?_⟩
      split
      · omega
      · exact h2
  exact key _
theorem acc_sub {c b : Bok} (h : subB c b) (a : Nat) : ∀ m, subS (accF c a m) (accF b a m)
  | 0 => ⟨Int.le_refl _, Int.le_refl _⟩
  | m + 1 => by
    obtain ⟨h1, h2⟩ := acc_sub h a m
    obtain ⟨⟨g1, g2⟩, _, g3⟩ := grp_sub h m
    unfold accF subS
    rw [h.n, oth_sub h a m _ (Nat.le_refl _)]
    split
    · simp only
      refine ⟨?_, by omega⟩
      split
      · omega
      · exact h1
    · exact ⟨h1, h2⟩
theorem loss_sub {c b : Bok} (h : subB c b) {a : Nat} (ha : a < b.accs.length) : subS (lossA c a) (lossA b a) := by
  unfold lossA
  rw [(h.acc a ha).1.1, h.n]
  split
  · exact ⟨Int.le_refl _, Int.le_refl _⟩
  · exact acc_sub h a _
/-- A verdict that was Sure or Never stays. -/
theorem verd_sub {c b : Bok} {O C V : List Int} (h : subB c b) (hok : BokOk c) (ht : TruthIn c O C V) {a : Nat} (ha : a < b.accs.length) (hv : verd (lossA b a) ≠ 3) : verd (lossA c a) = verd (lossA b a) := by
  obtain ⟨h1, h2⟩ := loss_sub h ha
  obtain ⟨h3, h4⟩ := loss_in hok ht (a := a) (by rw [h.n]; exact ha)
  have h5 := (ht.los a (by rw [h.n]; exact ha)).1
  unfold verd at hv ⊢
  by_cases c1 : 0 < (lossA b a).lo
  · rw [if_pos c1, if_pos (by omega)]
  · rw [if_neg c1] at hv ⊢
    by_cases c2 : (lossA b a).hi = 0
    · rw [if_pos c2, if_neg (by omega), if_pos (by omega)]
    · rw [if_neg c2] at hv; exact absurd rfl hv
end Go.Proofs.Ytfifldbinnkdmaa
