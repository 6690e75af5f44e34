/- Books and truths, in plain numbers: a book with a truth is valid, its losses are those of all truths, narrower books have narrower losses. -/
import Derived.Test.YtfifldbinnkdmaaBal
import Derived.Test.YtfifldbinnkdmaaLoss
import Derived.Test.YtfifldbinnkdmaaMiss
import Derived.Test.YtfifldbinnkdmaaRfnD
import Derived.Test.YtfifldbinnkdmaaBookOf
set_option linter.unusedVariables false
set_option linter.unusedSimpArgs false
set_option linter.unnecessarySimpa false
namespace Go.Proofs.Ytfifldbinnkdmaa
open Go.RowKit

/-- The sum over a set of accounts. -/
def sumS (i : Nat) (f : Nat → Int) : Nat → Int
  | 0 => 0
  | k + 1 => sumS i f k + (if i.testBit k = true then f k else 0)
theorem sumS_add (i : Nat) (f g : Nat → Int) : ∀ n, sumS i (fun k => f k + g k) n = sumS i f n + sumS i g n
  | 0 => rfl
  | n + 1 => by
    simp only [sumS]
    rw [sumS_add i f g n]
    split <;> omega
theorem sumS_congr {i : Nat} {f g : Nat → Int} : ∀ {n : Nat}, (∀ k, k < n → f k = g k) → sumS i f n = sumS i g n
  | 0, _ => rfl
  | n + 1, h => by
    simp only [sumS]
    rw [sumS_congr fun k hk => h k (by omega), h n (by omega)]
theorem sumS_one (i : Nat) (v : Int) (z : Nat) : ∀ n, sumS i (fun k => if z = k then v else 0) n = if z < n ∧ i.testBit z = true then v else 0
  | 0 => by simp [sumS]
  | n + 1 => by
    simp only [sumS]
    rw [sumS_one i v z n]
    by_cases h : z = n
    · subst h
      rw [if_neg (by omega), if_pos rfl]
      by_cases hb : i.testBit z = true
      · rw [if_pos hb, if_pos ⟨by omega, hb⟩]; omega
      · rw [if_neg hb, if_neg (fun h => hb h.2)]; omega
    · rw [if_neg h]
      have e2 : (if i.testBit n = true then (0 : Int) else 0) = 0 := by split <;> rfl
      have e3 : (z < n ∧ i.testBit z = true) = (z < n + 1 ∧ i.testBit z = true) := propext ⟨fun h => ⟨by omega, h.2⟩, fun h2 => ⟨by omega, h2.2⟩⟩
      rw [e2, Int.add_zero]
      simp only [e3]
theorem sumS_nn {i : Nat} {f : Nat → Int} : ∀ {n : Nat}, (∀ k, k < n → i.testBit k = true → 0 ≤ f k) → 0 ≤ sumS i f n
  | 0, _ => Int.le_refl _
  | n + 1, h => by
    simp only [sumS]
    have := sumS_nn (i := i) (f := f) (n := n) fun k hk hb => h k (by omega) hb
    split
    · rename_i hb
      have := h n (by omega) hb
      omega
    · omega
/-- All but one of a set count for nothing. -/
theorem sumS_only {i a : Nat} {f : Nat → Int} : ∀ {n : Nat}, (∀ k, k < n → i.testBit k = true → k ≠ a → f k = 0) → sumS i f n = if a < n ∧ i.testBit a = true then f a else 0
  | 0, _ => by simp [sumS]
  | n + 1, h => by
    simp only [sumS]
    rw [sumS_only (i := i) (a := a) (f := f) (n := n) fun k hk => h k (by omega)]
    by_cases e : n = a
    · subst e
      rw [if_neg (by omega)]
      by_cases hb : i.testBit n = true
      · rw [if_pos hb, if_pos ⟨by omega, hb⟩]; omega
      · rw [if_neg hb, if_neg (fun h => hb h.2)]; omega
    · have h2 : (if i.testBit n = true then f n else 0) = 0 := by
        split
        · rename_i hb; exact h n (by omega) hb e
        · rfl
      rw [h2]
      by_cases hb : a < n ∧ i.testBit a = true
      · rw [if_pos hb, if_pos ⟨by omega, hb.2⟩]; omega
      · rw [if_neg hb, if_neg (fun h3 => hb ⟨by omega, h3.2⟩)]; omega
theorem sumS_ge {i a : Nat} {f : Nat → Int} : ∀ {n : Nat}, (∀ k, k < n → 0 ≤ f k) → a < n → i.testBit a = true → f a ≤ sumS i f n
  | 0, _, h, _ => by omega
  | n + 1, h, ha, hb => by
    simp only [sumS]
    by_cases e : a = n
    · subst e
      have := sumS_nn (i := i) (f := f) (n := a) fun k hk _ => h k (by omega)
      rw [if_pos hb]; omega
    · have := sumS_ge (i := i) (a := a) (f := f) (n := n) (fun k hk => h k (by omega)) (by omega) hb
      have := h n (by omega)
      split <;> omega

/-- What an account loses in a truth. -/
def losA (b : Bok) (O C V : List Int) (k : Nat) : Int := balF O b.mvs V k b.mvs.length - gi C k
structure TruthIn (b : Bok) (O C V : List Int) : Prop where
  acc : ∀ k, k < b.accs.length → truA b O C k
  mv : ∀ j, j < b.mvs.length → truM b V j
  fr : ∀ j, j < b.mvs.length → (0 ≤ (gm b.mvs j).fr ∧ (gm b.mvs j).fr < b.accs.length) ∧ 0 ≤ (gm b.mvs j).to ∧ (gm b.mvs j).to < b.accs.length
  los : ∀ k, k < b.accs.length → 0 ≤ losA b O C V k ∧ ((ga b.accs k).kind = 2 → losA b O C V k = 0)
def moveS (b : Bok) (V : List Int) (i j : Nat) : Int := (if bitOf i (gm b.mvs j).to = true then gi V j else 0) - (if bitOf i (gm b.mvs j).fr = true then gi V j else 0)
def setT (b : Bok) (O C V : List Int) (i : Nat) : Nat → Int
  | 0 => sumS i (fun k => gi O k - gi C k) b.accs.length
  | j + 1 => setT b O C V i j + moveS b V i j
theorem setT_sum {b : Bok} {O C V : List Int} {i : Nat} (h : ∀ j, j < b.mvs.length → (0 ≤ (gm b.mvs j).fr ∧ (gm b.mvs j).fr < b.accs.length) ∧ 0 ≤ (gm b.mvs j).to ∧ (gm b.mvs j).to < b.accs.length) :
    ∀ j, j ≤ b.mvs.length → setT b O C V i j = sumS i (fun k => balF O b.mvs V k j - gi C k) b.accs.length
  | 0, _ => rfl
  | j + 1, hj => by
    obtain ⟨⟨f1, f2⟩, t1, t2⟩ := h j (by omega)
    have e : sumS i (fun k => balF O b.mvs V k (j + 1) - gi C k) b.accs.length = sumS i (fun k => (balF O b.mvs V k j - gi C k) + ((if (gm b.mvs j).to.toNat = k then gi V j else 0) + (if (gm b.mvs j).fr.toNat = k then -(gi V j) else 0))) b.accs.length := by
      refine sumS_congr fun k hk => ?_
      simp only [balF]
      have e1 : ((gm b.mvs j).to = (k : Int)) = ((gm b.mvs j).to.toNat = k) := by apply propext; omega
      have e2 : ((gm b.mvs j).fr = (k : Int)) = ((gm b.mvs j).fr.toNat = k) := by apply propext; omega
      simp only [e1, e2]
      split <;> split <;> omega
    rw [e, sumS_add, sumS_add, sumS_one, sumS_one, ← setT_sum h j (by omega)]
    simp only [setT, moveS, bitOf]
    have a1 : (gm b.mvs j).to.toNat < b.accs.length := by omega
    have a2 : (gm b.mvs j).fr.toNat < b.accs.length := by omega
    by_cases h1 : i.testBit (gm b.mvs j).to.toNat = true <;> by_cases h2 : i.testBit (gm b.mvs j).fr.toNat = true <;> simp only [h1, h2, a1, a2, true_and, and_self, and_false, if_true, if_false, Bool.false_eq_true] <;> omega
theorem grpA_tru {b : Bok} {O C : List Int} {i : Nat} : ∀ n, (∀ k, k < n → truA b O C k) → (grpA b.accs i n).least ≤ sumS i (fun k => gi O k - gi C k) n ∧ sumS i (fun k => gi O k - gi C k) n ≤ (grpA b.accs i n).most
  | 0, _ => by simp [grpA, sumS]
  | n + 1, h => by
    obtain ⟨h1, h2⟩ := grpA_tru (i := i) n fun k hk => h k (by omega)
    obtain ⟨⟨a1, a2⟩, a3, a4⟩ := h n (by omega)
    unfold grpA
    simp only [sumS]
    by_cases hb : i.testBit n = true
    · rw [if_pos hb, if_pos hb]; simp only; omega
    · rw [if_neg hb, if_neg hb]; simp only; omega
theorem grp_tru {b : Bok} {O C V : List Int} (h : TruthIn b O C V) (i : Nat) : (grp b i).least ≤ sumS i (losA b O C V) b.accs.length ∧ sumS i (losA b O C V) b.accs.length ≤ (grp b i).most := by
  have key : ∀ j, j ≤ b.mvs.length → (grpM b.mvs i (grpA b.accs i b.accs.length) j).least ≤ setT b O C V i j ∧ setT b O C V i j ≤ (grpM b.mvs i (grpA b.accs i b.accs.length) j).most := by
    intro j
    induction j with
    | zero => intro _; exact grpA_tru _ h.acc
    | succ j ih =>
      intro hj
      obtain ⟨h1, h2⟩ := ih (by omega)
      have h3 := h.mv j (by omega)
      unfold truM at h3
      unfold grpM
      simp only [setT, moveS]
      cases c1 : bitOf i (gm b.mvs j).to <;> cases c2 : bitOf i (gm b.mvs j).fr <;> simp only [Bool.not_true, Bool.not_false, Bool.and_true, Bool.and_false, Bool.false_eq_true, if_true, if_false] <;> omega
  have e := setT_sum (O := O) (C := C) (V := V) (i := i) h.fr b.mvs.length (Nat.le_refl _)
  have k := key b.mvs.length (Nat.le_refl _)
  rw [e] at k
  exact k
theorem grpM_ground (l : List Mv) (i : Nat) (g : Grp) : ∀ j, (grpM l i g j).ground = g.ground ∧ (grpM l i g j).rest = g.rest
  | 0 => ⟨rfl, rfl⟩
  | j + 1 => by
    unfold grpM
    split
    · exact grpM_ground l i g j
    · split
      · exact grpM_ground l i g j
      · exact grpM_ground l i g j
theorem grpA_ground {l : List Acc} {i : Nat} : ∀ n, (grpA l i n).ground = true → ∀ k, k < n → i.testBit k = true → (ga l k).kind = 2
  | 0, _, k, hk, _ => by omega
  | n + 1, h, k, hk, hb => by
    unfold grpA at h
    by_cases e : i.testBit n = true
    · rw [if_pos e] at h
      simp only [Bool.and_eq_true, beq_iff_eq] at h
      by_cases ek : k = n
      · subst ek; exact h.2
      · exact grpA_ground n h.1 k (by omega) hb
    · rw [if_neg e] at h
      have ek : k ≠ n := fun ek => e (ek ▸ hb)
      exact grpA_ground n h k (by omega) hb
theorem calm_tru {b : Bok} {O C V : List Int} (h : TruthIn b O C V) (m : Nat) : calm b m := by
  intro i _
  obtain ⟨h1, h2⟩ := grp_tru h i
  have h3 := sumS_nn (i := i) (f := losA b O C V) (n := b.accs.length) fun k hk _ => (h.los k hk).1
  unfold clash
  have a1 : decide ((grp b i).most < 0) = false := by simp; omega
  rw [a1, Bool.false_or]
  cases hg : (grp b i).ground with
  | false => rfl
  | true =>
    have hg' : (grpA b.accs i b.accs.length).ground = true := by rw [← (grpM_ground b.mvs i _ b.mvs.length).1]; exact hg
    have h4 := grpA_ground b.accs.length hg'
    have h5 : sumS i (losA b O C V) b.accs.length = 0 := by
      rw [sumS_only (a := b.accs.length) fun k hk hb _ => (h.los k hk).2 (h4 k hk hb), if_neg (by omega)]
    simp
    omega
theorem check_tru {b : Bok} {O C V : List Int} (hf : formedE b = 0) (h : TruthIn b O C V) : checkE b = 0 := by
  unfold checkE
  rw [if_pos hf, if_pos (calm_tru h _)]

/-! ### losses hold all truths -/
theorem oth_tru {b : Bok} {a i : Nat} : ∀ n, othF b a i n = true → ∀ k, k < n → i.testBit k = true → k ≠ a → (ga b.accs k).kind = 2
  | 0, _, k, hk, _, _ => by omega
  | n + 1, h, k, hk, hb, ha => by
    simp only [othF, Bool.and_eq_true, Bool.or_eq_true, beq_iff_eq, Bool.not_eq_true'] at h
    by_cases e : k = n
    · subst e
      rcases h.2 with (h2 | h2) | h2
      · exact absurd h2 ha
      · rw [hb] at h2; cases h2
      · exact h2
    · exact oth_tru n h.1 k (by omega) hb ha
theorem acc_in {b : Bok} {O C V : List Int} (hok : BokOk b) (h : TruthIn b O C V) {a : Nat} (ha : a < b.accs.length) : ∀ m, (accF b a m).lo ≤ losA b O C V a ∧ losA b O C V a ≤ (accF b a m).hi
  | 0 => by
    refine ⟨(h.los a ha).1, ?_⟩
    have h1 := (grp_tru h (2 ^ a)).2
    have h2 := (grp_bd hok (2 ^ a)).2.2
    have h3 := sumS_ge (i := 2 ^ a) (a := a) (f := losA b O C V) (fun k hk => (h.los k hk).1) ha (by simp)
    show losA b O C V a ≤ 1125899906842624
    omega
  | m + 1 => by
    obtain ⟨h1, h2⟩ := acc_in hok h ha m
    unfold accF
    by_cases hb : m.testBit a = true
    · rw [if_pos hb]
      obtain ⟨g1, g2⟩ := grp_tru h m
      have h3 := sumS_ge (i := m) (a := a) (f := losA b O C V) (fun k hk => (h.los k hk).1) ha hb
      refine ⟨?_, by simp only; omega⟩
      simp only
      by_cases ho : othF b a m b.accs.length = true
      · rw [if_pos ho]
        have h4 := sumS_only (i := m) (a := a) (f := losA b O C V) (n := b.accs.length) fun k hk hb' hne => (h.los k hk).2 (oth_tru _ ho k hk hb' hne)
        rw [if_pos ⟨ha, hb⟩] at h4
        omega
      · rw [if_neg ho]; exact h1
    · rw [if_neg hb]; exact ⟨h1, h2⟩
theorem loss_in {b : Bok} {O C V : List Int} (hok : BokOk b) (h : TruthIn b O C V) {a : Nat} (ha : a < b.accs.length) : (lossA b a).lo ≤ losA b O C V a ∧ losA b O C V a ≤ (lossA b a).hi := by
  unfold lossA
  by_cases e : (ga b.accs a).kind = 2
  · rw [if_pos e, (h.los a ha).2 e]; exact ⟨Int.le_refl _, Int.le_refl _⟩
  · rw [if_neg e]; exact acc_in hok h ha _

/-! ### narrower books -/
def subS (x y : Sp) : Prop := y.lo ≤ x.lo ∧ x.hi ≤ y.hi
/-- A book within another one: the same accounts and moves, narrower spans. -/
structure subB (c b : Bok) : Prop where
  n : c.accs.length = b.accs.length
  m : c.mvs.length = b.mvs.length
  acc : ∀ k, k < b.accs.length → ((ga c.accs k).kind = (ga b.accs k).kind ∧ (ga c.accs k).name = (ga b.accs k).name) ∧ subS (ga c.accs k).op (ga b.accs k).op ∧ subS (ga c.accs k).cl (ga b.accs k).cl
  mv : ∀ j, j < b.mvs.length → ((gm c.mvs j).fr = (gm b.mvs j).fr ∧ (gm c.mvs j).to = (gm b.mvs j).to) ∧ subS (gm c.mvs j).li (gm b.mvs j).li
theorem grpA_sub {c b : Bok} (h : subB c b) (i : Nat) : ∀ n, n ≤ b.accs.length → ((grpA b.accs i n).least ≤ (grpA c.accs i n).least ∧ (grpA c.accs i n).most ≤ (grpA b.accs i n).most) ∧ (grpA c.accs i n).ground = (grpA b.accs i n).ground ∧ (grpA c.accs i n).rest = (grpA b.accs i n).rest
  | 0, _ => ⟨⟨Int.le_refl _, Int.le_refl _⟩, rfl, rfl⟩
  | n + 1, hn => by
    obtain ⟨⟨h1, h2⟩, h3, h4⟩ := grpA_sub h i n (by omega)
    obtain ⟨⟨k1, _⟩, ⟨o1, o2⟩, c1, c2⟩ := h.acc n (by omega)
    unfold grpA
    split
    · simp only
      rw [h3, h4, k1]
      exact ⟨⟨by omega, by omega⟩, rfl, rfl⟩
    · simp only
      rw [h3, h4, k1]
      exact ⟨⟨by omega, by omega⟩, rfl, rfl⟩
theorem grp_sub {c b : Bok} (h : subB c b) (i : Nat) : ((grp b i).least ≤ (grp c i).least ∧ (grp c i).most ≤ (grp b i).most) ∧ (grp c i).ground = (grp b i).ground ∧ (grp c i).rest = (grp b i).rest := by
  have ha := grpA_sub h i b.accs.length (Nat.le_refl _)
  have key : ∀ j, j ≤ b.mvs.length → ((grpM b.mvs i (grpA b.accs i b.accs.length) j).least ≤ (grpM c.mvs i (grpA c.accs i b.accs.length) j).least ∧ (grpM c.mvs i (grpA c.accs i b.accs.length) j).most ≤ (grpM b.mvs i (grpA b.accs i b.accs.length) j).most) := by
    intro j
    induction j with
    | zero => intro _; exact ha.1
    | succ j ih =>
      intro hj
      obtain ⟨h1, h2⟩ := ih (by omega)
      obtain ⟨⟨f, t⟩, l1, l2⟩ := h.mv j (by omega)
      unfold grpM
      rw [f, t]
      split
      · simp only; omega
      · split
        · simp only; omega
        · omega
  have k := key b.mvs.length (Nat.le_refl _)
  unfold grp
  rw [h.n, h.m]
  exact ⟨k, by rw [(grpM_ground _ _ _ _).1, (grpM_ground _ _ _ _).1]; exact ha.2.1, by rw [(grpM_ground _ _ _ _).2, (grpM_ground _ _ _ _).2]; exact ha.2.2⟩
theorem oth_sub {c b : Bok} (h : subB c b) (a i : Nat) : ∀ n, n ≤ b.accs.length → othF c a i n = othF b a i n
  | 0, _ => rfl
  | n + 1, hn => by
    simp only [othF]
    rw [oth_sub h a i n (by omega), (h.acc n (by omega)).1.1]
theorem tot_sub {c b : Bok} (h : subB c b) : subS (lossT c) (lossT b) := by
  unfold lossT
  rw [h.n]
  have key : ∀ m, subS (totF c m) (totF b m) := by
    intro m
    induction m with
    | zero => exact ⟨Int.le_refl _, Int.le_refl _⟩
    | succ m ih =>
      obtain ⟨h1, h2⟩ := ih
      obtain ⟨⟨g1, g2⟩, _, g3⟩ := grp_sub h m
      unfold totF subS
      simp only
      rw [g3]
      refine ⟨by omega, ?_⟩
      split
      · omega
      · exact h2
  exact key _
theorem acc_sub {c b : Bok} (h : subB c b) (a : Nat) : ∀ m, subS (accF c a m) (accF b a m)
  | 0 => ⟨Int.le_refl _, Int.le_refl _⟩
  | m + 1 => by
    obtain ⟨h1, h2⟩ := acc_sub h a m
    obtain ⟨⟨g1, g2⟩, _, g3⟩ := grp_sub h m
    unfold accF subS
    rw [h.n, oth_sub h a m _ (Nat.le_refl _)]
    split
    · simp only
      refine ⟨?_, by omega⟩
      split
      · omega
      · exact h1
    · exact ⟨h1, h2⟩
theorem loss_sub {c b : Bok} (h : subB c b) {a : Nat} (ha : a < b.accs.length) : subS (lossA c a) (lossA b a) := by
  unfold lossA
  rw [(h.acc a ha).1.1, h.n]
  split
  · exact ⟨Int.le_refl _, Int.le_refl _⟩
  · exact acc_sub h a _
/-- A verdict that was Sure or Never stays. -/
theorem verd_sub {c b : Bok} {O C V : List Int} (h : subB c b) (hok : BokOk c) (ht : TruthIn c O C V) {a : Nat} (ha : a < b.accs.length) (hv : verd (lossA b a) ≠ 3) : verd (lossA c a) = verd (lossA b a) := by
  obtain ⟨h1, h2⟩ := loss_sub h ha
  obtain ⟨h3, h4⟩ := loss_in hok ht (a := a) (by rw [h.n]; exact ha)
  have h5 := (ht.los a (by rw [h.n]; exact ha)).1
  unfold verd at hv ⊢
  by_cases c1 : 0 < (lossA b a).lo
  · rw [if_pos c1, if_pos (by omega)]
  · rw [if_neg c1] at hv ⊢
    by_cases c2 : (lossA b a).hi = 0
    · rw [if_pos c2, if_neg (by omega), if_pos (by omega)]
    · rw [if_neg c2] at hv; exact absurd rfl hv
end Go.Proofs.Ytfifldbinnkdmaa
/- Books made of numbers are valid and have a truth; parts of them; a move of no litres more. -/
namespace Go.Proofs.Ytfifldbinnkdmaa
open Go.RowKit

theorem spE_ok {s : Sp} (h : 0 ≤ s.lo ∧ s.lo ≤ s.hi ∧ s.hi ≤ 1000000000) : spE s = 0 := by
  unfold spE spanErr
  rw [inB_mk (by omega) (by omega), inB_mk (by omega) (by omega)]
  simp
  omega
theorem accsErr_g {l : List Acc} : ∀ (f i : Nat), i + f = l.length → (∀ k, i ≤ k → k < l.length → accErr (names l k) (ga l k) = 0) → accsErr l f i = 0
  | 0, _, _, _ => rfl
  | f + 1, i, h, hk => by
    rw [accsErr, if_pos (hk i (Nat.le_refl _) (by omega))]
    exact accsErr_g f (i + 1) (by omega) fun k h1 h2 => hk k (by omega) h2
theorem mvsErr_g {n : Int} {l : List Mv} : ∀ (f i : Nat), i + f = l.length → (∀ k, i ≤ k → k < l.length → mvErr n (gm l k) = 0) → mvsErr n l f i = 0
  | 0, _, _, _ => rfl
  | f + 1, i, h, hk => by
    rw [mvsErr, if_pos (hk i (Nat.le_refl _) (by omega))]
    exact mvsErr_g f (i + 1) (by omega) fun k h1 h2 => hk k (by omega) h2
theorem nm_named : ∀ k, k < 8 → namedB (nmAt k) = true := by decide +kernel
theorem nm_ne : ∀ k, k < 8 → ∀ j, j < k → (nmAt j).data.toList ≠ (nmAt k).data.toList := by decide +kernel
theorem names_mem {l : List Acc} {k : Nat} {n : ByteArray} (h : n ∈ names l k) : ∃ j, j < k ∧ j < l.length ∧ n = (ga l j).name := by
  unfold names at h
  obtain ⟨a, ha, rfl⟩ := List.mem_map.1 h
  obtain ⟨j, hj, rfl⟩ := List.getElem_of_mem ha
  rw [List.length_take] at hj
  rw [List.getElem_take]
  exact ⟨j, by omega, by omega, by rw [ga_get (by omega)]⟩
/-- Accounts as BookOf makes them. -/
structure AccG (a : Acc) (k : Nat) : Prop where
  name : a.name = nmAt k
  kind : a.kind = 1 ∨ a.kind = 2
  op : 0 ≤ a.op.lo ∧ a.op.lo ≤ a.op.hi ∧ a.op.hi ≤ 1000000000
  cl : 0 ≤ a.cl.lo ∧ a.cl.lo ≤ a.cl.hi ∧ a.cl.hi ≤ 1000000000
structure BokG (b : Bok) : Prop where
  n0 : 0 < b.accs.length
  n8 : b.accs.length ≤ 8
  m30 : b.mvs.length ≤ 30
  acc : ∀ k, k < b.accs.length → AccG (ga b.accs k) k
  mv : ∀ j, j < b.mvs.length → MvOk b.accs.length (gm b.mvs j)
theorem BokG.formed {b : Bok} (h : BokG b) : formedE b = 0 := by
  have hn0 := h.n0
  have hn8 := h.n8
  have hm := h.m30
  have ha : accsE b.accs = 0 := by
    unfold accsE
    rw [if_neg (by omega), if_neg (by omega)]
    refine accsErr_g _ _ (by omega) fun k _ hk => ?_
    have hg := h.acc k hk
    have h1 : hasName (names b.accs k) (ga b.accs k).name = false := by
      unfold hasName
      rw [decide_eq_false_iff_not]
      rintro ⟨n, hn, he⟩
      obtain ⟨j, hj, hjl, rfl⟩ := names_mem hn
      rw [(h.acc j hjl).name, hg.name] at he
      exact nm_ne k (by omega) j hj he
    have hkd := hg.kind
    unfold accErr
    rw [hg.name, if_pos (nm_named k (by omega)), ← hg.name, if_neg (by rw [h1]; simp), if_pos (inB_mk (by omega) (by omega)), if_pos (spE_ok hg.op)]
    exact spE_ok hg.cl
  unfold formedE
  rw [if_pos ha]
  unfold mvsE
  rw [if_neg (by omega)]
  refine mvsErr_g _ _ (by omega) fun j _ hj => ?_
  have hg := h.mv j hj
  have h1 := hg.fr
  have h2 := hg.to
  unfold mvErr
  rw [if_pos (by rw [inB_mk (by omega) (by omega), inB_mk (by omega) (by omega)]; rfl), if_neg hg.ne]
  exact spE_ok hg.li
theorem BokG.ok {b : Bok} (h : BokG b) : BokOk b := formed_bok h.formed
theorem BokG.check {b : Bok} {O C V : List Int} (h : BokG b) (ht : TruthIn b O C V) : checkE b = 0 := check_tru h.formed ht
section
variable {accounts moves : Nat} {L W : Int} {b : Bok} {O C V : List Int}
theorem bt_g (h : BookTruth accounts moves L W b O C V) (h8 : accounts ≤ 8) (hm : moves ≤ 30) (hL : 0 ≤ L ∧ L ≤ 1000000) (hW : 0 ≤ W ∧ W ≤ 1000) : BokG b := by
  have hn := h.n8
  have hS : (b.accs.length : Int) * L ≤ 8000000 := by
    have h1 : (b.accs.length : Int) * L ≤ 8 * L := Int.mul_le_mul_of_nonneg_right (by omega) hL.1
    omega
  refine ⟨h.n0, by omega, by have := h.m; omega, fun k hk => ?_, fun j hj => ?_⟩
  · have h1 := h.acc k hk
    have h2 := h.cl k hk
    have h3 := h.tot k hk
    have h4 := h1.op
    have h5 := h1.ob
    exact ⟨h1.name, h1.kind, by omega, by omega⟩
  · have h1 := h.mv j hj
    have h2 := h1.vb
    have h3 := h1.li
    exact ⟨h1.frb, h1.tob, h1.ne, by omega⟩
theorem bt_tru (h : BookTruth accounts moves L W b O C V) : TruthIn b O C V := by
  refine ⟨fun k hk => ?_, fun j hj => ?_, fun j hj => ?_, fun k hk => ?_⟩
  · have h1 := (h.acc k hk).op
    have h2 := h.cl k hk
    unfold truA
    omega
  · have h1 := (h.mv j hj).li
    unfold truM
    omega
  · have h1 := h.mv j hj
    exact ⟨h1.frb, h1.tob⟩
  · obtain ⟨h1, h2, h3⟩ := h.bal k hk
    unfold losA
    exact ⟨by omega, fun e => by have := h3 e; omega⟩
end
/-- A part of a span that has a number. -/
def partS (c s : Sp) (n : Int) : Prop := (s.lo ≤ c.lo ∧ c.lo ≤ n) ∧ n ≤ c.hi ∧ c.hi ≤ s.hi
/-- A part of a book, in which a truth lies. -/
structure PartR (c b : Bok) (O C V : List Int) : Prop where
  n : c.accs.length = b.accs.length
  m : c.mvs.length = b.mvs.length
  acc : ∀ k, k < b.accs.length → ((ga c.accs k).kind = (ga b.accs k).kind ∧ (ga c.accs k).name = (ga b.accs k).name) ∧ partS (ga c.accs k).op (ga b.accs k).op (gi O k) ∧ partS (ga c.accs k).cl (ga b.accs k).cl (gi C k)
  mv : ∀ j, j < b.mvs.length → ((gm c.mvs j).fr = (gm b.mvs j).fr ∧ (gm c.mvs j).to = (gm b.mvs j).to) ∧ partS (gm c.mvs j).li (gm b.mvs j).li (gi V j)
section
variable {b c : Bok} {O C V : List Int}
theorem PartR.sub (h : PartR c b O C V) : subB c b := by
  refine ⟨h.n, h.m, fun k hk => ?_, fun j hj => ?_⟩
  · obtain ⟨h1, ⟨⟨p1, p2⟩, p3, p4⟩, ⟨q1, q2⟩, q3, q4⟩ := h.acc k hk
    exact ⟨h1, ⟨p1, p4⟩, q1, q4⟩
  · obtain ⟨h1, ⟨p1, p2⟩, p3, p4⟩ := h.mv j hj
    exact ⟨h1, p1, p4⟩
theorem balF_same {O : List Int} {M M' : List Mv} {V : List Int} {i : Nat} : ∀ j, (∀ q, q < j → (gm M' q).fr = (gm M q).fr ∧ (gm M' q).to = (gm M q).to) → balF O M' V i j = balF O M V i j
  | 0, _ => rfl
  | j + 1, h => by
    simp only [balF]
    rw [balF_same j fun q hq => h q (by omega), (h j (by omega)).1, (h j (by omega)).2]
theorem PartR.los (h : PartR c b O C V) (k : Nat) : losA c O C V k = losA b O C V k := by
  unfold losA
  rw [h.m, balF_same b.mvs.length fun q hq => (h.mv q hq).1]
theorem PartR.tru (h : PartR c b O C V) (ht : TruthIn b O C V) : TruthIn c O C V := by
  refine ⟨fun k hk => ?_, fun j hj => ?_, fun j hj => ?_, fun k hk => ?_⟩
  · rw [h.n] at hk
    obtain ⟨_, ⟨⟨_, p2⟩, p3, _⟩, ⟨_, q2⟩, q3, _⟩ := h.acc k hk
    exact ⟨⟨p2, p3⟩, q2, q3⟩
  · rw [h.m] at hj
    obtain ⟨_, ⟨_, p2⟩, p3, _⟩ := h.mv j hj
    exact ⟨p2, p3⟩
  · rw [h.m] at hj
    rw [(h.mv j hj).1.1, (h.mv j hj).1.2, h.n]
    exact ht.fr j hj
  · rw [h.n] at hk
    rw [h.los k, (h.acc k hk).1.1]
    exact ht.los k hk
theorem PartR.g (h : PartR c b O C V) (hb : BokG b) : BokG c := by
  refine ⟨by rw [h.n]; exact hb.n0, by rw [h.n]; exact hb.n8, by rw [h.m]; exact hb.m30, fun k hk => ?_, fun j hj => ?_⟩
  · rw [h.n] at hk
    obtain ⟨⟨k1, k2⟩, ⟨⟨p1, p2⟩, p3, p4⟩, ⟨q1, q2⟩, q3, q4⟩ := h.acc k hk
    have hg := hb.acc k hk
    have h1 := hg.op
    have h2 := hg.cl
    exact ⟨by rw [k2]; exact hg.name, by rw [k1]; exact hg.kind, by omega, by omega⟩
  · rw [h.m] at hj
    obtain ⟨⟨k1, k2⟩, ⟨p1, p2⟩, p3, p4⟩ := h.mv j hj
    have hg := hb.mv j hj
    have h1 := hg.li
    exact ⟨by rw [k1, h.n]; exact hg.fr, by rw [k2, h.n]; exact hg.to, by rw [k1, k2]; exact hg.ne, by omega⟩
end
/-! ### a move of no litres more -/
theorem grpM_add {l : List Mv} {m : Mv} {i : Nat} {g : Grp} : ∀ j, j ≤ l.length → grpM (l ++ [m]) i g j = grpM l i g j
  | 0, _ => rfl
  | j + 1, h => by
    have e : gm (l ++ [m]) j = gm l j := by rw [gm_app (by omega), if_pos (by omega)]
    simp only [grpM, e]
    rw [grpM_add j (by omega)]
theorem grp_add {b : Bok} {m : Mv} (h : m.li = ⟨0, 0⟩) (i : Nat) : grp (addM b m) i = grp b i := by
  have e : (b.mvs ++ [m]).length = b.mvs.length + 1 := by simp
  have e2 : gm (b.mvs ++ [m]) b.mvs.length = m := by rw [gm_app (by omega), if_neg (by omega)]
  unfold grp addM
  simp only
  rw [e]
  show grpM (b.mvs ++ [m]) i _ (b.mvs.length + 1) = _
  rw [grpM, grpM_add _ (Nat.le_refl _), e2, h]
  cases hG : grpM b.mvs i (grpA b.accs i b.accs.length) b.mvs.length with
  | mk g1 g2 g3 g4 =>
    split
    · simp
    · split <;> simp
theorem lossT_add {b : Bok} {m : Mv} (h : m.li = ⟨0, 0⟩) : lossT (addM b m) = lossT b := by
  have key : ∀ n, totF (addM b m) n = totF b n := by
    intro n
    induction n with
    | zero => rfl
    | succ n ih => simp only [totF]; rw [ih, grp_add h]
  exact key _
theorem oth_add {b : Bok} {m : Mv} (a i : Nat) : ∀ n, othF (addM b m) a i n = othF b a i n
  | 0 => rfl
  | n + 1 => by simp only [othF]; rw [oth_add a i n]; rfl
theorem lossA_add {b : Bok} {m : Mv} (h : m.li = ⟨0, 0⟩) (a : Nat) : lossA (addM b m) a = lossA b a := by
  have key : ∀ n, accF (addM b m) a n = accF b a n := by
    intro n
    induction n with
    | zero => rfl
    | succ n ih => simp only [accF]; rw [ih, grp_add h, oth_add]; rfl
  unfold lossA
  rw [key]
  rfl
theorem lossL_add {b : Bok} {m : Mv} (h : m.li = ⟨0, 0⟩) : lossL (addM b m) = lossL b := by
  unfold lossL
  exact List.map_congr_left fun a _ => lossA_add h a
theorem calm_add {b : Bok} {m : Mv} (h : m.li = ⟨0, 0⟩) {n : Nat} (hc : calm b n) : calm (addM b m) n := fun j hj => by rw [grp_add h]; exact hc j hj
theorem BokG.add {b : Bok} {m : Mv} (hb : BokG b) (h : m.li = ⟨0, 0⟩) (hm : b.mvs.length + 1 ≤ 30) (hf : 0 ≤ m.fr ∧ m.fr < b.accs.length) (ht : 0 ≤ m.to ∧ m.to < b.accs.length) (hne : m.fr ≠ m.to) : BokG (addM b m) := by
  refine ⟨hb.n0, hb.n8, by show (b.mvs ++ [m]).length ≤ 30; simp; omega, hb.acc, fun j hj => ?_⟩
  have hj' : j < b.mvs.length + 1 := by have : j < (b.mvs ++ [m]).length := hj; simpa using this
  show MvOk b.accs.length (gm (b.mvs ++ [m]) j)
  rw [gm_app hj']
  split
  · rename_i h1; exact hb.mv j h1
  · exact ⟨hf, ht, hne, by rw [h]; decide⟩
theorem BokG.addCheck {b : Bok} {O C V : List Int} {m : Mv} (hb : BokG b) (htr : TruthIn b O C V) (h : m.li = ⟨0, 0⟩) (hm : b.mvs.length + 1 ≤ 30) (hf : 0 ≤ m.fr ∧ m.fr < b.accs.length) (ht : 0 ≤ m.to ∧ m.to < b.accs.length) (hne : m.fr ≠ m.to) : checkE (addM b m) = 0 := by
  unfold checkE
  rw [if_pos (hb.add h hm hf ht hne).formed, if_pos (calm_add h (calm_tru htr _))]
end Go.Proofs.Ytfifldbinnkdmaa
/- Refined spans, in plain numbers: they hold all truths. -/
namespace Go.Proofs.Ytfifldbinnkdmaa
open Go.RowKit

/-- A group with so much more at its ends. -/
def shG (g : Grp) (x y : Int) : Grp := ⟨g.least + x, g.most + y, g.ground, g.rest⟩
theorem grpM_sh (l : List Mv) (i : Nat) (g : Grp) (x y : Int) : ∀ j, grpM l i (shG g x y) j = shG (grpM l i g j) x y
  | 0 => rfl
  | j + 1 => by
    simp only [grpM]
    rw [grpM_sh l i g x y j]
    split
    · simp only [shG, Grp.mk.injEq, and_self, and_true]; omega
    · split
      · simp only [shG, Grp.mk.injEq, and_self, and_true]; omega
      · rfl
/-- A book of which one span is another one. -/
def setOp (b : Bok) (a : Nat) (s : Sp) : Bok := ⟨b.accs.set a { ga b.accs a with op := s }, b.mvs⟩
def setCl (b : Bok) (a : Nat) (s : Sp) : Bok := ⟨b.accs.set a { ga b.accs a with cl := s }, b.mvs⟩
theorem grpA_same {l l' : List Acc} {i : Nat} : ∀ n, (∀ k, k < n → (ga l' k).kind = (ga l k).kind) → (∀ k, k < n → i.testBit k = true → (ga l' k).op = (ga l k).op ∧ (ga l' k).cl = (ga l k).cl) → grpA l' i n = grpA l i n
  | 0, _, _ => rfl
  | n + 1, hk, h => by
    have ih := grpA_same n (fun k hk' => hk k (by omega)) fun k hk' => h k (by omega)
    have e := hk n (by omega)
    simp only [grpA, ih, e]
    split
    · rename_i hb
      obtain ⟨e1, e2⟩ := h n (by omega) hb
      rw [e1, e2]
    · rfl
theorem grpA_sh {l l' : List Acc} {a i : Nat} {x y : Int} (hb : i.testBit a = true) (hk : ∀ k, (ga l' k).kind = (ga l k).kind) (h : ∀ k, k ≠ a → (ga l' k).op = (ga l k).op ∧ (ga l' k).cl = (ga l k).cl)
    (hx : (ga l' a).op.lo - (ga l' a).cl.hi = (ga l a).op.lo - (ga l a).cl.hi + x) (hy : (ga l' a).op.hi - (ga l' a).cl.lo = (ga l a).op.hi - (ga l a).cl.lo + y) : ∀ n, a < n → grpA l' i n = shG (grpA l i n) x y
  | 0, hn => by omega
  | n + 1, hn => by
    by_cases e : n = a
    · subst e
      have ih := grpA_same (l := l) (l' := l') (i := i) n (fun k _ => hk k) fun k hk' _ => h k (by omega)
      rw [grpA_yes hb, grpA_yes hb, ih, hk]
      simp only [shG, Grp.mk.injEq, and_self, and_true]; omega
    · have ih := grpA_sh hb hk h hx hy n (by omega)
      obtain ⟨e1, e2⟩ := h n e
      simp only [grpA, ih, hk, e1, e2]
      split
      · simp only [shG, Grp.mk.injEq, and_self, and_true]; omega
      · rfl
theorem ga_setOp {l : List Acc} {a : Nat} {s : Sp} (ha : a < l.length) (k : Nat) : ga (l.set a { ga l a with op := s }) k = if k = a then { ga l a with op := s } else ga l k := ga_set ha
theorem ga_setCl {l : List Acc} {a : Nat} {s : Sp} (ha : a < l.length) (k : Nat) : ga (l.set a { ga l a with cl := s }) k = if k = a then { ga l a with cl := s } else ga l k := ga_set ha
theorem grpA_setOp {l : List Acc} {a i : Nat} {s : Sp} (ha : a < l.length) (hb : i.testBit a = true) {n : Nat} (hn : a < n) : grpA (l.set a { ga l a with op := s }) i n = shG (grpA l i n) (s.lo - (ga l a).op.lo) (s.hi - (ga l a).op.hi) := by
  refine grpA_sh hb (fun k => ?_) (fun k hk => ?_) ?_ ?_ n hn
  · rw [ga_setOp ha]; split
    · rename_i e; subst e; rfl
    · rfl
  · rw [ga_setOp ha, if_neg hk]; exact ⟨rfl, rfl⟩
  · rw [ga_setOp ha, if_pos rfl]; simp only; omega
  · rw [ga_setOp ha, if_pos rfl]; simp only; omega
theorem grpA_setCl {l : List Acc} {a i : Nat} {s : Sp} (ha : a < l.length) (hb : i.testBit a = true) {n : Nat} (hn : a < n) : grpA (l.set a { ga l a with cl := s }) i n = shG (grpA l i n) ((ga l a).cl.hi - s.hi) ((ga l a).cl.lo - s.lo) := by
  refine grpA_sh hb (fun k => ?_) (fun k hk => ?_) ?_ ?_ n hn
  · rw [ga_setCl ha]; split
    · rename_i e; subst e; rfl
    · rfl
  · rw [ga_setCl ha, if_neg hk]; exact ⟨rfl, rfl⟩
  · rw [ga_setCl ha, if_pos rfl]; simp only; omega
  · rw [ga_setCl ha, if_pos rfl]; simp only; omega
theorem grp_setOp {b : Bok} {a i : Nat} {s : Sp} (ha : a < b.accs.length) (hb : i.testBit a = true) : grp (setOp b a s) i = shG (grp b i) (s.lo - (ga b.accs a).op.lo) (s.hi - (ga b.accs a).op.hi) := by
  unfold grp setOp
  simp only [List.length_set]
  rw [grpA_setOp ha hb ha, grpM_sh]
theorem grp_setCl {b : Bok} {a i : Nat} {s : Sp} (ha : a < b.accs.length) (hb : i.testBit a = true) : grp (setCl b a s) i = shG (grp b i) ((ga b.accs a).cl.hi - s.hi) ((ga b.accs a).cl.lo - s.lo) := by
  unfold grp setCl
  simp only [List.length_set]
  rw [grpA_setCl ha hb ha, grpM_sh]
theorem gm_set' {l : List Mv} {i k : Nat} {x : Mv} (hi : i < l.length) : gm (l.set i x) k = if k = i then x else gm l k := by
  unfold gm
  by_cases h : k = i
  · subst h; simp [hi]
  · simp only [List.getD_eq_getElem?_getD]
    rw [List.getElem?_set_ne (fun e => h e.symm), if_neg h]
theorem grpM_alike {l l' : List Mv} {i : Nat} {g : Grp} : ∀ n, (∀ k, k < n → gm l' k = gm l k) → grpM l' i g n = grpM l i g n
  | 0, _ => rfl
  | n + 1, h => by
    simp only [grpM, grpM_alike n fun k hk => h k (by omega), h n (by omega)]
theorem grpM_one {l l' : List Mv} {a i : Nat} {g : Grp} {x y : Int} (h : ∀ k, k ≠ a → gm l' k = gm l k) (h1 : ∀ g' : Grp, grpM l' i g a = g' → grpM l' i g (a + 1) = shG (grpM l i g (a + 1)) x y) : ∀ n, a < n → grpM l' i g n = shG (grpM l i g n) x y
  | 0, hn => by omega
  | n + 1, hn => by
    by_cases e : n = a
    · subst e; exact h1 _ rfl
    · have ih := grpM_one h h1 n (by omega)
      simp only [grpM, ih, h n e]
      split
      · simp only [shG, Grp.mk.injEq, and_self, and_true]; omega
      · split
        · simp only [shG, Grp.mk.injEq, and_self, and_true]; omega
        · rfl
def setLi (b : Bok) (a : Nat) (s : Sp) : Bok := ⟨b.accs, b.mvs.set a { gm b.mvs a with li := s }⟩
theorem gm_setLi {l : List Mv} {a : Nat} {s : Sp} (ha : a < l.length) (k : Nat) : gm (l.set a { gm l a with li := s }) k = if k = a then { gm l a with li := s } else gm l k := gm_set' ha
theorem grp_setLi_in {b : Bok} {a i : Nat} {s : Sp} (ha : a < b.mvs.length) (ht : bitOf i (gm b.mvs a).to = true) (hf : bitOf i (gm b.mvs a).fr = false) : grp (setLi b a s) i = shG (grp b i) (s.lo - (gm b.mvs a).li.lo) (s.hi - (gm b.mvs a).li.hi) := by
  unfold grp setLi
  simp only [List.length_set]
  refine grpM_one (a := a) (fun k hk => by rw [gm_setLi ha, if_neg hk]) (fun _ _ => ?_) _ ha
  have ih := grpM_alike (l := b.mvs) (l' := b.mvs.set a { gm b.mvs a with li := s }) (i := i) (g := grpA b.accs i b.accs.length) a fun k hk => by rw [gm_setLi ha, if_neg (by omega)]
  simp only [grpM, ih]
  rw [gm_setLi ha, if_pos rfl]
  simp only [ht, hf, Bool.not_false, Bool.and_true, if_true, shG, Grp.mk.injEq, and_self, and_true]
  omega
theorem grp_setLi_out {b : Bok} {a i : Nat} {s : Sp} (ha : a < b.mvs.length) (ht : bitOf i (gm b.mvs a).to = false) (hf : bitOf i (gm b.mvs a).fr = true) : grp (setLi b a s) i = shG (grp b i) ((gm b.mvs a).li.hi - s.hi) ((gm b.mvs a).li.lo - s.lo) := by
  unfold grp setLi
  simp only [List.length_set]
  refine grpM_one (a := a) (fun k hk => by rw [gm_setLi ha, if_neg hk]) (fun _ _ => ?_) _ ha
  have ih := grpM_alike (l := b.mvs) (l' := b.mvs.set a { gm b.mvs a with li := s }) (i := i) (g := grpA b.accs i b.accs.length) a fun k hk => by rw [gm_setLi ha, if_neg (by omega)]
  simp only [grpM, ih]
  rw [gm_setLi ha, if_pos rfl]
  simp only [ht, hf, Bool.not_true, Bool.and_false, Bool.not_false, Bool.and_true, Bool.false_eq_true, if_true, if_false, shG, Grp.mk.injEq, and_self, and_true]
  omega
section
variable {b : Bok} {O C V : List Int}
theorem tru_setOp (h : TruthIn b O C V) {a : Nat} (ha : a < b.accs.length) : TruthIn (setOp b a ⟨gi O a, gi O a⟩) O C V := by
  refine ⟨fun k hk => ?_, h.mv, fun j hj => ?_, fun k hk => ?_⟩
  · have hk' : k < b.accs.length := by have : k < (b.accs.set a _).length := hk; rwa [List.length_set] at this
    unfold truA setOp
    simp only
    rw [ga_set ha]
    split
    · rename_i e; subst e; exact ⟨⟨Int.le_refl _, Int.le_refl _⟩, (h.acc k hk').2⟩
    · exact h.acc k hk'
  · have := h.fr j hj
    show (0 ≤ _ ∧ _ < ((b.accs.set a _).length : Int)) ∧ 0 ≤ _ ∧ _ < ((b.accs.set a _).length : Int)
    rw [List.length_set]
    exact this
  · have hk' : k < b.accs.length := by have : k < (b.accs.set a _).length := hk; rwa [List.length_set] at this
    refine ⟨(h.los k hk').1, fun e => (h.los k hk').2 ?_⟩
    have e' : (ga (b.accs.set a { ga b.accs a with op := ⟨gi O a, gi O a⟩ }) k).kind = 2 := e
    rw [ga_set ha] at e'
    split at e'
    · rename_i e2; subst e2; exact e'
    · exact e'
theorem tru_setCl (h : TruthIn b O C V) {a : Nat} (ha : a < b.accs.length) : TruthIn (setCl b a ⟨gi C a, gi C a⟩) O C V := by
  refine ⟨fun k hk => ?_, h.mv, fun j hj => ?_, fun k hk => ?_⟩
  · have hk' : k < b.accs.length := by have : k < (b.accs.set a _).length := hk; rwa [List.length_set] at this
    unfold truA setCl
    simp only
    rw [ga_set ha]
    split
    · rename_i e; subst e; exact ⟨(h.acc k hk').1, Int.le_refl _, Int.le_refl _⟩
    · exact h.acc k hk'
  · have := h.fr j hj
    show (0 ≤ _ ∧ _ < ((b.accs.set a _).length : Int)) ∧ 0 ≤ _ ∧ _ < ((b.accs.set a _).length : Int)
    rw [List.length_set]
    exact this
  · have hk' : k < b.accs.length := by have : k < (b.accs.set a _).length := hk; rwa [List.length_set] at this
    refine ⟨(h.los k hk').1, fun e => (h.los k hk').2 ?_⟩
    have e' : (ga (b.accs.set a { ga b.accs a with cl := ⟨gi C a, gi C a⟩ }) k).kind = 2 := e
    rw [ga_set ha] at e'
    split at e'
    · rename_i e2; subst e2; exact e'
    · exact e'
theorem tru_ends (h : TruthIn b O C V) (i : Nat) : 0 ≤ (grp b i).most ∧ ((grp b i).ground = true → (grp b i).least ≤ 0) := by
  have hc := calm_tru h (i + 1) i (by omega)
  unfold clash at hc
  rw [Bool.or_eq_false_iff] at hc
  obtain ⟨h1, h2⟩ := hc
  refine ⟨by simpa using h1, fun hg => ?_⟩
  rw [hg] at h2
  simpa using h2
/-- What a set says of the opening litres of one of its accounts. -/
theorem op_set (h : TruthIn b O C V) {a i : Nat} (ha : a < b.accs.length) (hb : i.testBit a = true) : (ga b.accs a).op.hi - (grp b i).most ≤ gi O a ∧ ((grp b i).ground = true → gi O a ≤ (ga b.accs a).op.lo - (grp b i).least) := by
  have h1 := tru_ends (tru_setOp h ha) i
  rw [grp_setOp ha hb] at h1
  simp only [shG] at h1
  exact ⟨by omega, fun hg => by have := h1.2 hg; omega⟩
theorem cl_set (h : TruthIn b O C V) {a i : Nat} (ha : a < b.accs.length) (hb : i.testBit a = true) : gi C a ≤ (ga b.accs a).cl.lo + (grp b i).most ∧ ((grp b i).ground = true → (ga b.accs a).cl.hi + (grp b i).least ≤ gi C a) := by
  have h1 := tru_ends (tru_setCl h ha) i
  rw [grp_setCl ha hb] at h1
  simp only [shG] at h1
  exact ⟨by omega, fun hg => by have := h1.2 hg; omega⟩
theorem balF_li {O : List Int} {M : List Mv} {V : List Int} {a k : Nat} {s : Sp} (ha : a < M.length) : ∀ j, balF O (M.set a { gm M a with li := s }) V k j = balF O M V k j
  | 0 => rfl
  | j + 1 => by
    have e : (gm (M.set a { gm M a with li := s }) j).to = (gm M j).to ∧ (gm (M.set a { gm M a with li := s }) j).fr = (gm M j).fr := by
      rw [gm_setLi ha]; split
      · rename_i e; subst e; exact ⟨rfl, rfl⟩
      · exact ⟨rfl, rfl⟩
    simp only [balF, balF_li ha j, e.1, e.2]
theorem tru_setLi (h : TruthIn b O C V) {a : Nat} (ha : a < b.mvs.length) : TruthIn (setLi b a ⟨gi V a, gi V a⟩) O C V := by
  have hlen : (setLi b a ⟨gi V a, gi V a⟩).mvs.length = b.mvs.length := List.length_set
  refine ⟨h.acc, fun j hj => ?_, fun j hj => ?_, fun k hk => ?_⟩
  · rw [hlen] at hj
    unfold truM setLi
    simp only
    rw [gm_setLi ha]
    split
    · rename_i e; subst e; exact ⟨Int.le_refl _, Int.le_refl _⟩
    · exact h.mv j hj
  · rw [hlen] at hj
    have := h.fr j hj
    unfold setLi
    simp only
    rw [gm_setLi ha]
    split
    · rename_i e; subst e; exact this
    · exact this
  · have e : losA (setLi b a ⟨gi V a, gi V a⟩) O C V k = losA b O C V k := by
      unfold losA
      rw [hlen]
      show balF O (b.mvs.set a _) V k _ - _ = _
      rw [balF_li ha]
    rw [e]
    exact h.los k hk
theorem li_in (h : TruthIn b O C V) {a i : Nat} (ha : a < b.mvs.length) (ht : bitOf i (gm b.mvs a).to = true) (hf : bitOf i (gm b.mvs a).fr = false) : (gm b.mvs a).li.hi - (grp b i).most ≤ gi V a ∧ ((grp b i).ground = true → gi V a ≤ (gm b.mvs a).li.lo - (grp b i).least) := by
  have h1 := tru_ends (tru_setLi h ha) i
  rw [grp_setLi_in ha ht hf] at h1
  simp only [shG] at h1
  exact ⟨by omega, fun hg => by have := h1.2 hg; omega⟩
theorem li_out (h : TruthIn b O C V) {a i : Nat} (ha : a < b.mvs.length) (ht : bitOf i (gm b.mvs a).to = false) (hf : bitOf i (gm b.mvs a).fr = true) : gi V a ≤ (gm b.mvs a).li.lo + (grp b i).most ∧ ((grp b i).ground = true → (gm b.mvs a).li.hi + (grp b i).least ≤ gi V a) := by
  have h1 := tru_ends (tru_setLi h ha) i
  rw [grp_setLi_out ha ht hf] at h1
  simp only [shG] at h1
  exact ⟨by omega, fun hg => by have := h1.2 hg; omega⟩
theorem nar_in {into out : Nat → Bool} {was : Sp} {v : Int} (h0 : was.lo ≤ v ∧ v ≤ was.hi) (h1 : ∀ i, into i = true → was.hi - (grp b i).most ≤ v ∧ ((grp b i).ground = true → v ≤ was.lo - (grp b i).least)) (h2 : ∀ i, into i = false → out i = true → v ≤ was.lo + (grp b i).most ∧ ((grp b i).ground = true → was.hi + (grp b i).least ≤ v)) :
    ∀ n, (narF b into out was n).lo ≤ v ∧ v ≤ (narF b into out was n).hi
  | 0 => h0
  | n + 1 => by
    obtain ⟨a1, a2⟩ := nar_in h0 h1 h2 n
    unfold narF
    by_cases c1 : into n = true
    · rw [if_pos c1]
      obtain ⟨b1, b2⟩ := h1 n c1
      simp only
      by_cases g : (grp b n).ground = true
      · have := b2 g
        rw [if_pos g]; omega
      · rw [if_neg g]; omega
    · rw [if_neg c1]
      by_cases c2 : out n = true
      · rw [if_pos c2]
        obtain ⟨b1, b2⟩ := h2 n (by simpa using c1) c2
        simp only
        by_cases g : (grp b n).ground = true
        · have := b2 g
          rw [if_pos g]; omega
        · rw [if_neg g]; omega
      · rw [if_neg c2]; exact ⟨a1, a2⟩
end
end Go.Proofs.Ytfifldbinnkdmaa
/- All that accounts lose together, in a truth, lies within the total. -/
namespace Go.Proofs.Ytfifldbinnkdmaa
open Go.RowKit

theorem grpA_rest {l : List Acc} {i : Nat} : ∀ n, (grpA l i n).rest = true → ∀ k, k < n → i.testBit k = false → (ga l k).kind = 2
  | 0, _, k, hk, _ => by omega
  | n + 1, h, k, hk, hb => by
    unfold grpA at h
    by_cases e : i.testBit n = true
    · rw [if_pos e] at h
      have ek : k ≠ n := fun ek => by subst ek; rw [e] at hb; cases hb
      exact grpA_rest n h k (by omega) hb
    · rw [if_neg e] at h
      simp only [Bool.and_eq_true, beq_iff_eq] at h
      by_cases ek : k = n
      · subst ek; exact h.2
      · exact grpA_rest n h.1 k (by omega) hb
/-- The sum over all accounts. -/
def sumN (f : Nat → Int) : Nat → Int
  | 0 => 0
  | n + 1 => sumN f n + f n
theorem sumS_le {i : Nat} {f : Nat → Int} : ∀ n, (∀ k, k < n → 0 ≤ f k) → sumS i f n ≤ sumN f n
  | 0, _ => Int.le_refl _
  | n + 1, h => by
    have h1 := sumS_le (i := i) n fun k hk => h k (by omega)
    have h2 := h n (by omega)
    simp only [sumS, sumN]
    split <;> omega
theorem sumS_all {i : Nat} {f : Nat → Int} : ∀ n, (∀ k, k < n → i.testBit k = false → f k = 0) → sumS i f n = sumN f n
  | 0, _ => rfl
  | n + 1, h => by
    have h1 := sumS_all n fun k hk => h k (by omega)
    simp only [sumS, sumN, h1]
    by_cases e : i.testBit n = true
    · rw [if_pos e]
    · rw [if_neg e, h n (by omega) (by simpa using e)]
theorem tot_in {b : Bok} {O C V : List Int} (h : TruthIn b O C V) (hb : sumN (losA b O C V) b.accs.length ≤ 1125899906842624) : ∀ m, (totF b m).lo ≤ sumN (losA b O C V) b.accs.length ∧ sumN (losA b O C V) b.accs.length ≤ (totF b m).hi
  | 0 => by
    refine ⟨?_, hb⟩
    have h1 := sumS_le (i := 0) (f := losA b O C V) b.accs.length fun k hk => (h.los k hk).1
    have h2 := sumS_nn (i := 0) (f := losA b O C V) (n := b.accs.length) fun k hk _ => (h.los k hk).1
    show (0 : Int) ≤ _
    omega
  | m + 1 => by
    obtain ⟨h1, h2⟩ := tot_in h hb m
    obtain ⟨g1, g2⟩ := grp_tru h m
    have h3 := sumS_le (i := m) (f := losA b O C V) b.accs.length fun k hk => (h.los k hk).1
    unfold totF
    refine ⟨by simp only; omega, ?_⟩
    simp only
    by_cases hr : (grp b m).rest = true
    · have hr' : (grpA b.accs m b.accs.length).rest = true := by rw [← (grpM_ground b.mvs m _ b.mvs.length).2]; exact hr
      have h4 := sumS_all (i := m) (f := losA b O C V) b.accs.length fun k hk hb' => (h.los k hk).2 (grpA_rest _ hr' k hk hb')
      rw [if_pos hr]
      omega
    · rw [if_neg hr]; exact h2
/-- What Balance reckons is what accounts lose. -/
theorem lsM_los {b : Bok} {O C V : List Int} (h : ∀ j, j < b.mvs.length → MvOk b.accs.length (gm b.mvs j)) : ∀ k, k ≤ b.mvs.length → ∀ j, j < b.accs.length → gi (lsM b O C V k) j = balF O b.mvs V j k - gi C j
  | 0, _, j, hj => by rw [lsM, gi_lsA hj, if_pos hj]; rfl
  | k + 1, hk, j, hj => by
    have h1 := h k (by omega)
    have hf := h1.fr
    have ht := h1.to
    have hne := h1.ne
    have hl := lsM_len b O C V k
    have ih := lsM_los (O := O) (C := C) (V := V) h k (by omega)
    have ihj := ih j hj
    have ihf := ih (gm b.mvs k).fr.toNat (by omega)
    have iht := ih (gm b.mvs k).to.toNat (by omega)
    have e1 : ((gm b.mvs k).to = (j : Int)) = (j = (gm b.mvs k).to.toNat) := by apply propext; omega
    have e2 : ((gm b.mvs k).fr = (j : Int)) = (j = (gm b.mvs k).fr.toNat) := by apply propext; omega
    have hne' : (gm b.mvs k).to.toNat ≠ (gm b.mvs k).fr.toNat := by omega
    rw [lsM, gi_addAt (by rw [addAt_len]; omega), gi_addAt (by omega), gi_addAt (by omega)]
    simp only [balF, e1, e2]
    rw [if_neg hne']
    by_cases c1 : j = (gm b.mvs k).to.toNat
    · rw [if_pos c1, if_pos c1, if_neg (by omega), ← c1]
      rw [← c1] at iht
      omega
    · rw [if_neg c1, if_neg c1]
      by_cases c2 : j = (gm b.mvs k).fr.toNat
      · rw [if_pos c2, if_pos c2, ← c2]
        rw [← c2] at ihf
        omega
      · rw [if_neg c2, if_neg c2]
        omega
theorem sumN_congr {f g : Nat → Int} : ∀ n, (∀ k, k < n → f k = g k) → sumN f n = sumN g n
  | 0, _ => rfl
  | n + 1, h => by simp only [sumN]; rw [sumN_congr n fun k hk => h k (by omega), h n (by omega)]
theorem sumN_add (f g : Nat → Int) : ∀ n, sumN (fun k => f k + g k) n = sumN f n + sumN g n
  | 0 => rfl
  | n + 1 => by simp only [sumN]; rw [sumN_add f g n]; omega
theorem sumN_one (v : Int) (z : Nat) : ∀ n, sumN (fun k => if k = z then v else 0) n = if z < n then v else 0
  | 0 => by simp [sumN]
  | n + 1 => by
    simp only [sumN]
    rw [sumN_one v z n]
    by_cases h : n = z
    · rw [if_pos h, if_neg (by omega), if_pos (by omega)]; omega
    · rw [if_neg h]
      by_cases h2 : z < n
      · rw [if_pos h2, if_pos (by omega)]; omega
      · rw [if_neg h2, if_neg (by omega)]; omega
/-- Moves take nothing away. -/
theorem bal_sum {n : Nat} {O : List Int} {M : List Mv} {V : List Int} (h : ∀ j, j < M.length → MvOk n (gm M j)) : ∀ j, j ≤ M.length → sumN (fun k => balF O M V k j) n = sumN (fun k => gi O k) n
  | 0, _ => rfl
  | j + 1, hj => by
    have h1 := h j (by omega)
    have hf := h1.fr
    have ht := h1.to
    rw [← bal_sum (V := V) h j (by omega)]
    have e : sumN (fun k => balF O M V k (j + 1)) n = sumN (fun k => balF O M V k j + ((if k = (gm M j).to.toNat then gi V j else 0) + (if k = (gm M j).fr.toNat then -(gi V j) else 0))) n := by
      refine sumN_congr n fun k hk => ?_
      have e1 : ((gm M j).to = (k : Int)) = (k = (gm M j).to.toNat) := by apply propext; omega
      have e2 : ((gm M j).fr = (k : Int)) = (k = (gm M j).fr.toNat) := by apply propext; omega
      simp only [balF, e1, e2]
      split <;> split <;> omega
    rw [e, sumN_add, sumN_add, sumN_one, sumN_one, if_pos (by omega), if_pos (by omega)]
    omega
theorem los_sum {b : Bok} {O C V : List Int} (h : ∀ j, j < b.mvs.length → MvOk b.accs.length (gm b.mvs j)) : sumN (fun k => gi O k) b.accs.length = sumN (fun k => gi C k) b.accs.length + sumN (losA b O C V) b.accs.length := by
  rw [← bal_sum (V := V) h b.mvs.length (Nat.le_refl _), ← sumN_add]
  exact sumN_congr _ fun k _ => by unfold losA; omega
end Go.Proofs.Ytfifldbinnkdmaa
/- The refined book, in plain numbers: it holds all truths. -/
namespace Go.Proofs.Ytfifldbinnkdmaa
open Go.RowKit

theorem bitOf_natT (i k : Nat) : bitOf i (k : Int) = i.testBit k := by unfold bitOf; rw [Int.toNat_natCast]
theorem narO_in {b : Bok} {O C V : List Int} (h : TruthIn b O C V) {k : Nat} (hk : k < b.accs.length) : (narO b k).lo ≤ gi O k ∧ gi O k ≤ (narO b k).hi :=
  nar_in (h.acc k hk).1 (fun i hi => op_set h hk (by rw [← bitOf_natT]; exact hi)) (fun i _ hi => by cases hi) _
theorem narC_in {b : Bok} {O C V : List Int} (h : TruthIn b O C V) {k : Nat} (hk : k < b.accs.length) : (narC b k).lo ≤ gi C k ∧ gi C k ≤ (narC b k).hi :=
  nar_in (h.acc k hk).2 (fun i hi => by cases hi) (fun i _ hi => cl_set h hk (by rw [← bitOf_natT]; exact hi)) _
theorem and_nb {x y : Bool} (h : (x && !y) = true) : x = true ∧ y = false := by cases x <;> cases y <;> simp_all
theorem narL_in {b : Bok} {O C V : List Int} (h : TruthIn b O C V) {k : Nat} (hk : k < b.mvs.length) : (narL b k).lo ≤ gi V k ∧ gi V k ≤ (narL b k).hi :=
  nar_in (h.mv k hk) (fun i hi => li_in h hk (and_nb hi).1 (and_nb hi).2) (fun i _ hi => li_out h hk (and_nb hi).2 (and_nb hi).1) _
/-- A truth lies in the refined book. -/
theorem ref_truA {b : Bok} {O C V : List Int} (h : TruthIn b O C V) {k : Nat} (hk : k < b.accs.length) : truA (refB b) O C k := by
  unfold truA
  rw [ga_ref hk]
  exact ⟨narO_in h hk, narC_in h hk⟩
theorem ref_truM {b : Bok} {O C V : List Int} (h : TruthIn b O C V) {k : Nat} (hk : k < b.mvs.length) : truM (refB b) V k := by
  unfold truM
  rw [gm_ref hk]
  exact narL_in h hk
end Go.Proofs.Ytfifldbinnkdmaa
/- What FuelTruth says, in plain numbers. -/
namespace Go.Proofs.Ytfifldbinnkdmaa
open Go.RowKit

theorem sumN_ge {f : Nat → Int} {a : Nat} : ∀ n, (∀ k, k < n → 0 ≤ f k) → a < n → f a ≤ sumN f n ∧ 0 ≤ sumN f n
  | 0, _, ha => by omega
  | n + 1, h, ha => by
    have h2 := h n (by omega)
    have h0 : ∀ m, m ≤ n → 0 ≤ sumN f m := fun m hm => by
      induction m with
      | zero => exact Int.le_refl _
      | succ m ih => have := ih (by omega); have := h m (by omega); simp only [sumN]; omega
    have h3 := h0 n (Nat.le_refl _)
    simp only [sumN]
    by_cases e : a = n
    · subst e; omega
    · have := (sumN_ge n (fun k hk => h k (by omega)) (by omega : a < n)).1
      omega
theorem sumN_le {f : Nat → Int} {B : Int} : ∀ n, (∀ k, k < n → f k ≤ B) → sumN f n ≤ B * (n : Int)
  | 0, _ => by simp [sumN]
  | n + 1, h => by
    have h1 := sumN_le n fun k hk => h k (by omega)
    have h2 := h n (by omega)
    simp only [sumN]
    rw [show ((n + 1 : Nat) : Int) = (n : Int) + 1 by omega, Int.mul_add]
    omega
theorem sumN_nn {f : Nat → Int} : ∀ n, (∀ k, k < n → 0 ≤ f k) → 0 ≤ sumN f n
  | 0, _ => Int.le_refl _
  | n + 1, h => by have := sumN_nn n fun k hk => h k (by omega); have := h n (by omega); simp only [sumN]; omega
section
variable {b : Bok} {O C V : List Int}
theorem bal_tru (hck : checkE b = 0) (hl : O.length = b.accs.length ∧ C.length = b.accs.length ∧ V.length = b.mvs.length) (hok : BokOk b) (h : TruthIn b O C V) : balE b O C V = 0 := by
  refine balE_ok hck hl h.acc h.mv fun i hi hbad => ?_
  have e := lsM_los (O := O) (C := C) (V := V) hok.mv b.mvs.length (Nat.le_refl _) i hi
  obtain ⟨h1, h2⟩ := h.los i hi
  unfold losA at h1 h2
  unfold badA at hbad
  rw [e] at hbad
  rcases hbad with hb | ⟨hb, hk⟩
  · omega
  · have := h2 hk; omega
/-- All that FuelTruth asks of the numbers. -/
structure TruN (b : Bok) (LL : List Int) (sO sC sL : Int) : Prop where
  len : LL.length = b.accs.length
  bd : ∀ k, k < LL.length → 0 ≤ gi LL k ∧ gi LL k ≤ 10000000000
  los : ∀ k, k < b.accs.length → (lossA b k).lo ≤ gi LL k ∧ gi LL k ≤ (lossA b k).hi
  tot : (lossT b).lo ≤ sL ∧ sL ≤ (lossT b).hi
  sum : sO = sC + sL
  sb : (0 ≤ sC ∧ sC ≤ 10000000000) ∧ 0 ≤ sL ∧ sL ≤ 10000000000
theorem truth_nums {LL : List Int} {sO sC sL : Int} (hl : O.length = b.accs.length ∧ C.length = b.accs.length ∧ V.length = b.mvs.length) (hok : BokOk b) (h : TruthIn b O C V)
    (hLL : lsM b O C V b.mvs.length = LL) (hO : sumN (fun k => gi O k) O.length = sO) (hC : sumN (fun k => gi C k) C.length = sC) (hL : sumN (fun k => gi LL k) LL.length = sL) : TruN b LL sO sC sL := by
  have hlen : LL.length = b.accs.length := by rw [← hLL, lsM_len]
  have hn := hok.n8
  have e : ∀ k, k < b.accs.length → gi LL k = losA b O C V k := fun k hk => by
    rw [← hLL]
    exact lsM_los (O := O) (C := C) (V := V) hok.mv b.mvs.length (Nat.le_refl _) k hk
  have hs : sumN (losA b O C V) b.accs.length = sL := by
    rw [← hL, hlen]
    exact sumN_congr _ fun k hk => (e k hk).symm
  have hsum := los_sum (O := O) (C := C) (V := V) hok.mv
  rw [hl.1] at hO
  rw [hl.2.1] at hC
  rw [hO, hC, hs] at hsum
  have hO1 : sO ≤ 1000000000 * (b.accs.length : Int) := by
    rw [← hO]
    refine sumN_le _ fun k hk => ?_
    have h1 := (h.acc k hk).1
    have h2 := (hok.acc k hk).op
    omega
  have hC1 : 0 ≤ sC := by
    rw [← hC]
    refine sumN_nn _ fun k hk => ?_
    have h1 := (h.acc k hk).2
    have h2 := (hok.acc k hk).cl
    omega
  have hL1 : 0 ≤ sL := by
    rw [← hs]
    exact sumN_nn _ fun k hk => (h.los k hk).1
  have hb : sumN (losA b O C V) b.accs.length ≤ 1125899906842624 := by rw [hs]; omega
  refine ⟨hlen, fun k hk => ?_, fun k hk => ?_, ?_, hsum, by omega⟩
  · rw [hlen] at hk
    rw [e k hk]
    have h1 := (sumN_ge (f := losA b O C V) (a := k) b.accs.length (fun q hq => (h.los q hq).1) hk).1
    rw [hs] at h1
    exact ⟨(h.los k hk).1, by omega⟩
  · rw [e k hk]
    exact loss_in hok h hk
  · have := tot_in h hb (2 ^ b.accs.length)
    rw [hs] at this
    exact this
end
end Go.Proofs.Ytfifldbinnkdmaa
