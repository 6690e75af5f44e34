/- Books made of numbers are valid and have a truth; parts of them; a move of no litres more. -/
import Derived.Test.YtfifldbinnkdmaaPTru
import Derived.Test.YtfifldbinnkdmaaBookOf
set_option linter.unusedVariables false
set_option linter.unusedSimpArgs false
set_option linter.unnecessarySimpa false
namespace Go.Proofs.Ytfifldbinnkdmaa
open Go.RowKit

theorem spE_ok {s : Sp} (h : 0 ≤ s.lo ∧ s.lo ≤ s.hi ∧ s.hi ≤ 1000000000) : spE s = 0 := by
  unfold spE spanErr
  rw [inB_mk (by omega) (by omega), inB_mk (by omega) (by omega)]
  simp
  omega
theorem accsErr_g {l : List Acc} : ∀ (f i : Nat), i + f = l.length → (∀ k, i ≤ k → k < l.length → accErr (names l k) (ga l k) = 0) → accsErr l f i = 0
  | 0, _, _, _ => rfl
  | f + 1, i, h, hk => by
    rw [accsErr, if_pos (hk i (Nat.le_refl _) (by omega))]
    exact accsErr_g f (i + 1) (by omega) fun k h1 h2 => hk k (by omega) h2
theorem mvsErr_g {n : Int} {l : List Mv} : ∀ (f i : Nat), i + f = l.length → (∀ k, i ≤ k → k < l.length → mvErr n (gm l k) = 0) → mvsErr n l f i = 0
  | 0, _, _, _ => rfl
  | f + 1, i, h, hk => by
    rw [mvsErr, if_pos (hk i (Nat.le_refl _) (by omega))]
    exact mvsErr_g f (i + 1) (by omega) fun k h1 h2 => hk k (by omega) h2
theorem nm_named : ∀ k, k < 8 → namedB (nmAt k) = true := by decide +kernel
theorem nm_ne : ∀ k, k < 8 → ∀ j, j < k → (nmAt j).data.toList ≠ (nmAt k).data.toList := by decide +kernel
theorem names_mem {l : List Acc} {k : Nat} {n : ByteArray} (h : n ∈ names l k) : ∃ j, j < k ∧ j < l.length ∧ n = (ga l j).name := by
  unfold names at h
  obtain ⟨a, ha, rfl⟩ := List.mem_map.1 h
  obtain ⟨j, hj, rfl⟩ := List.getElem_of_mem ha
  rw [List.length_take] at hj
  rw [List.getElem_take]
  exact ⟨j, by omega, by omega, by rw [ga_get (by omega)]⟩
/-- Accounts as BookOf makes them. -/
structure AccG (a : Acc) (k : Nat) : Prop where
  name : a.name = nmAt k
  kind : a.kind = 1 ∨ a.kind = 2
  op : 0 ≤ a.op.lo ∧ a.op.lo ≤ a.op.hi ∧ a.op.hi ≤ 1000000000
  cl : 0 ≤ a.cl.lo ∧ a.cl.lo ≤ a.cl.hi ∧ a.cl.hi ≤ 1000000000
structure BokG (b : Bok) : Prop where
  n0 : 0 < b.accs.length
  n8 : b.accs.length ≤ 8
  m30 : b.mvs.length ≤ 30
  acc : ∀ k, k < b.accs.length → AccG (ga b.accs k) k
  mv : ∀ j, j < b.mvs.length → MvOk b.accs.length (gm b.mvs j)
theorem BokG.formed {b : Bok} (h : BokG b) : formedE b = 0 := by
  have hn0 := h.n0
  have hn8 := h.n8
  have hm := h.m30
  have ha : accsE b.accs = 0 := by
    unfold accsE
    rw [if_neg (by omega), if_neg (by omega)]
    refine accsErr_g _ _ (by omega) fun k _ hk => ?_
    have hg := h.acc k hk
    have h1 : hasName (names b.accs k) (ga b.accs k).name = false := by
      unfold hasName
      rw [decide_eq_false_iff_not]
      rintro ⟨n, hn, he⟩
      obtain ⟨j, hj, hjl, rfl⟩ := names_mem hn
      rw [(h.acc j hjl).name, hg.name] at he
      exact nm_ne k (by omega) j hj he
    have hkd := hg.kind
    unfold accErr
    rw [hg.name, if_pos (nm_named k (by omega)), ← hg.name, if_neg (by rw [h1]; simp), if_pos (inB_mk (by omega) (by omega)), if_pos (spE_ok hg.op)]
    exact spE_ok hg.cl
  unfold formedE
  rw [if_pos ha]
  unfold mvsE
  rw [if_neg (by omega)]
  refine mvsErr_g _ _ (by omega) fun j _ hj => ?_
  have hg := h.mv j hj
  have h1 := hg.fr
  have h2 := hg.to
  unfold mvErr
  rw [if_pos (by rw [inB_mk (by omega) (by omega), inB_mk (by omega) (by omega)]; rfl), if_neg hg.ne]
  exact spE_ok hg.li
theorem BokG.ok {b : Bok} (h : BokG b) : BokOk b := formed_bok h.formed
theorem BokG.check {b : Bok} {O C V : List Int} (h : BokG b) (ht : TruthIn b O C V) : checkE b = 0 := check_tru h.formed ht
section
variable {accounts moves : Nat} {L W : Int} {b : Bok} {O C V : List Int}
theorem bt_g (h : BookTruth accounts moves L W b O C V) (h8 : accounts ≤ 8) (hm : moves ≤ 30) (hL : 0 ≤ L ∧ L ≤ 1000000) (hW : 0 ≤ W ∧ W ≤ 1000) : BokG b := by
  have hn := h.n8
  have hS : (b.accs.length : Int) * L ≤ 8000000 := by
    have h1 : (b.accs.length : Int) * L ≤ 8 * L := Int.mul_le_mul_of_nonneg_right (by omega) hL.1
    omega
  refine ⟨h.n0, by omega, by have := h.m; omega, fun k hk => ?_, fun j hj => ?_⟩
  · have h1 := h.acc k hk
    have h2 := h.cl k hk
    have h3 := h.tot k hk
    have h4 := h1.op
    have h5 := h1.ob
    exact ⟨h1.name, h1.kind, by omega, by omega⟩
  · have h1 := h.mv j hj
    have h2 := h1.vb
    have h3 := h1.li
    exact ⟨h1.frb, h1.tob, h1.ne, by omega⟩
theorem bt_tru (h : BookTruth accounts moves L W b O C V) : TruthIn b O C V := by
  refine ⟨fun k hk => ?_, fun j hj => ?_, fun j hj => ?_, fun k hk => ?_⟩
  · have h1 := (h.acc k hk).op
    have h2 := h.cl k hk
    unfold truA
    omega
  · have h1 := (h.mv j hj).li
    unfold truM
    omega
  · have h1 := h.mv j hj
    exact ⟨h1.frb, h1.tob⟩
  · obtain ⟨h1, h2, h3⟩ := h.bal k hk
    unfold losA
    exact ⟨by omega, fun e => by have := h3 e; omega⟩
end
/-- A part of a span that has a number. -/
def partS (c s : Sp) (n : Int) : Prop := (s.lo ≤ c.lo ∧ c.lo ≤ n) ∧ n ≤ c.hi ∧ c.hi ≤ s.hi
/-- A part of a book, in which a truth lies. -/
structure PartR (c b : Bok) (O C V : List Int) : Prop where
  n : c.accs.length = b.accs.length
  m : c.mvs.length = b.mvs.length
  acc : ∀ k, k < b.accs.length → ((ga c.accs k).kind = (ga b.accs k).kind ∧ (ga c.accs k).name = (ga b.accs k).name) ∧ partS (ga c.accs k).op (ga b.accs k).op (gi O k) ∧ partS (ga c.accs k).cl (ga b.accs k).cl (gi C k)
  mv : ∀ j, j < b.mvs.length → ((gm c.mvs j).fr = (gm b.mvs j).fr ∧ (gm c.mvs j).to = (gm b.mvs j).to) ∧ partS (gm c.mvs j).li (gm b.mvs j).li (gi V j)
section
variable {b c : Bok} {O C V : List Int}
theorem PartR.sub (h : PartR c b O C V) : subB c b := by
  refine ⟨h.n, h.m, fun k hk => ?_, fun j hj => ?_⟩
  · obtain ⟨h1, ⟨⟨p1, p2⟩, p3, p4⟩, ⟨q1, q2⟩, q3, q4⟩ := h.acc k hk
    exact ⟨h1, ⟨p1, p4⟩, q1, q4⟩
  · obtain ⟨h1, ⟨p1, p2⟩, p3, p4⟩ := h.mv j hj
    exact ⟨h1, p1, p4⟩
theorem balF_same {O : List Int} {M M' : List Mv} {V : List Int} {i : Nat} : ∀ j, (∀ q, q < j → (gm M' q).fr = (gm M q).fr ∧ (gm M' q).to = (gm M q).to) → balF O M' V i j = balF O M V i j
  | 0, _ => rfl
  | j + 1, h => by
    simp only [balF]
    rw [balF_same j fun q hq => h q (by omega), (h j (by omega)).1, (h j (by omega)).2]
theorem PartR.los (h : PartR c b O C V) (k : Nat) : losA c O C V k = losA b O C V k := by
  unfold losA
  rw [h.m, balF_same b.mvs.length fun q hq => (h.mv q hq).1]
theorem PartR.tru (h : PartR c b O C V) (ht : TruthIn b O C V) : TruthIn c O C V := by
  refine ⟨fun k hk => ?_, fun j hj => ?_, fun j hj => ?_, fun k hk => ?_⟩
  · rw [h.n] at hk
    obtain ⟨_, ⟨⟨_, p2⟩, p3, _⟩, ⟨_, q2⟩, q3, _⟩ := h.acc k hk
    exact ⟨⟨p2, p3⟩, q2, q3⟩
  · rw [h.m] at hj
    obtain ⟨_, ⟨_, p2⟩, p3, _⟩ := h.mv j hj
    exact ⟨p2, p3⟩
  · rw [h.m] at hj
    rw [(h.mv j hj).1.1, (h.mv j hj).1.2, h.n]
    exact ht.fr j hj
  · rw [h.n] at hk
    rw [h.los k, (h.acc k hk).1.1]
    exact ht.los k hk
theorem PartR.g (h : PartR c b O C V) (hb : BokG b) : BokG c := by
  refine ⟨by rw [h.n]; exact hb.n0, by rw [h.n]; exact hb.n8, by rw [h.m]; exact hb.m30, fun k hk => ?_, fun j hj => ?_⟩
  · rw [h.n] at hk
    obtain ⟨⟨k1, k2⟩, ⟨⟨p1, p2⟩, p3, p4⟩, ⟨q1, q2⟩, q3, q4⟩ := h.acc k hk
    have hg := hb.acc k hk
    have h1 := hg.op
    have h2 := hg.cl
    exact ⟨by rw [k2]; exact hg.name, by rw [k1]; exact hg.kind, by omega, by omega⟩
  · rw [h.m] at hj
    obtain ⟨⟨k1, k2⟩, ⟨p1, p2⟩, p3, p4⟩ := h.mv j hj
    have hg := hb.mv j hj
    have h1 := hg.li
    exact ⟨by rw [k1, h.n]; exact hg.fr, by rw [k2, h.n]; exact hg.to, by rw [k1, k2]; exact hg.ne, by omega⟩
end
/-! ### a move of no litres more -/
def addM (b : Bok) (m : Mv) : Bok := ⟨b.accs, b.mvs ++ [m]⟩
theorem grpM_add {l : List Mv} {m : Mv} {i : Nat} {g : Grp} : ∀ j, j ≤ l.length → grpM (l ++ [m]) i g j = grpM l i g j
  | 0, _ => rfl
  | j + 1, h => by
    have e : gm (l ++ [m]) j = gm l j := by rw [gm_app (by omega), if_pos (by omega)]
    simp only [grpM, e]
    rw [grpM_add j (by omega)]
theorem grp_add {b : Bok} {m : Mv} (h : m.li = ⟨0, 0⟩) (i : Nat) : grp (addM b m) i = grp b i := by
  have e : (b.mvs ++ [m]).length = b.mvs.length + 1 := by simp
  have e2 : gm (b.mvs ++ [m]) b.mvs.length = m := by rw [gm_app (by omega), if_neg (by omega)]
  unfold grp addM
  simp only
  rw [e]
  show grpM (b.mvs ++ [m]) i _ (b.mvs.length + 1) = _
  rw [grpM, grpM_add _ (Nat.le_refl _), e2, h]
  cases hG : grpM b.mvs i (grpA b.accs i b.accs.length) b.mvs.length with
  | mk g1 g2 g3 g4 =>
    split
    · simp
    · split <;> simp
theorem lossT_add {b : Bok} {m : Mv} (h : m.li = ⟨0, 0⟩) : lossT (addM b m) = lossT b := by
  have key : ∀ n, totF (addM b m) n = totF b n := by
    intro n
    induction n with
    | zero => rfl
    | succ n ih => simp only [totF]; rw [ih, grp_add h]
  exact key _
theorem oth_add {b : Bok} {m : Mv} (a i : Nat) : ∀ n, othF (addM b m) a i n = othF b a i n
  | 0 => rfl
  | n + 1 => by simp only [othF]; rw [oth_add a i n]; rfl
theorem lossA_add {b : Bok} {m : Mv} (h : m.li = ⟨0, 0⟩) (a : Nat) : lossA (addM b m) a = lossA b a := by
  have key : ∀ n, accF (addM b m) a n = accF b a n := by
    intro n
    induction n with
    | zero => rfl
    | succ n ih => simp only [accF]; rw [ih, grp_add h, oth_add]; rfl
  unfold lossA
  rw [key]
  rfl
theorem lossL_add {b : Bok} {m : Mv} (h : m.li = ⟨0, 0⟩) : lossL (addM b m) = lossL b := by
  unfold lossL
  exact List.map_congr_left fun a _ => lossA_add h a
theorem calm_add {b : Bok} {m : Mv} (h : m.li = ⟨0, 0⟩) {n : Nat} (hc : calm b n) : calm (addM b m) n := fun j hj => by rw [grp_add h]; exact hc j hj
theorem BokG.add {b : Bok} {m : Mv} (hb : BokG b) (h : m.li = ⟨0, 0⟩) (hm : b.mvs.length + 1 ≤ 30) (hf : 0 ≤ m.fr ∧ m.fr < b.accs.length) (ht : 0 ≤ m.to ∧ m.to < b.accs.length) (hne : m.fr ≠ m.to) : BokG (addM b m) := by
  refine ⟨hb.n0, hb.n8, by show (b.mvs ++ [m]).length ≤ 30; simp; omega, hb.acc, fun j hj => ?_⟩
  have hj' : j < b.mvs.length + 1 := by have : j < (b.mvs ++ [m]).length := hj; simpa using this
  show MvOk b.accs.length (gm (b.mvs ++ [m]) j)
  rw [gm_app hj']
  split
  · rename_i h1; exact hb.mv j h1
  · exact ⟨hf, ht, hne, by rw [h]; decide⟩
theorem BokG.addCheck {b : Bok} {O C V : List Int} {m : Mv} (hb : BokG b) (htr : TruthIn b O C V) (h : m.li = ⟨0, 0⟩) (hm : b.mvs.length + 1 ≤ 30) (hf : 0 ≤ m.fr ∧ m.fr < b.accs.length) (ht : 0 ≤ m.to ∧ m.to < b.accs.length) (hne : m.fr ≠ m.to) : checkE (addM b m) = 0 := by
  unfold checkE
  rw [if_pos (hb.add h hm hf ht hne).formed, if_pos (calm_add h (calm_tru htr _))]
end Go.Proofs.Ytfifldbinnkdmaa
