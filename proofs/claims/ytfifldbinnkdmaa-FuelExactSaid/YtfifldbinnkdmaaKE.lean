/- All choices of numbers in spans, one after the other: an odometer; in plain numbers. -/
import Derived.Test.YtfifldbinnkdmaaMem
import Derived.Test.YtfifldbinnkdmaaFuel1
import Derived.Test.YtfifldbinnkdmaaBal
import Derived.Lib.MinMax
import Derived.Test.YtfifldbinnkdmaaKF
import Derived.Test.YtfifldbinnkdmaaKX
set_option linter.unusedVariables false
set_option linter.unusedSimpArgs false
set_option linter.unnecessarySimpa false
namespace Go.Proofs.Ytfifldbinnkdmaa
open Go.RowKit

/-- How many choices of numbers there are in spans. -/
def sizeC : List Sp → Nat
  | [] => 1
  | s :: l => (s.hi - s.lo + 1).toNat * sizeC l
/-- Numbers lie in spans. -/
def inC : List Sp → List Int → Prop
  | [], x => x = []
  | s :: l, x => ∃ v y, x = v :: y ∧ (s.lo ≤ v ∧ v ≤ s.hi) ∧ inC l y
/-- The place of a choice. -/
def rankC : List Sp → List Int → Nat
  | s :: l, v :: y => (v - s.lo).toNat * sizeC l + rankC l y
  | _, _ => 0
theorem inC_len : ∀ {l : List Sp} {x : List Int}, inC l x → x.length = l.length
  | [], x, h => by simp only [inC] at h; subst h; rfl
  | s :: l, x, h => by
    obtain ⟨v, y, rfl, _, h2⟩ := h
    simp [inC_len h2]
theorem rank_lt : ∀ {l : List Sp} {x : List Int}, inC l x → rankC l x < sizeC l
  | [], x, h => by simp only [inC] at h; subst h; simp [rankC, sizeC]
  | s :: l, x, h => by
    obtain ⟨v, y, rfl, h1, h2⟩ := h
    have ih := rank_lt h2
    simp only [rankC, sizeC]
    have e : (s.hi - s.lo + 1).toNat = (v - s.lo).toNat + 1 + (s.hi - v).toNat := by omega
    rw [e, Nat.add_mul, Nat.add_mul]
    omega
theorem rank_inj : ∀ {l : List Sp} {x y : List Int}, inC l x → inC l y → rankC l x = rankC l y → x = y
  | [], x, y, h1, h2, _ => by simp only [inC] at h1 h2; rw [h1, h2]
  | s :: l, x, y, h1, h2, e => by
    obtain ⟨v, a, rfl, p1, p2⟩ := h1
    obtain ⟨u, c, rfl, q1, q2⟩ := h2
    have r1 := rank_lt p2
    have r2 := rank_lt q2
    simp only [rankC] at e
    have hv : (v - s.lo).toNat = (u - s.lo).toNat := by
      rcases Nat.lt_trichotomy (v - s.lo).toNat (u - s.lo).toNat with h | h | h
      · exfalso
        have : ((v - s.lo).toNat + 1) * sizeC l ≤ (u - s.lo).toNat * sizeC l := Nat.mul_le_mul_right _ h
        rw [Nat.add_mul] at this
        omega
      · exact h
      · exfalso
        have : ((u - s.lo).toNat + 1) * sizeC l ≤ (v - s.lo).toNat * sizeC l := Nat.mul_le_mul_right _ h
        rw [Nat.add_mul] at this
        omega
    have hvu : v = u := by omega
    subst hvu
    rw [rank_inj p2 q2 (by omega)]
/-- The first choice. -/
def loC (l : List Sp) : List Int := l.map (·.lo)
theorem lo_in : ∀ {l : List Sp}, (∀ s ∈ l, s.lo ≤ s.hi) → inC l (loC l)
  | [], _ => rfl
  | s :: l, h => ⟨s.lo, loC l, rfl, ⟨Int.le_refl _, h s (.head _)⟩, lo_in fun x hx => h x (.tail _ hx)⟩
theorem rank_lo : ∀ l : List Sp, rankC l (loC l) = 0
  | [] => rfl
  | s :: l => by
    have := rank_lo l
    simp only [loC, List.map_cons, rankC] at this ⊢
    rw [this, Int.sub_self]
    simp
theorem rank_hi : ∀ {l : List Sp}, (∀ s ∈ l, s.lo ≤ s.hi) → rankC l (l.map (·.hi)) + 1 = sizeC l
  | [], _ => rfl
  | s :: l, h => by
    have ih := rank_hi fun x hx => h x (.tail _ hx)
    have h1 := h s (.head _)
    simp only [List.map_cons, rankC, sizeC]
    have e : (s.hi - s.lo + 1).toNat = (s.hi - s.lo).toNat + 1 := by omega
    rw [e, Nat.add_mul]
    omega
theorem rank_app : ∀ {l m : List Sp} {x y : List Int}, x.length = l.length → rankC (l ++ m) (x ++ y) = rankC l x * sizeC m + rankC m y
  | [], m, x, y, h => by
    have e : x = [] := List.length_eq_zero_iff.1 h
    subst e
    simp [rankC]
  | s :: l, m, [], y, h => by simp at h
  | s :: l, m, v :: x, y, h => by
    have ih := rank_app (l := l) (m := m) (x := x) (y := y) (by simpa using h)
    have es : sizeC (l ++ m) = sizeC l * sizeC m := by
      clear ih h
      induction l with
      | nil => simp [sizeC]
      | cons a l ih => simp only [List.cons_append, sizeC, ih, Nat.mul_assoc]
    simp only [List.cons_append, rankC, ih, es]
    rw [Nat.add_mul, Nat.mul_assoc]
    omega
theorem inC_app : ∀ {l m : List Sp} {x y : List Int}, x.length = l.length → (inC (l ++ m) (x ++ y) ↔ inC l x ∧ inC m y)
  | [], m, x, y, h => by
    have e : x = [] := List.length_eq_zero_iff.1 h
    subst e
    simp [inC]
  | s :: l, m, [], y, h => by simp at h
  | s :: l, m, v :: x, y, h => by
    have ih := inC_app (l := l) (m := m) (x := x) (y := y) (by simpa using h)
    simp only [List.cons_append, inC]
    constructor
    · rintro ⟨v', y', e, h1, h2⟩
      injection e with e1 e2
      subst e1 e2
      obtain ⟨a1, a2⟩ := ih.1 h2
      exact ⟨⟨v, x, rfl, h1, a1⟩, a2⟩
    · rintro ⟨⟨v', x', e, h1, h2⟩, h3⟩
      injection e with e1 e2
      subst e1 e2
      exact ⟨v, x ++ y, rfl, h1, ih.2 ⟨h2, h3⟩⟩
/-- The next choice: the last number that may rise does so, what is behind it begins anew. -/
theorem rank_next {l m : List Sp} {s : Sp} {x : List Int} {v : Int} (hx : x.length = l.length) (hm : ∀ s ∈ m, s.lo ≤ s.hi) (h : inC (l ++ s :: m) (x ++ v :: m.map (·.hi))) (hv : v < s.hi) :
    inC (l ++ s :: m) (x ++ (v + 1) :: loC m) ∧ rankC (l ++ s :: m) (x ++ (v + 1) :: loC m) = rankC (l ++ s :: m) (x ++ v :: m.map (·.hi)) + 1 := by
  obtain ⟨h1, h2⟩ := (inC_app hx).1 h
  obtain ⟨v', y', e, h3, h4⟩ := h2
  injection e with e1 e2
  subst e1 e2
  refine ⟨(inC_app hx).2 ⟨h1, ⟨v + 1, loC m, rfl, by omega, lo_in hm⟩⟩, ?_⟩
  rw [rank_app hx, rank_app hx]
  simp only [rankC]
  have e3 := rank_lo m
  have e4 := rank_hi hm
  have e5 : (v + 1 - s.lo).toNat = (v - s.lo).toNat + 1 := by omega
  rw [e3, e5, Nat.add_mul]
  omega
end Go.Proofs.Ytfifldbinnkdmaa
/- How many choices of numbers a book has, as Choices reckons it; in plain numbers. -/
namespace Go.Proofs.Ytfifldbinnkdmaa
open Go.RowKit

def szI (s : Sp) : Int := s.hi - s.lo + 1
def chA (b : Bok) : Nat → Int
  | 0 => 1
  | i + 1 => min 1000000 (min 1000000 (chA b i * szI (ga b.accs i).op) * szI (ga b.accs i).cl)
def chM (b : Bok) : Nat → Int
  | 0 => chA b b.accs.length
  | j + 1 => min 1000000 (chM b j * szI (gm b.mvs j).li)
theorem sizeC_app : ∀ l m : List Sp, sizeC (l ++ m) = sizeC l * sizeC m
  | [], m => by simp [sizeC]
  | s :: l, m => by simp only [List.cons_append, sizeC, sizeC_app l m, Nat.mul_assoc]
theorem clamp {c s : Int} {P q : Nat} (hc : 1 ≤ c) (hP : c < 1000000 → c = (P : Int)) (hs : 1 ≤ s) (hq : q = s.toNat) : (1 ≤ min 1000000 (c * s) ∧ min 1000000 (c * s) ≤ 1000000) ∧ (min 1000000 (c * s) < 1000000 → min 1000000 (c * s) = ((P * q : Nat) : Int)) := by
  have h1 : c ≤ c * s := by
    have h_ := Int.mul_nonneg (show 0 ≤ c by omega) (show 0 ≤ s - 1 by omega)
    rw [Int.mul_sub, Int.mul_one] at h_
    omega
  refine ⟨⟨by omega, by omega⟩, fun h => ?_⟩
  have h2 : c * s < 1000000 := by omega
  have h3 := hP (by omega)
  rw [show min 1000000 (c * s) = c * s by omega, hq, h3]
  rw [Int.natCast_mul, Int.toNat_of_nonneg (by omega)]
section
variable {b : Bok} (hok : BokOk b)
include hok
theorem chA_size : ∀ i, i ≤ b.accs.length → (1 ≤ chA b i ∧ chA b i ≤ 1000000) ∧ (chA b i < 1000000 → chA b i = ((sizeC (spansA (·.op) b.accs i) * sizeC (spansA (·.cl) b.accs i) : Nat) : Int))
  | 0, _ => by simp [chA, spansA, sizeC]
  | i + 1, hi => by
    obtain ⟨⟨h1, _⟩, h2⟩ := chA_size i (by omega)
    have ho := (hok.acc i (by omega)).op
    have hc := (hok.acc i (by omega)).cl
    obtain ⟨⟨a1, _⟩, a2⟩ := clamp (s := szI (ga b.accs i).op) h1 h2 (by unfold szI; omega) rfl
    obtain ⟨b1, b2⟩ := clamp (s := szI (ga b.accs i).cl) a1 a2 (by unfold szI; omega) rfl
    refine ⟨b1, fun h => ?_⟩
    have h3 := b2 h
    show min 1000000 (min 1000000 (chA b i * szI (ga b.accs i).op) * szI (ga b.accs i).cl) = _
    rw [h3, spansA_succ (by omega), spansA_succ (by omega), sizeC_app, sizeC_app]
    congr 1
    simp only [sizeC, Nat.mul_one, szI]
    generalize sizeC (spansA (·.op) b.accs i) = x
    generalize sizeC (spansA (·.cl) b.accs i) = y
    generalize ((ga b.accs i).op.hi - (ga b.accs i).op.lo + 1).toNat = p
    generalize ((ga b.accs i).cl.hi - (ga b.accs i).cl.lo + 1).toNat = q
    rw [Nat.mul_assoc, Nat.mul_assoc, Nat.mul_assoc]
    congr 1
    rw [← Nat.mul_assoc, ← Nat.mul_assoc, Nat.mul_comm y p]
theorem chM_size : ∀ j, j ≤ b.mvs.length → (1 ≤ chM b j ∧ chM b j ≤ 1000000) ∧ (chM b j < 1000000 → chM b j = ((sizeC (spansA (·.op) b.accs b.accs.length) * sizeC (spansA (·.cl) b.accs b.accs.length) * sizeC (spansM b.mvs j) : Nat) : Int))
  | 0, _ => by
    have h := chA_size hok b.accs.length (Nat.le_refl _)
    simpa [chM, spansM, sizeC] using h
  | j + 1, hj => by
    obtain ⟨⟨h1, _⟩, h2⟩ := chM_size j (by omega)
    have hl := (hok.mv j (by omega)).li
    obtain ⟨b1, b2⟩ := clamp (s := szI (gm b.mvs j).li) h1 h2 (by unfold szI; omega) rfl
    refine ⟨b1, fun h => ?_⟩
    have h3 := b2 h
    show min 1000000 (chM b j * szI (gm b.mvs j).li) = _
    rw [h3, spansM_succ (by omega), sizeC_app]
    simp only [sizeC, Nat.mul_one, szI, Nat.mul_assoc]
/-- Where Choices says few, there are just so many. -/
theorem ch_few (h : chM b b.mvs.length ≤ 6000) : sizeC (spansL b) ≤ 6000 := by
  have h1 := (chM_size hok b.mvs.length (Nat.le_refl _)).2 (by omega)
  rw [h1] at h
  unfold spansL
  rw [sizeC_app, sizeC_app]
  omega
end
end Go.Proofs.Ytfifldbinnkdmaa
/- Truths in a row: each has three rows of numbers, wherever they lie. -/
namespace Go.Proofs.Ytfifldbinnkdmaa
open Go.RowKit Go.Shelf
set_option maxRecDepth 100000

/-- A truth as a value: its three slices, what they read as, between which blocks they lie. -/
structure TrV where
  ao : Option Addr
  co : Nat
  ac : Option Addr
  cc : Nat
  av : Option Addr
  cv : Nat
  O : List Int
  C : List Int
  V : List Int
  l1 : Nat
  h1 : Nat
  l2 : Nat
  h2 : Nat
  l3 : Nat
  h3 : Nat
def TrV.vo (t : TrV) : Value := .slice t.ao t.O.length t.co
def TrV.vc (t : TrV) : Value := .slice t.ac t.C.length t.cc
def TrV.vv (t : TrV) : Value := .slice t.av t.V.length t.cv
def trvEnc (t : TrV) : List Value := [t.vo, t.vc, t.vv]
def TrV.at (t : TrV) (w : World) : Prop := Sl intEnc 1 t.l1 t.h1 w t.vo t.O ∧ Sl intEnc 1 t.l2 t.h2 w t.vc t.C ∧ Sl intEnc 1 t.l3 t.h3 w t.vv t.V
def TrV.has (t : TrV) (g : Nat) : Prop := (t.l1 ≤ g ∧ g < t.h1) ∨ (t.l2 ≤ g ∧ g < t.h2) ∨ (t.l3 ≤ g ∧ g < t.h3)
/-- The rows that truths have. -/
def rtrs (l : List TrV) : Res :=
  ⟨false, fun g => ∃ t, t ∈ l ∧ t.has g, fun w => ∀ t, t ∈ l → t.at w, fun A B r hg hr h t ht => by
    have h1 := h t ht
    refine ⟨h1.1.gb hg fun k e => ?_, h1.2.1.gb hg fun k e => ?_, h1.2.2.gb hg fun k e => ?_⟩
    · have h2 : ¬ (t.l1 ≤ k ∧ k < t.h1) := fun hk => hr k e ⟨t, ht, .inl hk⟩
      omega
    · have h2 : ¬ (t.l2 ≤ k ∧ k < t.h2) := fun hk => hr k e ⟨t, ht, .inr (.inl hk)⟩
      omega
    · have h2 : ¬ (t.l3 ≤ k ∧ k < t.h3) := fun hk => hr k e ⟨t, ht, .inr (.inr hk)⟩
      omega⟩
section
variable {w0 A : World} {L : List Res} {l : List TrV}
theorem Bun.trs0 (h : Bun w0 L A) : Bun w0 (rtrs [] :: L) A :=
  h.add (rtrs []) (gb_refl _ _) (fun t ht => by cases ht) fun g ⟨t, ht, _⟩ => by cases ht
/-- One truth more: its three rows were in hand. -/
theorem Bun.trsS {l1 h1 l2 h2 l3 h3 : Nat} {ao ac av : Option Addr} {co cc cv : Nat} {O C V : List Int} (h : Bun w0 (rsl intEnc 1 l1 h1 (.slice ao O.length co) O :: rsl intEnc 1 l2 h2 (.slice ac C.length cc) C :: rsl intEnc 1 l3 h3 (.slice av V.length cv) V :: rtrs l :: L) A) :
    Bun w0 (rtrs (l ++ [⟨ao, co, ac, cc, av, cv, O, C, V, l1, h1, l2, h2, l3, h3⟩]) :: L) A := by
  have hd := h.dis
  rw [List.pairwise_cons, List.pairwise_cons, List.pairwise_cons, List.pairwise_cons] at hd
  obtain ⟨d1, d2, d3, d4, d5⟩ := hd
  have c : ∀ g, (rtrs (l ++ [⟨ao, co, ac, cc, av, cv, O, C, V, l1, h1, l2, h2, l3, h3⟩])).X g → (rtrs l).X g ∨ (l1 ≤ g ∧ g < h1) ∨ (l2 ≤ g ∧ g < h2) ∨ (l3 ≤ g ∧ g < h3) := fun g ⟨t, ht, hx⟩ => by
    rcases List.mem_append.1 ht with ht | ht
    · exact .inl ⟨t, ht, hx⟩
    · rw [List.mem_singleton] at ht
      subst ht
      exact .inr hx
  refine ⟨fun r hr => ?_, fun r hr g hx => ?_, ?_, h.gb⟩
  · rcases List.mem_cons.1 hr with rfl | hr
    · intro t ht
      rcases List.mem_append.1 ht with ht | ht
      · exact h.all _ (.tail _ (.tail _ (.tail _ (.head _)))) t ht
      · rw [List.mem_singleton] at ht
        subst ht
        exact ⟨h.all _ (.head _), h.all _ (.tail _ (.head _)), h.all _ (.tail _ (.tail _ (.head _)))⟩
    · exact h.all r (.tail _ (.tail _ (.tail _ (.tail _ hr))))
  · rcases List.mem_cons.1 hr with rfl | hr
    · refine ⟨?_, fun e => by cases e⟩
      rcases c g hx with hx | hx | hx | hx
      · exact (h.bd _ (.tail _ (.tail _ (.tail _ (.head _)))) g hx).1
      · exact (h.bd _ (.head _) g hx).1
      · exact (h.bd _ (.tail _ (.head _)) g hx).1
      · exact (h.bd _ (.tail _ (.tail _ (.head _))) g hx).1
    · exact h.bd r (.tail _ (.tail _ (.tail _ (.tail _ hr)))) g hx
  · rw [List.pairwise_cons]
    refine ⟨fun r hr hm g hx => ?_, d5⟩
    have hm' : r.mine = true := by
      rcases hm with hm | hm
      · cases hm
      · exact hm
    rcases c g hx with hx | hx | hx | hx
    · exact d4 r hr (.inr hm') g hx
    · exact d1 r (.tail _ (.tail _ (.tail _ hr))) (.inr hm') g hx
    · exact d2 r (.tail _ (.tail _ hr)) (.inr hm') g hx
    · exact d3 r (.tail _ hr) (.inr hm') g hx
theorem infoTr : (Try.prog.info? 32).map (fun i => (i.zero, i.size, i.bytes)) = some (some (.agg #[.slice none 0 0, .slice none 0 0, .slice none 0 0]), 3, 72) := by kernel_rfl
theorem okTr : ElemOk Try.prog 68 32 3 72 trvEnc where
  under := Try.underlying68
  info := info5 infoTr rfl
  pos := by omega
  small := by omega
  len := fun _ => rfl
  one := fun x u hu => by
    simp only [trvEnc, List.mem_cons, List.not_mem_nil, or_false] at hu
    rcases hu with rfl | rfl | rfl <;> rfl
end
end Go.Proofs.Ytfifldbinnkdmaa
/- The truths of a book as choices of numbers; in plain numbers. -/
namespace Go.Proofs.Ytfifldbinnkdmaa
open Go.RowKit

theorem inC_at : ∀ {l : List Sp} {x : List Int}, inC l x → ∀ k s, l[k]? = some s → s.lo ≤ gi x k ∧ gi x k ≤ s.hi
  | [], x, _, k, s, h => by simp at h
  | a :: l, x, hx, k, s, h => by
    obtain ⟨v, y, rfl, h1, h2⟩ := hx
    cases k with
    | zero => simp at h; subst h; simpa [gi] using h1
    | succ k =>
      have h3 := inC_at h2 k s (by simpa using h)
      simpa [gi] using h3
theorem inC_of : ∀ {l : List Sp} {x : List Int}, x.length = l.length → (∀ k s, l[k]? = some s → s.lo ≤ gi x k ∧ gi x k ≤ s.hi) → inC l x
  | [], x, hl, _ => List.length_eq_zero_iff.1 hl
  | a :: l, [], hl, _ => by simp at hl
  | a :: l, v :: x, hl, h => by
    refine ⟨v, x, rfl, ?_, inC_of (by simpa using hl) fun k s hk => ?_⟩
    · have := h 0 a rfl; simpa [gi] using this
    · have := h (k + 1) s (by simpa using hk); simpa [gi] using this
section
variable {b : Bok}
def oO (b : Bok) (x : List Int) : List Int := x.take b.accs.length
def oC (b : Bok) (x : List Int) : List Int := (x.drop b.accs.length).take b.accs.length
def oV (b : Bok) (x : List Int) : List Int := x.drop (2 * b.accs.length)
theorem vec_split (b : Bok) (x : List Int) : oO b x ++ oC b x ++ oV b x = x := by
  unfold oO oC oV
  rw [List.append_assoc]
  rw [show 2 * b.accs.length = b.accs.length + b.accs.length by omega, ← List.drop_drop, List.take_append_drop, List.take_append_drop]
theorem vec_len {x : List Int} (h : inC (spansL b) x) : (oO b x).length = b.accs.length ∧ (oC b x).length = b.accs.length ∧ (oV b x).length = b.mvs.length := by
  have h1 := inC_len h
  rw [spansL_len' b] at h1
  unfold oO oC oV
  simp only [List.length_take, List.length_drop]
  omega
theorem vec_tru {x : List Int} (h : inC (spansL b) x) : (∀ k, k < b.accs.length → truA b (oO b x) (oC b x) k) ∧ ∀ k, k < b.mvs.length → truM b (oV b x) k :=
  all_tru (vec_split b x) (vec_len h) fun q hq => by
    have h1 := inC_at h q (gs (spansL b) q) (gs_at hq)
    exact h1
theorem spA_in {f : Acc → Sp} {l : List Acc} {x : List Int} (hl : x.length = l.length) (h : ∀ k, k < l.length → (f (ga l k)).lo ≤ gi x k ∧ gi x k ≤ (f (ga l k)).hi) : inC (spansA f l l.length) x := by
  refine inC_of (by rw [spansA_len (Nat.le_refl _)]; exact hl) fun k s hk => ?_
  have hk' : k < l.length := by have := (List.getElem?_eq_some_iff.1 hk).1; rwa [spansA_len (Nat.le_refl _)] at this
  unfold spansA at hk
  rw [List.take_length, List.getElem?_map, List.getElem?_eq_getElem hk'] at hk
  simp only [Option.map_some, Option.some.injEq] at hk
  have h1 := h k hk'
  rw [ga_get hk', hk] at h1
  exact h1
theorem spM_in {l : List Mv} {x : List Int} (hl : x.length = l.length) (h : ∀ k, k < l.length → (gm l k).li.lo ≤ gi x k ∧ gi x k ≤ (gm l k).li.hi) : inC (spansM l l.length) x := by
  refine inC_of (by rw [spansM_len (Nat.le_refl _)]; exact hl) fun k s hk => ?_
  have hk' : k < l.length := by have := (List.getElem?_eq_some_iff.1 hk).1; rwa [spansM_len (Nat.le_refl _)] at this
  unfold spansM at hk
  rw [List.take_length, List.getElem?_map, List.getElem?_eq_getElem hk'] at hk
  simp only [Option.map_some, Option.some.injEq] at hk
  have h1 := h k hk'
  rw [gm_get hk', hk] at h1
  exact h1
theorem tru_vec {O C V : List Int} (h : TruL b O C V) : inC (spansL b) (O ++ C ++ V) := by
  obtain ⟨⟨l1, l2, l3⟩, h1⟩ := h
  unfold spansL
  rw [inC_app (by simp [spansA_len (Nat.le_refl _), l1, l2]), inC_app (by rw [spansA_len (Nat.le_refl _)]; exact l1)]
  exact ⟨⟨spA_in l1 fun k hk => (h1.acc k hk).1, spA_in l2 fun k hk => (h1.acc k hk).2⟩, spM_in l3 fun k hk => h1.mv k hk⟩
/-- The truths of a row: each is one; each whose place lies below i is there. -/
structure TruS (b : Bok) (i : Nat) (T : List TrV) : Prop where
  one : ∀ t, t ∈ T → TruL b t.O t.C t.V
  all : ∀ O C V, TruL b O C V → rankC (spansL b) (O ++ C ++ V) < i → ∃ t, t ∈ T ∧ t.O = O ∧ t.C = C ∧ t.V = V
  few : T.length ≤ i
theorem TruS.zero (b : Bok) : TruS b 0 [] := ⟨fun t h => by (cases h), fun _ _ _ _ h => by omega, Nat.le_refl _⟩
/-- A choice is a truth where nobody loses less than nothing and ground loses none. -/
def rightP (b : Bok) (x : List Int) : Prop := ∀ k, k < b.accs.length → 0 ≤ gi (lsM b (oO b x) (oC b x) (oV b x) b.mvs.length) k ∧ (gi (lsM b (oO b x) (oC b x) (oV b x) b.mvs.length) k = 0 ∨ (ga b.accs k).kind = 1)
theorem right_tru (hok : BokOk b) {x : List Int} (h : inC (spansL b) x) : rightP b x ↔ TruL b (oO b x) (oC b x) (oV b x) := by
  obtain ⟨hA, hM⟩ := vec_tru h
  have e := lsM_los (O := oO b x) (C := oC b x) (V := oV b x) hok.mv b.mvs.length (Nat.le_refl _)
  have hk := fun k hk => (hok.acc k hk).kind
  constructor
  · intro hr
    refine ⟨vec_len h, hA, hM, fun j hj => ⟨(hok.mv j hj).fr, (hok.mv j hj).to⟩, fun k hk1 => ?_⟩
    have h1 := hr k hk1
    rw [e k hk1] at h1
    unfold losA
    refine ⟨h1.1, fun h2 => ?_⟩
    rcases h1.2 with h3 | h3
    · exact h3
    · omega
  · intro ht k hk1
    have h1 := ht.2.los k hk1
    unfold losA at h1
    rw [e k hk1]
    refine ⟨h1.1, ?_⟩
    rcases hk k hk1 with h2 | h2
    · exact .inr h2
    · exact .inl (h1.2 h2)
theorem TruS.skip (hok : BokOk b) {i : Nat} {T : List TrV} {x : List Int} (h : TruS b i T) (hx : inC (spansL b) x) (hi : rankC (spansL b) x = i) (hr : ¬ rightP b x) : TruS b (i + 1) T := by
  refine ⟨h.one, fun O C V ht hlt => ?_, by have := h.few; omega⟩
  by_cases e : rankC (spansL b) (O ++ C ++ V) = i
  · exfalso
    have e2 := rank_inj hx (tru_vec ht) (by omega)
    apply hr
    rw [right_tru hok hx]
    obtain ⟨⟨l1, l2, l3⟩, h1⟩ := ht
    have a1 : oO b x = O := by unfold oO; rw [e2, List.append_assoc, ← l1, List.take_left]
    have a2 : oC b x = C := by unfold oC; rw [e2, List.append_assoc, ← l1, List.drop_left, l1, ← l2, List.take_left]
    have a3 : oV b x = V := by unfold oV; rw [e2, show 2 * b.accs.length = (O ++ C).length by rw [List.length_append]; omega, List.drop_left]
    rw [a1, a2, a3]
    exact ⟨⟨l1, l2, l3⟩, h1⟩
  · exact h.all O C V ht (by omega)
theorem TruS.more (hok : BokOk b) {i : Nat} {T : List TrV} {x : List Int} {t : TrV} (h : TruS b i T) (hx : inC (spansL b) x) (hi : rankC (spansL b) x = i) (hr : rightP b x) (ht : t.O = oO b x ∧ t.C = oC b x ∧ t.V = oV b x) : TruS b (i + 1) (T ++ [t]) := by
  refine ⟨fun u hu => ?_, fun O C V ho hlt => ?_, by have := h.few; simp; omega⟩
  · rcases List.mem_append.1 hu with hu | hu
    · exact h.one u hu
    · rw [List.mem_singleton] at hu
      subst hu
      rw [ht.1, ht.2.1, ht.2.2]
      exact (right_tru hok hx).1 hr
  · by_cases e : rankC (spansL b) (O ++ C ++ V) = i
    · have e2 := rank_inj hx (tru_vec ho) (by omega)
      obtain ⟨⟨l1, l2, l3⟩, h1⟩ := ho
      have a1 : oO b x = O := by unfold oO; rw [e2, List.append_assoc, ← l1, List.take_left]
      have a2 : oC b x = C := by unfold oC; rw [e2, List.append_assoc, ← l1, List.drop_left, l1, ← l2, List.take_left]
      have a3 : oV b x = V := by unfold oV; rw [e2, show 2 * b.accs.length = (O ++ C).length by rw [List.length_append]; omega, List.drop_left]
      exact ⟨t, List.mem_append_right _ (.head _), by rw [ht.1, a1], by rw [ht.2.1, a2], by rw [ht.2.2, a3]⟩
    · obtain ⟨u, hu, h2⟩ := h.all O C V ho (by omega)
      exact ⟨u, List.mem_append_left _ hu, h2⟩
theorem TruS.done {i : Nat} {T : List TrV} (h : TruS b i T) (hi : sizeC (spansL b) ≤ i) {O C V : List Int} (ht : TruL b O C V) : ∃ t, t ∈ T ∧ t.O = O ∧ t.C = C ∧ t.V = V :=
  h.all O C V ht (Nat.lt_of_lt_of_le (rank_lt (tru_vec ht)) hi)
end
end Go.Proofs.Ytfifldbinnkdmaa
/- The odometer of choices, digit by digit; in plain numbers. -/
namespace Go.Proofs.Ytfifldbinnkdmaa
open Go.RowKit

/-- The numbers of x up to place k, the least ones from there on. -/
def nowM (l : List Sp) (x : List Int) (k : Nat) : List Int := (List.range l.length).map fun j => if j < k then gi x j else (gs l j).lo
/-- The choice behind x, where the places behind k are at their greatest. -/
def nextC (l : List Sp) (x : List Int) (k : Nat) : List Int := (nowM l x (k + 1)).set k (gi x k + 1)
theorem nowM_len (l : List Sp) (x : List Int) (k : Nat) : (nowM l x k).length = l.length := by simp [nowM]
theorem nowM_gi {l : List Sp} {x : List Int} {k q : Nat} (h : k < q) (hq : q ≤ l.length) : gi (nowM l x q) k = gi x k := by
  have hk : k < l.length := by omega
  rw [gi_get (by rw [nowM_len]; exact hk)]
  simp [nowM, h]
theorem nowM_all {l : List Sp} {x : List Int} (h : x.length = l.length) : nowM l x l.length = x := by
  refine List.ext_getElem (by rw [nowM_len, h]) fun j h1 h2 => ?_
  rw [nowM_len] at h1
  simp [nowM, h1, gi, h2]
theorem nowM_set {l : List Sp} {x : List Int} {k : Nat} (h : k < l.length) : (nowM l x (k + 1)).set k (gs l k).lo = nowM l x k := by
  refine List.ext_getElem (by rw [List.length_set, nowM_len, nowM_len]) fun j h1 h2 => ?_
  rw [List.getElem_set]
  simp only [nowM, List.getElem_map, List.getElem_range]
  by_cases e : k = j
  · subst e; simp
  · rw [if_neg e]
    have e1 : (j < k + 1) = (j < k) := by apply propext; omega
    simp only [e1]
theorem nextC_len (l : List Sp) (x : List Int) (k : Nat) : (nextC l x k).length = l.length := by rw [nextC, List.length_set, nowM_len]
theorem gs_get {l : List Sp} {i : Nat} (h : i < l.length) : gs l i = l[i] := by simp [gs, h]
theorem spans_le {b : Bok} (hok : BokOk b) : ∀ s ∈ spansL b, s.lo ≤ s.hi := by
  intro s hs
  obtain ⟨i, hi, rfl⟩ := List.getElem_of_mem hs
  rw [← gs_get hi]
  have hl := spansL_len' b
  rcases Nat.lt_or_ge i b.accs.length with h1 | h1
  · rw [gs_op h1]
    have := (hok.acc i h1).op
    omega
  · rcases Nat.lt_or_ge i (b.accs.length + b.accs.length) with h2 | h2
    · have e : i = b.accs.length + (i - b.accs.length) := by omega
      rw [e, gs_cl (by omega)]
      have := (hok.acc (i - b.accs.length) (by omega)).cl
      omega
    · have e : i = b.accs.length + b.accs.length + (i - b.accs.length - b.accs.length) := by omega
      rw [e, gs_li (by omega)]
      have := (hok.mv (i - b.accs.length - b.accs.length) (by omega)).li
      omega
theorem spans_bd {b : Bok} (hok : BokOk b) {i : Nat} (hi : i < (spansL b).length) : 0 ≤ (gs (spansL b) i).lo ∧ (gs (spansL b) i).hi ≤ 1000000000 := by
  have hl := spansL_len' b
  rcases Nat.lt_or_ge i b.accs.length with h1 | h1
  · rw [gs_op h1]
    have := (hok.acc i h1).op
    omega
  · rcases Nat.lt_or_ge i (b.accs.length + b.accs.length) with h2 | h2
    · have e : i = b.accs.length + (i - b.accs.length) := by omega
      rw [e, gs_cl (by omega)]
      have := (hok.acc (i - b.accs.length) (by omega)).cl
      omega
    · have e : i = b.accs.length + b.accs.length + (i - b.accs.length - b.accs.length) := by omega
      rw [e, gs_li (by omega)]
      have := (hok.mv (i - b.accs.length - b.accs.length) (by omega)).li
      omega
theorem nowM_at {l : List Sp} {x : List Int} {k : Nat} (h : k < l.length) : (nowM l x (k + 1))[k]? = some (gi x k) := by
  rw [gi_at (by rw [nowM_len]; omega), nowM_gi (by omega) (by omega)]
section
variable {l : List Sp} {x : List Int} (hs : ∀ s ∈ l, s.lo ≤ s.hi) (hx : inC l x)
include hs hx
theorem last_size (h : ∀ j, 0 ≤ j → j < l.length → gi x j = (gs l j).hi) : rankC l x + 1 = sizeC l := by
  have e : x = l.map (·.hi) := by
    refine List.ext_getElem (by rw [List.length_map, inC_len hx]) fun j h1 h2 => ?_
    rw [List.length_map] at h2
    have h3 := h j (Nat.zero_le _) h2
    rw [gi_get h1, gs_get h2] at h3
    simp [h3]
  rw [e]
  exact rank_hi hs
theorem next_in {k : Nat} (hk : k < l.length) (h : ∀ j, k + 1 ≤ j → j < l.length → gi x j = (gs l j).hi) (hne : gi x k ≠ (gs l k).hi) : inC l (nextC l x k) ∧ rankC l (nextC l x k) = rankC l x + 1 := by
  have hxl := inC_len hx
  have e1 : l.take k ++ gs l k :: l.drop (k + 1) = l := by
    rw [gs_get hk, ← List.drop_eq_getElem_cons hk, List.take_append_drop]
  have e2 : x.take k ++ gi x k :: (l.drop (k + 1)).map (·.hi) = x := by
    have e3 : (l.drop (k + 1)).map (·.hi) = x.drop (k + 1) := by
      refine List.ext_getElem (by rw [List.length_map, List.length_drop, List.length_drop, hxl]) fun j h1 h2 => ?_
      rw [List.length_map, List.length_drop] at h1
      have h3 := h (k + 1 + j) (by omega) (by omega)
      rw [gi_get (by omega), gs_get (by omega)] at h3
      simp only [List.getElem_map, List.getElem_drop]
      exact h3.symm
    rw [e3, gi_get (by omega), ← List.drop_eq_getElem_cons (by omega), List.take_append_drop]
  have e4 : x.take k ++ (gi x k + 1) :: loC (l.drop (k + 1)) = nextC l x k := by
    refine List.ext_getElem (by rw [nextC_len]; simp [loC]; omega) fun j h1 h2 => ?_
    rw [nextC_len] at h2
    simp only [nextC, List.getElem_set]
    rcases Nat.lt_trichotomy j k with c | c | c
    · rw [if_neg (by omega), List.getElem_append_left (by rw [List.length_take]; omega), List.getElem_take]
      simp [nowM, show j < k + 1 by omega, gi, show j < x.length by omega]
    · subst c
      rw [if_pos rfl, List.getElem_append_right (by rw [List.length_take]; omega)]
      simp [show min j x.length = j by omega]
    · rw [if_neg (by omega), List.getElem_append_right (by rw [List.length_take]; omega)]
      have e5 : j - (x.take k).length = (j - k - 1) + 1 := by rw [List.length_take]; omega
      simp only [e5, List.getElem_cons_succ, loC, List.getElem_map, List.getElem_drop, nowM, List.getElem_range]
      rw [if_neg (by omega), gs_get h2]
      congr 2
      omega
  have h1 := inC_at hx k (gs l k) (gs_at hk)
  have h2 := rank_next (l := l.take k) (m := l.drop (k + 1)) (s := gs l k) (x := x.take k) (v := gi x k) (by rw [List.length_take, List.length_take, hxl]) (fun s h => hs s (List.mem_of_mem_drop h)) (by rw [e1, e2]; exact hx) (by omega)
  rw [e1, e2, e4] at h2
  exact h2
end
end Go.Proofs.Ytfifldbinnkdmaa
