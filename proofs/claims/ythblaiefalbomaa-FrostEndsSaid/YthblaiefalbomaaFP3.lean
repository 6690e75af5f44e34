/- frost, in plain numbers: the picks of one number of each list, and the hull of what is met. -/
import Derived.Test.YthblaiefalbomaaF48
set_option linter.unusedVariables false
set_option linter.unusedSimpArgs false
set_option linter.unnecessarySimpa false
namespace Go.Proofs.Ythblaiefalbomaa
open Go.RowKit

/-- All true ice after a day of true ice, with true cold and fall, at the ends of what may be chosen. -/
noncomputable def daysI (l : Fro) (t : Tr) (d : Wea) (c f : Int) : List Tr :=
  if c < 0 then (endsI (thW l (-c))).map (mlT (opn l t d f)) else (endsI (thC l (opn l t d f).sn c)).flatMap fun n => [frT l (opn l t d f) n false, frT l (opn l t d f) n true]
theorem daysI_mem {l : Fro} {t : Tr} {d : Wea} {c f : Int} {u : Tr} : u ∈ daysI l t d c f ↔ Rch l t d c f u := by
  unfold daysI Rch
  split
  · rename_i h
    rw [List.mem_map]
    constructor
    · rintro ⟨n, hn, rfl⟩
      exact .inl ⟨h, n, endsI_mem.1 hn, rfl⟩
    · rintro (⟨_, n, hn, rfl⟩ | ⟨h1, _⟩)
      · exact ⟨n, endsI_mem.2 hn, rfl⟩
      · omega
  · rename_i h
    rw [List.mem_flatMap]
    constructor
    · rintro ⟨n, hn, hu⟩
      rcases List.mem_cons.1 hu with rfl | hu
      · exact .inr ⟨by omega, n, false, endsI_mem.1 hn, rfl⟩
      · obtain rfl := List.mem_singleton.1 hu
        exact .inr ⟨by omega, n, true, endsI_mem.1 hn, rfl⟩
    · rintro (⟨h1, _⟩ | ⟨_, n, up, hn, rfl⟩)
      · omega
      · refine ⟨n, endsI_mem.2 hn, ?_⟩
        cases up
        · exact List.mem_cons_self
        · exact List.mem_cons_of_mem _ (List.mem_singleton.2 rfl)
theorem endsI_pos (s : Sp) : ∃ a, a ∈ endsI s := ⟨s.lo, endsI_mem.2 (.inl rfl)⟩
theorem daysI_pos (l : Fro) (t : Tr) (d : Wea) (c f : Int) : 1 ≤ (daysI l t d c f).length := by
  by_cases h : c < 0
  · have := endsI_len (thW l (-c))
    rw [daysI, if_pos h, List.length_map]
    omega
  · have h1 : frT l (opn l t d f) (thC l (opn l t d f).sn c).lo false ∈ daysI l t d c f := daysI_mem.2 (.inr ⟨by omega, _, false, .inl rfl, rfl⟩)
    exact List.length_pos_of_mem h1
theorem daysI_le (l : Fro) (t : Tr) (d : Wea) (c f : Int) : (daysI l t d c f).length ≤ 4 := by
  unfold daysI
  split
  · have := endsI_len (thW l (-c))
    rw [List.length_map]
    omega
  · unfold endsI
    split <;> simp
/-- One number of each list: the choice that has a number of all choices. -/
def pkL : List (List Int) → Nat → List Int
  | [], _ => []
  | l :: ls, n => l.getD (n % l.length) 0 :: pkL ls (n / l.length)
def prodL : List (List Int) → Nat
  | [] => 1
  | l :: ls => l.length * prodL ls
/-- Numbers of lists, one of each. -/
def OfL : List (List Int) → List Int → Prop
  | [], vs => vs = []
  | l :: ls, vs => ∃ v w, vs = v :: w ∧ v ∈ l ∧ OfL ls w
theorem getD_mem {l : List Int} {n : Nat} (h : n < l.length) : l.getD n 0 ∈ l := by
  rw [List.getD_eq_getElem?_getD, List.getElem?_eq_getElem h]
  exact List.getElem_mem h
theorem pkL_of : ∀ (ls : List (List Int)) (n : Nat), (∀ l ∈ ls, 1 ≤ l.length) → OfL ls (pkL ls n)
  | [], _, _ => rfl
  | l :: ls, n, h => ⟨_, _, rfl, getD_mem (Nat.mod_lt _ (h l List.mem_cons_self)), pkL_of ls _ fun x hx => h x (List.mem_cons_of_mem _ hx)⟩
theorem of_pkL : ∀ (ls : List (List Int)) (vs : List Int), OfL ls vs → ∃ n, n < prodL ls ∧ pkL ls n = vs
  | [], _, h => ⟨0, Nat.one_pos, h.symm⟩
  | l :: ls, _, ⟨v, w, rfl, hv, hw⟩ => by
    obtain ⟨n, hn, rfl⟩ := of_pkL ls w hw
    obtain ⟨i, hi, rfl⟩ := List.mem_iff_getElem.1 hv
    have hm : (i + l.length * n) % l.length = i := by rw [Nat.add_mul_mod_self_left, Nat.mod_eq_of_lt hi]
    have hd : (i + l.length * n) / l.length = n := by rw [Nat.add_mul_div_left _ _ (by omega), Nat.div_eq_of_lt hi, Nat.zero_add]
    refine ⟨i + l.length * n, ?_, ?_⟩
    · have h1 : l.length * (n + 1) ≤ l.length * prodL ls := Nat.mul_le_mul_left _ hn
      rw [Nat.mul_succ] at h1
      show i + l.length * n < l.length * prodL ls
      omega
    · show l.getD ((i + l.length * n) % l.length) 0 :: pkL ls ((i + l.length * n) / l.length) = _
      rw [hm, hd, List.getD_eq_getElem?_getD, List.getElem?_eq_getElem hi]
      rfl
/-- What is known with true ice more. -/
def oneI (t : Tr) : Ice := ⟨⟨t.bl, t.bl⟩, ⟨t.wh, t.wh⟩, ⟨t.we, t.we⟩, ⟨t.sn, t.sn⟩⟩
def widI (x : Ice) (t : Tr) (first : Bool) : Ice :=
  if first then oneI t else ⟨⟨min x.bl.lo t.bl, max x.bl.hi t.bl⟩, ⟨min x.wh.lo t.wh, max x.wh.hi t.wh⟩, ⟨min x.we.lo t.we, max x.we.hi t.we⟩, ⟨min x.sn.lo t.sn, max x.sn.hi t.sn⟩⟩
/-- The hull of true ice, if there is any. -/
def Hul (L : List Tr) (m : Ice) : Prop := L ≠ [] → Ends8 (fun u => u ∈ L) m ∧ ∀ u ∈ L, inI u m
theorem hul_nil (m : Ice) : Hul [] m := fun h => absurd rfl h
theorem end_mn {L : List Tr} {f : Tr → Int} {p : Int} {t : Tr} (h : ∃ u, u ∈ L ∧ f u = p) : ∃ u, u ∈ L ++ [t] ∧ f u = min p (f t) := by
  obtain ⟨u, hu, rfl⟩ := h
  by_cases hc : f u ≤ f t
  · exact ⟨u, List.mem_append_left _ hu, by omega⟩
  · exact ⟨t, List.mem_append_right _ (List.mem_singleton.2 rfl), by omega⟩
theorem end_mx {L : List Tr} {f : Tr → Int} {p : Int} {t : Tr} (h : ∃ u, u ∈ L ∧ f u = p) : ∃ u, u ∈ L ++ [t] ∧ f u = max p (f t) := by
  obtain ⟨u, hu, rfl⟩ := h
  by_cases hc : f u ≤ f t
  · exact ⟨t, List.mem_append_right _ (List.mem_singleton.2 rfl), by omega⟩
  · exact ⟨u, List.mem_append_left _ hu, by omega⟩
theorem hul_step {L : List Tr} {m : Ice} {t : Tr} {first : Bool} (h : Hul L m) (hf : first = true ↔ L = []) : Hul (L ++ [t]) (widI m t first) := by
  intro _
  by_cases hL : L = []
  · subst hL
    rw [hf.2 rfl]
    refine ⟨⟨⟨t, ?_, rfl⟩, ⟨t, ?_, rfl⟩, ⟨t, ?_, rfl⟩, ⟨t, ?_, rfl⟩, ⟨t, ?_, rfl⟩, ⟨t, ?_, rfl⟩, ⟨t, ?_, rfl⟩, ⟨t, ?_, rfl⟩⟩, fun u hu => ?_⟩
    iterate 8 exact List.mem_singleton.2 rfl
    obtain rfl := List.mem_singleton.1 hu
    exact ⟨⟨⟨Int.le_refl _, Int.le_refl _⟩, Int.le_refl _, Int.le_refl _⟩, ⟨Int.le_refl _, Int.le_refl _⟩, Int.le_refl _, Int.le_refl _⟩
  · obtain ⟨h1, h2⟩ := h hL
    have e : first = false := by cases first with | false => rfl | true => exact absurd (hf.1 rfl) hL
    subst e
    refine ⟨⟨end_mn (f := Tr.bl) h1.bl1, end_mx (f := Tr.bl) h1.bl2, end_mn (f := Tr.wh) h1.wh1, end_mx (f := Tr.wh) h1.wh2, end_mn (f := Tr.we) h1.we1, end_mx (f := Tr.we) h1.we2, end_mn (f := Tr.sn) h1.sn1, end_mx (f := Tr.sn) h1.sn2⟩, fun u hu => ?_⟩
    rcases List.mem_append.1 hu with hu | hu
    · obtain ⟨⟨⟨a1, a2⟩, b1, b2⟩, ⟨c1, c2⟩, s1, s2⟩ := h2 u hu
      refine ⟨⟨⟨?_, ?_⟩, ?_, ?_⟩, ⟨?_, ?_⟩, ?_, ?_⟩ <;> simp only [widI, Bool.false_eq_true, if_false] <;> omega
    · obtain rfl := List.mem_singleton.1 hu
      refine ⟨⟨⟨?_, ?_⟩, ?_, ?_⟩, ⟨?_, ?_⟩, ?_, ?_⟩ <;> simp only [widI, Bool.false_eq_true, if_false] <;> omega
theorem subI_anti {a b : Ice} (h1 : subI a b) (h2 : subI b a) : a = b := by
  obtain ⟨⟨⟨a1, a2⟩, a3, a4⟩, ⟨a5, a6⟩, a7, a8⟩ := h1
  obtain ⟨⟨⟨b1, b2⟩, b3, b4⟩, ⟨b5, b6⟩, b7, b8⟩ := h2
  obtain ⟨⟨p1, p2⟩, ⟨p3, p4⟩, ⟨p5, p6⟩, ⟨p7, p8⟩⟩ := a
  obtain ⟨⟨q1, q2⟩, ⟨q3, q4⟩, ⟨q5, q6⟩, ⟨q7, q8⟩⟩ := b
  simp only at a1 a2 a3 a4 a5 a6 a7 a8 b1 b2 b3 b4 b5 b6 b7 b8
  obtain rfl : p1 = q1 := by omega
  obtain rfl : p2 = q2 := by omega
  obtain rfl : p3 = q3 := by omega
  obtain rfl : p4 = q4 := by omega
  obtain rfl : p5 = q5 := by omega
  obtain rfl : p6 = q6 := by omega
  obtain rfl : p7 = q7 := by omega
  obtain rfl : p8 = q8 := by omega
  rfl
theorem hul_eq {L : List Tr} {m z : Ice} {M : Tr → Prop} (h : Hul L m) (hne : L ≠ []) (hM : ∀ u, u ∈ L ↔ M u) (h1 : Ends8 M z) (h2 : ∀ u, M u → inI u z) : z = m := by
  obtain ⟨h3, h4⟩ := h hne
  refine subI_anti (h1.sub fun u hu => h4 u ((hM u).2 hu)) (h3.sub fun u hu => h2 u ((hM u).1 hu))
/-- The six lists, and all true ice of one choice. -/
def lsI (x : Ice) (d : Wea) : List (List Int) := [endsI x.bl, endsI x.wh, endsI x.we, endsI x.sn, coldsI d.cold, endsI d.fall]
noncomputable def dayP (l : Fro) (d : Wea) (v : List Int) : List Tr := daysI l ⟨v.getD 0 0, v.getD 1 0, v.getD 2 0, v.getD 3 0⟩ d (v.getD 4 0) (v.getD 5 0)
noncomputable def allI (l : Fro) (x : Ice) (d : Wea) (n : Nat) : List Tr := (List.range n).flatMap fun k => dayP l d (pkL (lsI x d) k)
theorem allI_succ (l : Fro) (x : Ice) (d : Wea) (n : Nat) : allI l x d (n + 1) = allI l x d n ++ dayP l d (pkL (lsI x d) n) := by
  rw [allI, List.range_succ, List.flatMap_append, List.flatMap_singleton]
  rfl
theorem lsI_pos (x : Ice) (d : Wea) : ∀ s ∈ lsI x d, 1 ≤ s.length := by
  intro s hs
  have h1 := endsI_len x.bl
  have h2 := endsI_len x.wh
  have h3 := endsI_len x.we
  have h4 := endsI_len x.sn
  have h5 := coldsI_len d.cold
  have h6 := endsI_len d.fall
  simp only [lsI, List.mem_cons, List.not_mem_nil, or_false] at hs
  rcases hs with rfl | rfl | rfl | rfl | rfl | rfl <;> omega
theorem of6 {x : Ice} {d : Wea} {vs : List Int} : OfL (lsI x d) vs ↔ ∃ a b c e f g, vs = [a, b, c, e, f, g] ∧ (endS a x.bl ∧ endS b x.wh) ∧ (endS c x.we ∧ endS e x.sn) ∧ endC f d.cold ∧ endS g d.fall := by
  constructor
  · rintro ⟨a, _, rfl, ha, b, _, rfl, hb, c, _, rfl, hc, e, _, rfl, he, f, _, rfl, hf, g, _, rfl, hg, rfl⟩
    exact ⟨a, b, c, e, f, g, rfl, ⟨endsI_mem.1 ha, endsI_mem.1 hb⟩, ⟨endsI_mem.1 hc, endsI_mem.1 he⟩, coldsI_mem.1 hf, endsI_mem.1 hg⟩
  · rintro ⟨a, b, c, e, f, g, rfl, ⟨ha, hb⟩, ⟨hc, he⟩, hf, hg⟩
    exact ⟨a, _, rfl, endsI_mem.2 ha, b, _, rfl, endsI_mem.2 hb, c, _, rfl, endsI_mem.2 hc, e, _, rfl, endsI_mem.2 he, f, _, rfl, coldsI_mem.2 hf, g, _, rfl, endsI_mem.2 hg, rfl⟩
theorem allI_mem {l : Fro} {x : Ice} {d : Wea} {u : Tr} : u ∈ allI l x d (prodL (lsI x d)) ↔ Met l x d u := by
  unfold allI
  rw [List.mem_flatMap]
  constructor
  · rintro ⟨k, _, hu⟩
    obtain ⟨a, b, c, e, f, g, hv, ⟨ha, hb⟩, ⟨hc, he⟩, hf, hg⟩ := of6.1 (pkL_of (lsI x d) k (lsI_pos x d))
    rw [hv] at hu
    exact ⟨⟨a, b, c, e⟩, f, g, ⟨⟨ha, hb⟩, hc, he⟩, hf, hg, daysI_mem.1 hu⟩
  · rintro ⟨⟨a, b, c, e⟩, f, g, ⟨⟨ha, hb⟩, hc, he⟩, hf, hg, hr⟩
    obtain ⟨n, hn, hv⟩ := of_pkL (lsI x d) [a, b, c, e, f, g] (of6.2 ⟨a, b, c, e, f, g, rfl, ⟨ha, hb⟩, ⟨hc, he⟩, hf, hg⟩)
    refine ⟨n, List.mem_range.2 hn, ?_⟩
    rw [hv]
    exact daysI_mem.2 hr
/-- The hull of all that is met is what is known after the day. -/
theorem met_hul {l : Fro} {x : Ice} {d : Wea} {m : Ice} {k : Int} (hL : LawOk l) (hF : Falls l.cov) (hx : IceK x k k) (hd : WeaOk d) (ho : okI x) (h : Hul (allI l x d (prodL (lsI x d))) m) : aft l x d = m := by
  have h1 := met_aft hL hx hd
  refine hul_eq h ?_ (fun _ => allI_mem) h1 fun u hu => met_in hL hF hx hd ho hd (subI_refl x) (subD_refl d) hu
  obtain ⟨u, hu, _⟩ := h1.bl1
  intro e
  have := allI_mem.2 hu
  rw [e] at this
  cases this
end Go.Proofs.Ythblaiefalbomaa
