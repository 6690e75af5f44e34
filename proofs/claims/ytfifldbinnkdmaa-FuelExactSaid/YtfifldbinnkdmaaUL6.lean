/- fuel: FuelExact walked. -/
import Derived.Test.YtfifldbinnkdmaaTrus
import Derived.Test.YtfifldbinnkdmaaPXact
import Derived.Test.YtfifldbinnkdmaaChoi
import Derived.Test.YtfifldbinnkdmaaRefi
import Derived.Test.YtfifldbinnkdmaaLos
import Derived.Test.YtfifldbinnkdmaaKP
import Derived.Test.YtfifldbinnkdmaaBookOf
import Derived.Test.YtfifldbinnkdmaaWake
import Derived.Test.YtfifldbinnkdmaaMiss
import Derived.Test.YtfifldbinnkdmaaKK
import Derived.Test.YtfifldbinnkdmaaK1
set_option linter.unusedVariables false
set_option linter.unusedSimpArgs false
set_option linter.unnecessarySimpa false
namespace Go.Proofs.Ytfifldbinnkdmaa
open Go.RowKit Go.Shelf
set_option maxRecDepth 100000

theorem bt_names' {accounts moves : Nat} {L W : Int} {b : Bok} {O C V : List Int} (h : BookTruth accounts moves L W b O C V) (h8 : accounts ≤ 8) : nameOk b.accs := by
  have key : ∀ k, k < 8 → (nmAt k).size ≤ maxLen := by decide +kernel
  intro a ha
  obtain ⟨i, hi, rfl⟩ := List.getElem_of_mem ha
  have h1 := (h.acc i hi).name
  rw [ga_get hi] at h1
  rw [h1]
  exact key i (by have := h.n8; omega)
def BalS (b : Bok) (O C V : List Int) (w : World) : Ending → World → Prop := fun e w' => ∃ (a : Option Addr) (c lo hi : Nat), e = .returned (.tuple #[.slice a (balL b O C V).length c, .int .i64 (balE b O C V)]) ∧ (w.heap.size ≤ lo ∧ hi ≤ w'.heap.size) ∧ Sl intEnc 1 lo hi w' (.slice a (balL b O C V).length c) (balL b O C V) ∧ w.grownBy w' none
def LossS (l : List Sp) (t : Sp) (w : World) : Ending → World → Prop := fun e w' => ∃ (a : Option Addr) (c lo hi : Nat), e = .returned (.tuple #[.slice a l.length c, .agg #[.int .i64 t.lo, .int .i64 t.hi], .int .i64 0]) ∧ (w.heap.size ≤ lo ∧ hi ≤ w'.heap.size) ∧ Sl spEnc 2 lo hi w' (.slice a l.length c) l ∧ w.grownBy w' none
theorem losses_ok (l1 h1 l2 h2 : Nat) (va vm : Value) (b : Bok) (w : World) (ha : Accs l1 h1 w va b.accs) (hm : Mvs l2 h2 w vm b.mvs) (hn : nameOk b.accs) (b1 : h1 ≤ w.heap.size) (b2 : h2 ≤ w.heap.size) (h0 : checkE b = 0) (l : List Sp) (t : Sp) (hl : lossL b = l) (ht : lossT b = t) :
    Calls Try.prog 20 #[.agg #[va, vm]] w (LossS l t w) := by
  subst hl ht
  refine (fLosses_c l1 h1 l2 h2 va vm b w ha hm hn b1 b2).mono ?_
  rintro e w' (⟨h, _⟩ | ⟨_, v, rfl, ho, hg⟩)
  · exact absurd h0 h
  · obtain ⟨a, c, rfl⟩ := (ho.sl (fun _ => rfl)).any
    exact ⟨a, c, _, _, rfl, ⟨Nat.le_refl _, Nat.le_refl _⟩, ho.sl (fun _ => rfl), hg⟩
theorem fref_n (l1 h1 l2 h2 : Nat) (va vm : Value) (b fb : Bok) (w : World) (ha : Accs l1 h1 w va b.accs) (hm : Mvs l2 h2 w vm b.mvs) (b1 : h1 ≤ w.heap.size) (b2 : h2 ≤ w.heap.size) (hn : nameOk b.accs) (hck : checkE b = 0) (hfb : refB b = fb) :
    Calls Try.prog 51 #[.agg #[va, vm]] w (fun e w' => ∃ (a1 : Option Addr) (c1 : Nat) (a2 : Option Addr) (c2 k1 : Nat), e = .returned (.tuple #[.agg #[.slice a1 b.accs.length c1, .slice a2 b.mvs.length c2], .int .i64 0]) ∧
      Bun w [rown accEnc 79 6 k1 (.slice a1 b.accs.length c1) fb.accs, rown mvEnc 76 4 k1 (.slice a2 b.mvs.length c2) fb.mvs] w') := by
  subst hfb
  exact fref_q l1 h1 l2 h2 va vm b w ha hm b1 b2 hn hck
theorem Bun.joinX {w0 A B : World} {L L2 : List Res} (h : Bun w0 L A) (h2 : Bun A L2 B) (hnw : ∀ r ∈ L2, ∀ g, r.X g → A.heap.size ≤ g) : Bun w0 (L2 ++ L) B := by
  have hnew : ∀ r ∈ L2, ∀ g, r.X g → A.heap.size ≤ g ∧ g < B.heap.size := fun r hr g hx => ⟨hnw r hr g hx, (h2.bd r hr g hx).1⟩
  have hg := h.gn h2.gb
  refine ⟨fun r hr => ?_, fun r hr g hx => ?_, ?_, hg.gb⟩
  · rcases List.mem_append.1 hr with hr | hr
    · exact h2.all r hr
    · exact hg.all r hr
  · rcases List.mem_append.1 hr with hr | hr
    · exact ⟨(hnew r hr g hx).2, fun _ => Nat.le_trans h.gb.size (hnew r hr g hx).1⟩
    · exact hg.bd r hr g hx
  · rw [List.pairwise_append]
    refine ⟨h2.dis, h.dis, fun a ha b hb _ g hx hy => ?_⟩
    have h3 := (hnew a ha g hx).1
    have h4 := (h.bd b hb g hy).1
    omega
theorem newT_has {k : Nat} {T : List TrV} (h : newT k T) : ∀ g, (rtrs T).X g → k ≤ g := by
  rintro g ⟨t, ht, hx⟩
  have h1 := h t ht
  rcases hx with hx | hx | hx <;> omega
theorem truths_new {w w' : World} {a : Option Addr} {n c k1 : Nat} {T : List TrV} (hN : newT w.heap.size T) (h : Bun w [rown trvEnc 32 3 k1 (.slice a n c) T, rtrs T] w') : ∀ r ∈ [rown trvEnc 32 3 k1 (.slice a n c) T, rtrs T], ∀ g, r.X g → w.heap.size ≤ g := by
  intro r hr g hx
  rcases List.mem_cons.1 hr with rfl | hr
  · exact (h.bd _ (.head _) g hx).2 rfl
  · rw [List.mem_singleton] at hr
    subst hr
    exact newT_has hN g hx
theorem sl_wide {lo hi : Nat} {w : World} {v : Value} {l : List Int} (h : Ints lo hi w v l) (hb : ∀ g, lo ≤ g ∧ g < hi → g < w.heap.size) : ∃ lo' hi', Ints lo' hi' w v l ∧ hi' ≤ w.heap.size := by
  rcases Nat.lt_or_ge lo hi with h1 | h1
  · exact ⟨lo, hi, h, by have := hb (hi - 1) (by omega); omega⟩
  · obtain ⟨p1, a, c, p2, p3⟩ := h
    rcases p3 with p3 | ⟨b, off, p4, p5, p6, p7⟩
    · exact ⟨0, 0, ⟨p1, a, c, p2, .inl p3⟩, Nat.zero_le _⟩
    · omega
/-- All numbers of a truth of a row, in a row of the call's own. -/
theorem numbers_t (k0 lo hi : Nat) (va vm : Value) (b : Bok) (t : TrV) (w : World) (hb : HasB lo hi w va vm b) (hn : nameOk b.accs) (hh : hi ≤ w.heap.size) (ht : t.at w) (hbd : ∀ g, t.has g → g < w.heap.size) (htr : TruL b t.O t.C t.V) (hok : BokOk b) (hk0 : k0 ≤ w.heap.size) :
    Calls Try.prog 53 #[.agg #[va, vm], .agg #[t.vo, t.vc, t.vv]] w (fun e w' => ∃ (a : Option Addr) (c : Nat), e = .returned (.slice a (nM b) c) ∧ Own intEnc 3 1 k0 w' (.slice a (nM b) c) (nT b t) ∧
      (∀ g, (rown intEnc 3 1 k0 (.slice a (nM b) c) (nT b t)).X g → w.heap.size ≤ g ∧ g < w'.heap.size) ∧ w.grownBy w' none) := by
  obtain ⟨l1, h1, s1, q1⟩ := sl_wide ht.1 fun g hg => hbd g (.inl hg)
  obtain ⟨l2, h2, s2, q2⟩ := sl_wide ht.2.1 fun g hg => hbd g (.inr (.inl hg))
  obtain ⟨l3, h3, s3, q3⟩ := sl_wide ht.2.2 fun g hg => hbd g (.inr (.inr hg))
  refine (numbers_c lo hi va vm b l1 h1 l2 h2 l3 h3 _ _ _ t.O t.C t.V w hb hn hh s1 q1 s2 q2 s3 q3 hok htr.1 htr.2.acc htr.2.mv).mono ?_
  rintro e w' ⟨a, c, rfl, hB⟩
  rw [nT_len htr.1] at hB ⊢
  have h4 : Own intEnc 3 1 w.heap.size w' (.slice a (nM b) c) (nT b t) := hB.at 0 rfl
  have h5 := fun x hx => hB.bd _ (.head _) x hx
  refine ⟨a, c, rfl, ?_, fun g hg => ⟨(h5 g hg).2 rfl, (h5 g hg).1⟩, hB.gb⟩
  obtain ⟨a1, a2⟩ := h4
  refine ⟨a1, ?_⟩
  rcases a2 with a2 | ⟨g, cap, cur, hv, hg, h6⟩
  · exact .inl a2
  · exact .inr ⟨g, cap, cur, hv, Nat.le_trans hk0 hg, h6⟩
theorem ownSpans_f (k0 lo hi : Nat) (v : Value) (l : List Sp) (w : World) (hl : Sps lo hi w v l) (h2 : hi ≤ w.heap.size) (hs : l.length ≤ 100000) (hk0 : k0 ≤ w.heap.size) (N : Nat) (hN : l.length = N) :
    Calls Try.prog 54 #[v] w (fun e w' => ∃ (a : Option Addr) (c : Nat), e = .returned (.slice a N c) ∧ Own spEnc 40 2 k0 w' (.slice a N c) l ∧
      (∀ g, (rown spEnc 40 2 k0 (.slice a N c) l).X g → w.heap.size ≤ g ∧ g < w'.heap.size) ∧ w.grownBy w' none) := by
  subst hN
  refine (ownSpans_b lo hi v l w hl h2 hs).mono ?_
  rintro e w' ⟨a, c, k1, rfl, hB⟩
  have h4 : Own spEnc 40 2 k1 w' (.slice a l.length c) l := hB.at 0 rfl
  have h5 := fun x hx => hB.bd _ (.head _) x hx
  refine ⟨a, c, rfl, ?_, fun g hg => ⟨(h5 g hg).2 rfl, (h5 g hg).1⟩, hB.gb⟩
  obtain ⟨a1, a2⟩ := h4
  refine ⟨a1, ?_⟩
  rcases a2 with a2 | ⟨g, cap, cur, hv, hg, h6⟩
  · exact .inl a2
  · refine .inr ⟨g, cap, cur, hv, ?_, h6⟩
    have h7 := (h5 g (by rw [hv]; rfl)).2 rfl
    omega
theorem losses_no (l1 h1 l2 h2 : Nat) (va vm : Value) (b : Bok) (w : World) (ha : Accs l1 h1 w va b.accs) (hm : Mvs l2 h2 w vm b.mvs) (hn : nameOk b.accs) (b1 : h1 ≤ w.heap.size) (b2 : h2 ≤ w.heap.size) (h0 : checkE b = 12) :
    Calls Try.prog 20 #[.agg #[va, vm]] w (Ret (.tuple #[.slice none 0 0, .agg #[.int .i64 0, .int .i64 0], .int .i64 12]) w) := by
  refine (fLosses_c l1 h1 l2 h2 va vm b w ha hm hn b1 b2).mono ?_
  rintro e w' (⟨_, rfl, hg⟩ | ⟨h, _⟩)
  · exact ⟨by rw [h0], hg⟩
  · omega
theorem fref_12 (l1 h1 l2 h2 : Nat) (va vm : Value) (b : Bok) (w : World) (ha : Accs l1 h1 w va b.accs) (hm : Mvs l2 h2 w vm b.mvs) (b1 : h1 ≤ w.heap.size) (b2 : h2 ≤ w.heap.size) (hn : nameOk b.accs) (h0 : checkE b = 12) :
    Calls Try.prog 51 #[.agg #[va, vm]] w (Ret (.tuple #[.agg #[.slice none 0 0, .slice none 0 0], .int .i64 12]) w) := by
  refine (fref_no l1 h1 l2 h2 va vm b w ha hm b1 b2 hn (by omega)).mono ?_
  rintro e w' ⟨rfl, hg⟩
  exact ⟨by rw [h0], hg⟩
theorem nmAt_sz (k : Nat) (h : k < 8) : (nmAt k).size ≤ maxLen := by
  have key : ∀ k, k < 8 → (nmAt k).size ≤ maxLen := by decide +kernel
  exact key k h
theorem BokG.names {b : Bok} (h : BokG b) : nameOk b.accs := by
  intro a ha
  obtain ⟨i, hi, rfl⟩ := List.getElem_of_mem ha
  have h1 := (h.acc i hi).name
  rw [ga_get hi] at h1
  rw [h1]
  exact nmAt_sz i (by have := h.n8; omega)
theorem BokG.e12 {b : Bok} (h : BokG b) (h0 : ¬ checkE b = 0) : checkE b = 12 ∧ ¬ Calm b := by
  unfold checkE at h0 ⊢
  rw [if_pos h.formed] at h0 ⊢
  by_cases c : calm b (2 ^ b.accs.length)
  · rw [if_pos c] at h0; exact absurd rfl h0
  · rw [if_neg c]; exact ⟨rfl, fun hc => c (calm_iff.2 hc)⟩
theorem BokG.e0 {b : Bok} (h : BokG b) (h0 : checkE b = 0) : Calm b := by
  by_cases c : Calm b
  · exact c
  · exfalso
    unfold checkE at h0
    rw [if_pos h.formed, if_neg (fun hc => c (calm_iff.1 hc))] at h0
    cases h0
theorem set_cl {b : Bok} {k j : Nat} {s : Sp} (hk : k < b.accs.length) : ga (setCl b k s).accs j = if j = k then { ga b.accs k with cl := s } else ga b.accs j := by
  unfold setCl ga
  simp only [List.getD_eq_getElem?_getD, List.getElem?_set]
  by_cases e : j = k
  · subst e; simp [hk]
  · rw [if_neg (fun h => e h.symm), if_neg e]
theorem BokG.setCl {b : Bok} (h : BokG b) {k : Nat} (hk : k < b.accs.length) {s : Sp} (hs : 0 ≤ s.lo ∧ s.lo ≤ s.hi ∧ s.hi ≤ 1000000000) : BokG (setCl b k s) := by
  have hl : (Go.Proofs.Ytfifldbinnkdmaa.setCl b k s).accs.length = b.accs.length := List.length_set ..
  refine ⟨by rw [hl]; exact h.n0, by rw [hl]; exact h.n8, h.m30, fun j hj => ?_, fun j hj => by rw [hl]; exact h.mv j hj⟩
  rw [hl] at hj
  have h1 := h.acc j hj
  rw [set_cl hk]
  by_cases e : j = k
  · subst e; rw [if_pos rfl]; exact ⟨h1.name, h1.kind, h1.op, hs⟩
  · rw [if_neg e]; exact h1
/-- A book with another close. -/
structure SetC (b c : Bok) (k : Nat) (s : Sp) : Prop where
  n : c.accs.length = b.accs.length
  m : c.mvs = b.mvs
  g : BokG c
  at_ : (ga c.accs k).cl = s
theorem setC_of {b c : Bok} {k : Nat} {s : Sp} (h : BokG b) (hk : k < b.accs.length) (hs : 0 ≤ s.lo ∧ s.lo ≤ s.hi ∧ s.hi ≤ 1000000000) (e : setCl b k s = c) : SetC b c k s := by
  subst e
  exact ⟨List.length_set .., rfl, h.setCl hk hs, by rw [set_cl hk, if_pos rfl]⟩
theorem bt_cl {accounts moves : Nat} {L W : Int} {b : Bok} {O C V : List Int} (h : BookTruth accounts moves L W b O C V) {k : Nat} (hk : k < b.accs.length) : 0 ≤ (ga b.accs k).cl.lo ∧ (ga b.accs k).cl.lo ≤ (ga b.accs k).cl.hi ∧ (ga b.accs k).cl.hi ≤ b.accs.length * L + W := by
  have h1 := h.cl k hk
  have h2 := h.tot k hk
  omega
theorem lo_set {N : Nat} {b : Bok} {T : List TrV} {i k : Nat} (hi : 1 ≤ i) (hk : k < N) : (mixF N (loF b T) (i - 1) k).set k (min (loF b T k (i - 1)) (gi (nT b (gt T i)) k)) = mixF N (loF b T) (i - 1) (k + 1) := by
  have h := mixF_set (N := N) (f := loF b T) (p := i - 1) hk
  have e : loF b T k (i - 1 + 1) = min (loF b T k (i - 1)) (gi (nT b (gt T i)) k) := by
    show min (loF b T k (i - 1)) (nN b T (i - 1 + 1) k) = _
    rw [show i - 1 + 1 = i by omega]; rfl
  rw [← e]; exact h
theorem hi_set {N : Nat} {b : Bok} {T : List TrV} {i k : Nat} (hi : 1 ≤ i) (hk : k < N) : (mixF N (hiF b T) (i - 1) k).set k (max (hiF b T k (i - 1)) (gi (nT b (gt T i)) k)) = mixF N (hiF b T) (i - 1) (k + 1) := by
  have h := mixF_set (N := N) (f := hiF b T) (p := i - 1) hk
  have e : hiF b T k (i - 1 + 1) = max (hiF b T k (i - 1)) (gi (nT b (gt T i)) k) := by
    show max (hiF b T k (i - 1)) (nN b T (i - 1 + 1) k) = _
    rw [show i - 1 + 1 = i by omega]; rfl
  rw [← e]; exact h
theorem mix_up {N : Nat} {f : Nat → Nat → Int} {i : Nat} (hi : 1 ≤ i) : mixF N f (i - 1) N = mixF N f (i + 1 - 1) 0 := by
  rw [mixF_next]
  congr 1
  omega
theorem due_at {b fb : Bok} {T : List TrV} (hok : BokOk b) (hc : Calm b) (hT : TruS b (sizeC (spansL b)) T) (hfb : refB b = fb) {k : Nat} (hk : k < nM b) : (dueL b fb)[k]? = some (⟨loF b T k (T.length - 1), hiF b T k (T.length - 1)⟩ : Sp) := by
  subst hfb
  have hl := dueL_len (b := b) (fb := refB b) ⟨(ref_nar (b := b)).n, (ref_nar (b := b)).m⟩
  rw [← due_is hok hc hT hk]
  exact gs_at (by omega)
theorem rng_exact_walk (t : Nat → Value) : ((List.range 243).map t).toArray = List.toArray [t 0, t 1, t 2, t 3, t 4, t 5, t 6, t 7, t 8, t 9, t 10, t 11, t 12, t 13, t 14, t 15, t 16, t 17, t 18, t 19, t 20, t 21, t 22, t 23, t 24, t 25, t 26, t 27, t 28, t 29, t 30, t 31, t 32, t 33, t 34, t 35, t 36, t 37, t 38, t 39, t 40, t 41, t 42, t 43, t 44, t 45, t 46, t 47, t 48, t 49, t 50, t 51, t 52, t 53, t 54, t 55, t 56, t 57, t 58, t 59, t 60, t 61, t 62, t 63, t 64, t 65, t 66, t 67, t 68, t 69, t 70, t 71, t 72, t 73, t 74, t 75, t 76, t 77, t 78, t 79, t 80, t 81, t 82, t 83, t 84, t 85, t 86, t 87, t 88, t 89, t 90, t 91, t 92, t 93, t 94, t 95, t 96, t 97, t 98, t 99, t 100, t 101, t 102, t 103, t 104, t 105, t 106, t 107, t 108, t 109, t 110, t 111, t 112, t 113, t 114, t 115, t 116, t 117, t 118, t 119, t 120, t 121, t 122, t 123, t 124, t 125, t 126, t 127, t 128, t 129, t 130, t 131, t 132, t 133, t 134, t 135, t 136, t 137, t 138, t 139, t 140, t 141, t 142, t 143, t 144, t 145, t 146, t 147, t 148, t 149, t 150, t 151, t 152, t 153, t 154, t 155, t 156, t 157, t 158, t 159, t 160, t 161, t 162, t 163, t 164, t 165, t 166, t 167, t 168, t 169, t 170, t 171, t 172, t 173, t 174, t 175, t 176, t 177, t 178, t 179, t 180, t 181, t 182, t 183, t 184, t 185, t 186, t 187, t 188, t 189, t 190, t 191, t 192, t 193, t 194, t 195, t 196, t 197, t 198, t 199, t 200, t 201, t 202, t 203, t 204, t 205, t 206, t 207, t 208, t 209, t 210, t 211, t 212, t 213, t 214, t 215, t 216, t 217, t 218, t 219, t 220, t 221, t 222, t 223, t 224, t 225, t 226, t 227, t 228, t 229, t 230, t 231, t 232, t 233, t 234, t 235, t 236, t 237, t 238, t 239, t 240, t 241, t 242] := rfl
set_option maxHeartbeats 32000000 in
theorem exact_walk (vn : Value) (zs : List Int) (w : World) (hz : Ints 0 w.heap.size w vn zs) :
    Calls Try.prog 8 #[vn] w (Ret (.bool true) w) := by
 have F1 : Bun w [] w := Bun.nil _
 obtain ⟨na, nc, rfl⟩ := hz.any
 have hm_nums := hz.len
 unfold maxLen at hm_nums
 have F2 := F1.sl0 hz (Nat.le_refl _) rfl
 clear F1
 clear hz
 go_enter Try.func8, Try.ntmps8
 go_wp2_with fail
 refine (newSeed_c 0 w.heap.size _ zs _ (F2.at 0 rfl : Sl intEnc 1 0 w.heap.size _ (.slice na zs.length nc) zs)).mono ?_
 rintro e w5 ⟨sb, rfl, hsb, hsbs, hg3⟩
 have hsbl := hsbs.lt
 have hg3s := hg3.size
 (try simp at hg3s)
 have F6 := F2.add (rseed sb) hg3 (hsbs) (fun g e => by cases e; exact ⟨hsb, hsbs.lt⟩)
 clear F2
 clear hg3
 go_wp2_with fail
 refine (bookOf_b sb 3 3 6 1 _ (F6.at 0 rfl : SeedAt _ sb) (by omega) (by omega) (by omega) (by omega)).mono ?_
 rintro e w8 ⟨va_, vm_, bb, vo_, vc_, vv_, OO, CC, VV, rfl, hT, hB9⟩
 have hB9s := hB9.gb.size
 (try simp at hB9s)
 have F10 := F6.join (L2 := [rown accEnc 79 6 w5.heap.size va_ bb.accs, rown mvEnc 76 4 w5.heap.size vm_ bb.mvs, rown intEnc 3 1 w5.heap.size vo_ OO, rown intEnc 3 1 w5.heap.size vc_ CC, rown intEnc 3 1 w5.heap.size vv_ VV]) hB9 rfl
 clear F6
 clear hB9
 (try dsimp only [List.cons_append, List.nil_append] at F10)
 have HNB := Lib.hid (bt_names' hT (by omega))
 have hb8 := hT.n8
 have hb1 := hT.n0
 have hb10 := hT.m
 have hol := hT.olen
 have hcl := hT.clen
 have hvl := hT.vlen
 have hll : ((OO.length ≤ bb.accs.length ∧ bb.accs.length ≤ OO.length) ∧ CC.length ≤ bb.accs.length ∧ bb.accs.length ≤ CC.length) ∧ VV.length ≤ bb.mvs.length ∧ bb.mvs.length ≤ VV.length := by omega
 have HTB := Lib.hid hT
 clear hT hol hcl hvl
 obtain ⟨pa11, pc12, e_⟩ := (Own.sl (F10.at 0 rfl : Own accEnc 79 6 w5.heap.size _ va_ bb.accs) (fun _ => rfl)).any
 subst e_
 obtain ⟨pa13, pc14, e_⟩ := (Own.sl (F10.at 1 rfl : Own mvEnc 76 4 w5.heap.size _ vm_ bb.mvs) (fun _ => rfl)).any
 subst e_
 obtain ⟨pa15, pc16, e_⟩ := (Own.sl (F10.at 2 rfl : Own intEnc 3 1 w5.heap.size _ vo_ OO) (fun _ => rfl)).any
 subst e_
 obtain ⟨pa17, pc18, e_⟩ := (Own.sl (F10.at 3 rfl : Own intEnc 3 1 w5.heap.size _ vc_ CC) (fun _ => rfl)).any
 subst e_
 obtain ⟨pa19, pc20, e_⟩ := (Own.sl (F10.at 4 rfl : Own intEnc 3 1 w5.heap.size _ vv_ VV) (fun _ => rfl)).any
 subst e_
 have HBG := Lib.hid (bt_g HTB.out (by omega) (by omega) (by omega) (by omega))
 have HTI := Lib.hid (bt_tru HTB.out)
 have HCB := Lib.hid (HBG.out.check HTI.out)
 have HLB : Hid (OO.length = bb.accs.length ∧ CC.length = bb.accs.length ∧ VV.length = bb.mvs.length) := Lib.hid (by omega)
 have HOK := Lib.hid HBG.out.ok
 go_wp2_with fail
 have F21 := F10.new 25 #[.slice pa11 bb.accs.length pc12, .slice pa13 bb.mvs.length pc14] (n := w8.heap.size) (by simp)
 clear F10
 have F22 := F21.new 32 #[.slice pa15 OO.length pc16, .slice pa17 CC.length pc18, .slice pa19 VV.length pc20] (n := (w8.heap.size + 1)) (by simp)
 clear F21
 have Fn_ := (F22.drop 0 rfl)
 (try dsimp only [List.eraseIdx_cons_succ, List.eraseIdx_cons_zero] at Fn_)
 obtain ⟨w23, hx24, F26, hxs25⟩ := Fn_.name
 (try simp at hxs25)
 rw [hx24]
 clear hx24 F22 Fn_
 rename_i k2_ hk2_ k1_ hk1_ k0_ hk0_
 refine cut_then (K0 := k2_) 243 (fun t wr => ∃ (cb : Bok), t 4 = .pointer (some ⟨w8.heap.size, 0, none⟩) ∧ w23.heap.size ≤ wr.heap.size ∧ (Hid (BokG cb)) ∧ (Hid (cb.accs.length = bb.accs.length ∧ cb.mvs = bb.mvs)) ∧ Bun w [rbox w8.heap.size 25 #[.slice pa11 cb.accs.length pc12, .slice pa13 cb.mvs.length pc14], rown accEnc 79 6 w5.heap.size (.slice pa11 cb.accs.length pc12) cb.accs, rown mvEnc 76 4 w5.heap.size (.slice pa13 cb.mvs.length pc14) cb.mvs, rown intEnc 3 1 w5.heap.size (.slice pa15 OO.length pc16) OO, rown intEnc 3 1 w5.heap.size (.slice pa17 CC.length pc18) CC, rown intEnc 3 1 w5.heap.size (.slice pa19 VV.length pc20) VV, rseed sb, rsl intEnc 1 0 w.heap.size (.slice na zs.length nc) zs] wr) ?first7 ?rest7
 case rest7 =>
  rintro t wr ⟨cb, e4, hrel⟩
  have e : ((List.range 243).map t).toArray = #[t 0, t 1, t 2, t 3, t 4, t 5, t 6, t 7, t 8, t 9, t 10, t 11, t 12, t 13, t 14, t 15, t 16, t 17, t 18, t 19, t 20, t 21, t 22, t 23, t 24, t 25, t 26, t 27, t 28, t 29, t 30, t 31, t 32, t 33, t 34, t 35, t 36, t 37, t 38, t 39, t 40, t 41, t 42, t 43, t 44, t 45, t 46, t 47, t 48, t 49, t 50, t 51, t 52, t 53, t 54, t 55, t 56, t 57, t 58, t 59, t 60, t 61, t 62, t 63, t 64, t 65, t 66, t 67, t 68, t 69, t 70, t 71, t 72, t 73, t 74, t 75, t 76, t 77, t 78, t 79, t 80, t 81, t 82, t 83, t 84, t 85, t 86, t 87, t 88, t 89, t 90, t 91, t 92, t 93, t 94, t 95, t 96, t 97, t 98, t 99, t 100, t 101, t 102, t 103, t 104, t 105, t 106, t 107, t 108, t 109, t 110, t 111, t 112, t 113, t 114, t 115, t 116, t 117, t 118, t 119, t 120, t 121, t 122, t 123, t 124, t 125, t 126, t 127, t 128, t 129, t 130, t 131, t 132, t 133, t 134, t 135, t 136, t 137, t 138, t 139, t 140, t 141, t 142, t 143, t 144, t 145, t 146, t 147, t 148, t 149, t 150, t 151, t 152, t 153, t 154, t 155, t 156, t 157, t 158, t 159, t 160, t 161, t 162, t 163, t 164, t 165, t 166, t 167, t 168, t 169, t 170, t 171, t 172, t 173, t 174, t 175, t 176, t 177, t 178, t 179, t 180, t 181, t 182, t 183, t 184, t 185, t 186, t 187, t 188, t 189, t 190, t 191, t 192, t 193, t 194, t 195, t 196, t 197, t 198, t 199, t 200, t 201, t 202, t 203, t 204, t 205, t 206, t 207, t 208, t 209, t 210, t 211, t 212, t 213, t 214, t 215, t 216, t 217, t 218, t 219, t 220, t 221, t 222, t 223, t 224, t 225, t 226, t 227, t 228, t 229, t 230, t 231, t 232, t 233, t 234, t 235, t 236, t 237, t 238, t 239, t 240, t 241, t 242] := rfl
  (try dsimp only at e)
  rw [e4] at e
  rw [e]
  clear e e4
  obtain ⟨hs28, hcg, hcn, hF27⟩ := hrel
  clear F26
  obtain ⟨w29, rfl⟩ : ∃ x_ : World, x_ = wr := ⟨_, rfl⟩
  refine hk2_ _ _ ?_
  clear hk2_
  have HOK := Lib.hid hcg.out.ok
  have HNC := Lib.hid hcg.out.names
  have hc0 := hcg.out.n0
  have hc8 := hcg.out.n8
  have hc30 := hcg.out.m30
  have F30 := (((((hF27.drop 3 rfl).drop 3 rfl).drop 3 rfl).drop 4 rfl).drop 3 rfl)
  clear hF27
  have b31 := F30.bx2 0 rfl
  go_wp2_with fail
  clear b31
  refine (choices_c _ _ _ _ cb _ ⟨Own.sl (F30.at 1 rfl : Own accEnc 79 6 w5.heap.size _ (.slice pa11 cb.accs.length pc12) cb.accs) (fun _ => rfl), Own.sl (F30.at 2 rfl : Own mvEnc 76 4 w5.heap.size _ (.slice pa13 cb.mvs.length pc14) cb.mvs) (fun _ => rfl)⟩ (Nat.le_refl _) HOK.out).mono ?_
  rintro e w34 ⟨rfl, hg32⟩
  have hg32s := hg32.size
  (try simp at hg32s)
  have F35 := F30.gn hg32
  clear F30
  clear hg32
  by_cases c36 : 6000 < chM cb cb.mvs.length
  ·
   have c36H := Lib.hid c36
   go_wp2_with fail
   refine (awake_c _).mono ?_
   rintro e w39 ⟨rfl, hg37⟩
   have hg37s := hg37.size
   (try simp at hg37s)
   have F40 := F35.gn hg37
   clear F35
   clear hg37
   go_wp2_with fail
   go_ret
   exact ⟨rfl, F40.gb⟩
  ·
   have c36H := Lib.hid c36
   have c36a : decide (6000 < chM cb cb.mvs.length) = false := dec_f c36
   have b41 := F35.bx2 0 rfl
   go_wp2_with fail
   clear b41
   have Fn_ := F35
   (try dsimp only [List.eraseIdx_cons_succ, List.eraseIdx_cons_zero] at Fn_)
   obtain ⟨w42, hx43, F45, hxs44⟩ := Fn_.name
   (try simp at hxs44)
   rw [hx43]
   clear hx43 F35 Fn_
   have hsz_ := ch_few HOK.out (by omega)
   refine (truths_c _ _ _ _ cb _ ⟨Own.sl (F45.at 1 rfl : Own accEnc 79 6 w5.heap.size _ (.slice pa11 cb.accs.length pc12) cb.accs) (fun _ => rfl), Own.sl (F45.at 2 rfl : Own mvEnc 76 4 w5.heap.size _ (.slice pa13 cb.mvs.length pc14) cb.mvs) (fun _ => rfl)⟩ HNC.out (Nat.le_refl _) HOK.out hsz_).mono ?_
   rintro e w46 ⟨ta, _, tc, k1t, T, rfl, rfl, hTS, hTz, hTN, hB47⟩
   have hB47s := hB47.gb.size
   (try simp at hB47s)
   have F48 := F45.joinX (L2 := [rown trvEnc 32 3 k1t (.slice ta T.length tc) T, rtrs T]) hB47 (truths_new hTN hB47)
   clear F45
   clear hB47
   (try dsimp only [List.cons_append, List.nil_append] at F48)
   have HT := Lib.hid hTS
   have hTf := hTS.few
   clear hTS hTN hsz_
   by_cases hcz : checkE cb = 0
   ·
    have HCK := Lib.hid hcz
    have HCM := Lib.hid (hcg.out.e0 hcz)
    have hTp := trus_pos HOK.out HCM.out HT.out
    clear hcz
    obtain ⟨fb, hfb_⟩ : ∃ z_, refB cb = z_ := ⟨_, rfl⟩
    have hfl_ : (fb.accs.length ≤ cb.accs.length ∧ cb.accs.length ≤ fb.accs.length) ∧ fb.mvs.length ≤ cb.mvs.length ∧ cb.mvs.length ≤ fb.mvs.length := by have h1_ := (ref_nar (b := cb)).n; have h2_ := (ref_nar (b := cb)).m; rw [hfb_] at h1_ h2_; omega
    have HFB := Lib.hid hfb_
    clear hfb_
    have kn49 : ¬ ((T.length : Int) = 0) := by omega
    have kn49H := Lib.hid kn49
    have kn49a : ((T.length : Int) == 0) = false := beq_f kn49
    have kn49b : ((T.length : Int) != 0) = true := bne_t kn49
    clear kn49
    have b50 := F48.bx2 2 rfl
    go_wp2_with fail
    clear b50
    refine (losses_ok _ _ _ _ _ _ cb _ (Own.sl (F48.at 3 rfl : Own accEnc 79 6 w5.heap.size _ (.slice pa11 cb.accs.length pc12) cb.accs) (fun _ => rfl)) (Own.sl (F48.at 4 rfl : Own mvEnc 76 4 w5.heap.size _ (.slice pa13 cb.mvs.length pc14) cb.mvs) (fun _ => rfl)) HNC.out (Nat.le_refl _) (Nat.le_refl _) HCK.out (lossL cb) (lossT cb) rfl rfl).mono ?_
    rintro e w53 ⟨la_, lc_, ll_, lh_, rfl, ⟨lx_, ly_⟩, lz_, hg51⟩
    have hlll : (lossL cb).length ≤ cb.accs.length ∧ cb.accs.length ≤ (lossL cb).length := by have := dueL_l cb; omega
    have hg51s := hg51.size
    (try simp at hg51s)
    have F54 := F48.add (rsl spEnc 2 ll_ lh_ (.slice la_ (lossL cb).length lc_) (lossL cb)) hg51 (lz_) (fun g e => ⟨Nat.le_trans lx_ e.1, Nat.lt_of_lt_of_le e.2 ly_⟩)
    clear F48
    clear hg51
    have b55 := F54.bx2 3 rfl
    go_wp2_with fail
    clear b55
    have F56 := F54.new 40 #[.int .i64 ((lossT cb).lo), .int .i64 ((lossT cb).hi)] (n := w53.heap.size) (by simp)
    clear F54
    refine (fref_n _ _ _ _ _ _ cb fb _ (Own.sl (F56.at 5 rfl : Own accEnc 79 6 w5.heap.size _ (.slice pa11 cb.accs.length pc12) cb.accs) (fun _ => rfl)) (Own.sl (F56.at 6 rfl : Own mvEnc 76 4 w5.heap.size _ (.slice pa13 cb.mvs.length pc14) cb.mvs) (fun _ => rfl)) (Nat.le_refl _) (Nat.le_refl _) HNC.out HCK.out HFB.out).mono ?_
    rintro e w57 ⟨qf1, qf2, qf3, qf4, k1f, rfl, hB58⟩
    have hB58s := hB58.gb.size
    (try simp at hB58s)
    have F59 := F56.joinN (L2 := [rown accEnc 79 6 k1f (.slice qf1 cb.accs.length qf2) fb.accs, rown mvEnc 76 4 k1f (.slice qf3 cb.mvs.length qf4) fb.mvs]) hB58 rfl
    clear F56
    clear hB58
    (try dsimp only [List.cons_append, List.nil_append] at F59)
    have kn60 : ((lossL cb).length : Int) = (cb.accs.length : Int) := by omega
    have kn60H := Lib.hid kn60
    have kn60a : (((lossL cb).length : Int) == (cb.accs.length : Int)) = true := beq_t kn60
    have kn60b : (((lossL cb).length : Int) != (cb.accs.length : Int)) = false := bne_f kn60
    clear kn60
    have b61 := F59.bx2 6 rfl
    go_wp2_with fail
    clear b61
    have F62 := F59.new 25 #[.slice qf1 cb.accs.length qf2, .slice qf3 cb.mvs.length qf4] (n := w57.heap.size) (by simp)
    clear F59
    refine (shaped_t _ _ _ _ _ _ _ _ _ _ _).mono ?_
    rintro e w65 ⟨rfl, hg63⟩
    have hg63s := hg63.size
    (try simp at hg63s)
    have F66 := F62.gn hg63
    clear F62
    clear hg63
    have b67 := F66.bx2 7 rfl
    go_wp2_with fail
    clear b67
    obtain ⟨gA68, cA69, e_⟩ := Own.opn (F66.at 5 rfl : Own trvEnc 32 3 k1t _ (.slice ta T.length tc) T) (by omega)
    injection e_ with e1_ e2_ e3_
    subst e1_
    clear e2_ e3_
    have hz70 : Hid (T[0]? = some (gt T 0)) := Lib.hid (gt_at (by omega))
    have hnm : 0 < nM cb ∧ nM cb ≤ 100 := by unfold nM; omega
    go_wp2_with fail
    have F71 := F66.drew
    clear F66
    refine ru_begin (fun W => W.cell? ⟨w8.heap.size, 0, none⟩ = some (.slice pa11 cb.accs.length pc12) ∧ W.cell? ⟨w8.heap.size, 1, none⟩ = some (.slice pa13 cb.mvs.length pc14) ∧ W.cell? ⟨gA68, 0, none⟩ = some ((gt T 0).vo) ∧ W.cell? ⟨gA68, 1, none⟩ = some ((gt T 0).vc) ∧ W.cell? ⟨gA68, 2, none⟩ = some ((gt T 0).vv)) 11 (by kernel_rfl) ?_ ?_
    · exact ⟨F71.cl 7 0 rfl rfl, F71.cl 7 1 rfl rfl, (by simpa using (Own.sl (F71.at 5 rfl : Own trvEnc 32 3 k1t _ (.slice (some ⟨gA68, 0, none⟩) T.length tc) T) (fun _ => rfl)).cells hz70.out 0 _ rfl), (by simpa using (Own.sl (F71.at 5 rfl : Own trvEnc 32 3 k1t _ (.slice (some ⟨gA68, 0, none⟩) T.length tc) T) (fun _ => rfl)).cells hz70.out 1 _ rfl), (by simpa using (Own.sl (F71.at 5 rfl : Own trvEnc 32 3 k1t _ (.slice (some ⟨gA68, 0, none⟩) T.length tc) T) (fun _ => rfl)).cells hz70.out 2 _ rfl)⟩
    obtain ⟨wd73, hwd_⟩ : ∃ x : World, w65.drew = x := ⟨_, rfl⟩
    rw [hwd_] at F71 ⊢
    have wd73s : w65.heap.size ≤ wd73.heap.size := by rw [← hwd_]; exact Nat.le_refl _
    clear hwd_
    have hS72 := (And.intro (F71.cl 7 0 rfl rfl) (And.intro (F71.cl 7 1 rfl rfl) (And.intro ((by simpa using (Own.sl (F71.at 5 rfl : Own trvEnc 32 3 k1t _ (.slice (some ⟨gA68, 0, none⟩) T.length tc) T) (fun _ => rfl)).cells hz70.out 0 _ rfl)) (And.intro ((by simpa using (Own.sl (F71.at 5 rfl : Own trvEnc 32 3 k1t _ (.slice (some ⟨gA68, 0, none⟩) T.length tc) T) (fun _ => rfl)).cells hz70.out 1 _ rfl)) ((by simpa using (Own.sl (F71.at 5 rfl : Own trvEnc 32 3 k1t _ (.slice (some ⟨gA68, 0, none⟩) T.length tc) T) (fun _ => rfl)).cells hz70.out 2 _ rfl))))))
    refine ru_t 0 [] ?_
    refine ru_t 1 [] ?_
    refine ru_t 2 [] ?_
    refine ru_t 3 [] ?_
    refine ru_t 5 [] ?_
    refine ru_t 6 [] ?_
    refine ru_t 7 [] ?_
    refine ru_t 8 [] ?_
    (try simp only [Act.put, List.setIfInBounds_toArray, List.set_cons_zero, List.set_cons_succ])
    clear hS72
    refine ru_one 4 rfl (by kernel_rfl) (fun K hK => ?_)
    go_simp
    refine (numbers_t w.heap.size _ _ _ _ cb (gt T 0) _ ⟨Own.sl (F71.at 8 rfl : Own accEnc 79 6 w5.heap.size _ (.slice pa11 cb.accs.length pc12) cb.accs) (fun _ => rfl), Own.sl (F71.at 9 rfl : Own mvEnc 76 4 w5.heap.size _ (.slice pa13 cb.mvs.length pc14) cb.mvs) (fun _ => rfl)⟩ HNC.out (Nat.le_refl _) ((F71.at 6 rfl : ∀ t_, t_ ∈ T → TrV.at t_ _) _ (gt_mem (by omega))) (fun g_ hg_ => (F71.bd (rtrs T) (List.mem_of_getElem? (i := 6) rfl) g_ ⟨_, gt_mem (by omega), hg_⟩).1) (HT.out.one _ (gt_mem (by omega))) HOK.out F71.gb.size).mono ?_
    rintro e w76 ⟨nalo, nclo, rfl, nolo, nxlo, hg74⟩
    rw [first_lo (nT_len (HT.out.one _ (gt_mem hTp)).1)] at nolo nxlo
    have hg74s := hg74.size
    (try simp at hg74s)
    have F77 := F71.add (rown intEnc 3 1 w.heap.size (.slice nalo (nM cb) nclo) (mixF (nM cb) (loF cb T) 0 0)) hg74 (nolo) (nxlo)
    clear F71
    refine ru_back hK (by exact ⟨F77.cl 8 0 rfl rfl, F77.cl 8 1 rfl rfl, (by simpa using (Own.sl (F77.at 6 rfl : Own trvEnc 32 3 k1t _ (.slice (some ⟨gA68, 0, none⟩) T.length tc) T) (fun _ => rfl)).cells hz70.out 0 _ rfl), (by simpa using (Own.sl (F77.at 6 rfl : Own trvEnc 32 3 k1t _ (.slice (some ⟨gA68, 0, none⟩) T.length tc) T) (fun _ => rfl)).cells hz70.out 1 _ rfl), (by simpa using (Own.sl (F77.at 6 rfl : Own trvEnc 32 3 k1t _ (.slice (some ⟨gA68, 0, none⟩) T.length tc) T) (fun _ => rfl)).cells hz70.out 2 _ rfl)⟩) (fun hHeld => ?_)
    clear hK K
    (try simp only [Act.put, List.setIfInBounds_toArray, List.set_cons_zero, List.set_cons_succ])
    refine ru_one 9 rfl (by kernel_rfl) (fun K hK => ?_)
    go_simp
    refine (numbers_t w.heap.size _ _ _ _ cb (gt T 0) _ ⟨Own.sl (F77.at 9 rfl : Own accEnc 79 6 w5.heap.size _ (.slice pa11 cb.accs.length pc12) cb.accs) (fun _ => rfl), Own.sl (F77.at 10 rfl : Own mvEnc 76 4 w5.heap.size _ (.slice pa13 cb.mvs.length pc14) cb.mvs) (fun _ => rfl)⟩ HNC.out (Nat.le_refl _) ((F77.at 7 rfl : ∀ t_, t_ ∈ T → TrV.at t_ _) _ (gt_mem (by omega))) (fun g_ hg_ => (F77.bd (rtrs T) (List.mem_of_getElem? (i := 7) rfl) g_ ⟨_, gt_mem (by omega), hg_⟩).1) (HT.out.one _ (gt_mem (by omega))) HOK.out F77.gb.size).mono ?_
    rintro e w80 ⟨nahi, nchi, rfl, nohi, nxhi, hg78⟩
    rw [first_hi (nT_len (HT.out.one _ (gt_mem hTp)).1)] at nohi nxhi
    have hg78s := hg78.size
    (try simp at hg78s)
    have F81 := F77.add (rown intEnc 3 1 w.heap.size (.slice nahi (nM cb) nchi) (mixF (nM cb) (hiF cb T) 0 0)) hg78 (nohi) (nxhi)
    clear F77
    refine ru_back hK (by exact ⟨F81.cl 9 0 rfl rfl, F81.cl 9 1 rfl rfl, (by simpa using (Own.sl (F81.at 7 rfl : Own trvEnc 32 3 k1t _ (.slice (some ⟨gA68, 0, none⟩) T.length tc) T) (fun _ => rfl)).cells hz70.out 0 _ rfl), (by simpa using (Own.sl (F81.at 7 rfl : Own trvEnc 32 3 k1t _ (.slice (some ⟨gA68, 0, none⟩) T.length tc) T) (fun _ => rfl)).cells hz70.out 1 _ rfl), (by simpa using (Own.sl (F81.at 7 rfl : Own trvEnc 32 3 k1t _ (.slice (some ⟨gA68, 0, none⟩) T.length tc) T) (fun _ => rfl)).cells hz70.out 2 _ rfl)⟩) (fun hHeld => ?_)
    clear hK K
    (try simp only [Act.put, List.setIfInBounds_toArray, List.set_cons_zero, List.set_cons_succ])
    refine ru_p 10 ?_
    (try simp only [Act.put, List.setIfInBounds_toArray, List.set_cons_zero, List.set_cons_succ])
    refine ru_one 11 rfl (by kernel_rfl) (fun K hK => ?_)
    go_simp
    refine ru_back_late hK (by kernel_rfl) ?_
    clear hK K
    (try simp only [Act.put, List.setIfInBounds_toArray, List.set_cons_zero, List.set_cons_succ])
    refine ru_done (by kernel_rfl) ?_
    have Fn_ := F81
    (try dsimp only [List.eraseIdx_cons_succ, List.eraseIdx_cons_zero] at Fn_)
    obtain ⟨w82, hx83, F85, hxs84⟩ := Fn_.name
    (try simp at hxs84)
    rw [hx83]
    clear hx83 F81 Fn_
    go_wp2_with fail
    have hmz0 : 1 ≤ T.length := hTp
    obtain ⟨HI86_, HI860⟩ : ∃ I : (Nat → Value) → List Deferred → World → Prop, I = (fun t ds wr => ∃ (i : Nat), t 4 = .pointer (some ⟨w8.heap.size, 0, none⟩) ∧ t 7 = .slice (some ⟨gA68, 0, none⟩) T.length tc ∧ t 8 = .slice la_ ((lossL cb).length) lc_ ∧ t 9 = .pointer (some ⟨w53.heap.size, 0, none⟩) ∧ t 11 = .pointer (some ⟨w57.heap.size, 0, none⟩) ∧ t 13 = .int .i64 (cb.accs.length : Int) ∧ t 14 = .slice nalo (nM cb) nclo ∧ t 15 = .slice nahi (nM cb) nchi ∧ t 16 = .int .i64 (i : Int) ∧ 1 ≤ i ∧ i ≤ T.length ∧ ds = [] ∧ w82.heap.size ≤ wr.heap.size ∧ Bun w [rown intEnc 3 1 w.heap.size (.slice nahi (nM cb) nchi) (mixF (nM cb) (hiF cb T) (i - 1) 0), rown intEnc 3 1 w.heap.size (.slice nalo (nM cb) nclo) (mixF (nM cb) (loF cb T) (i - 1) 0), rbox w57.heap.size 25 #[.slice qf1 cb.accs.length qf2, .slice qf3 cb.mvs.length qf4], rown accEnc 79 6 k1f (.slice qf1 cb.accs.length qf2) fb.accs, rown mvEnc 76 4 k1f (.slice qf3 cb.mvs.length qf4) fb.mvs, rbox w53.heap.size 40 #[.int .i64 ((lossT cb).lo), .int .i64 ((lossT cb).hi)], rsl spEnc 2 ll_ lh_ (.slice la_ (lossL cb).length lc_) (lossL cb), rown trvEnc 32 3 k1t (.slice (some ⟨gA68, 0, none⟩) T.length tc) T, rtrs T, rbox w8.heap.size 25 #[.slice pa11 cb.accs.length pc12, .slice pa13 cb.mvs.length pc14], rown accEnc 79 6 w5.heap.size (.slice pa11 cb.accs.length pc12) cb.accs, rown mvEnc 76 4 w5.heap.size (.slice pa13 cb.mvs.length pc14) cb.mvs] wr) := ⟨_, rfl⟩
    have HI86 := Lib.hid HI860
    clear HI860
    refine wp_loopS 243 rfl HI86_ (fun t wr => T.length - (intOf (t 16)).toNat) ?atStart1 ?round1
    case round1 =>
     intro t ds wr hHid
     rw [HI86.out] at hHid
     obtain ⟨i, e4, e7, e8, e9, e11, e13, e14, e15, e16, hrel⟩ := hHid
     have e : ((List.range 243).map t).toArray = #[t 0, t 1, t 2, t 3, t 4, t 5, t 6, t 7, t 8, t 9, t 10, t 11, t 12, t 13, t 14, t 15, t 16, t 17, t 18, t 19, t 20, t 21, t 22, t 23, t 24, t 25, t 26, t 27, t 28, t 29, t 30, t 31, t 32, t 33, t 34, t 35, t 36, t 37, t 38, t 39, t 40, t 41, t 42, t 43, t 44, t 45, t 46, t 47, t 48, t 49, t 50, t 51, t 52, t 53, t 54, t 55, t 56, t 57, t 58, t 59, t 60, t 61, t 62, t 63, t 64, t 65, t 66, t 67, t 68, t 69, t 70, t 71, t 72, t 73, t 74, t 75, t 76, t 77, t 78, t 79, t 80, t 81, t 82, t 83, t 84, t 85, t 86, t 87, t 88, t 89, t 90, t 91, t 92, t 93, t 94, t 95, t 96, t 97, t 98, t 99, t 100, t 101, t 102, t 103, t 104, t 105, t 106, t 107, t 108, t 109, t 110, t 111, t 112, t 113, t 114, t 115, t 116, t 117, t 118, t 119, t 120, t 121, t 122, t 123, t 124, t 125, t 126, t 127, t 128, t 129, t 130, t 131, t 132, t 133, t 134, t 135, t 136, t 137, t 138, t 139, t 140, t 141, t 142, t 143, t 144, t 145, t 146, t 147, t 148, t 149, t 150, t 151, t 152, t 153, t 154, t 155, t 156, t 157, t 158, t 159, t 160, t 161, t 162, t 163, t 164, t 165, t 166, t 167, t 168, t 169, t 170, t 171, t 172, t 173, t 174, t 175, t 176, t 177, t 178, t 179, t 180, t 181, t 182, t 183, t 184, t 185, t 186, t 187, t 188, t 189, t 190, t 191, t 192, t 193, t 194, t 195, t 196, t 197, t 198, t 199, t 200, t 201, t 202, t 203, t 204, t 205, t 206, t 207, t 208, t 209, t 210, t 211, t 212, t 213, t 214, t 215, t 216, t 217, t 218, t 219, t 220, t 221, t 222, t 223, t 224, t 225, t 226, t 227, t 228, t 229, t 230, t 231, t 232, t 233, t 234, t 235, t 236, t 237, t 238, t 239, t 240, t 241, t 242] := rfl
     (try dsimp only at e)
     rw [e4, e7, e8, e9, e11, e13, e14, e15, e16] at e
     rw [e]
     simp only [e16]
     clear e e4 e7 e8 e9 e11 e13 e14 e15 e16
     obtain ⟨hi1, hi2, rfl, hs88, hF87⟩ := hrel
     clear F85
     obtain ⟨w89, rfl⟩ : ∃ x_ : World, x_ = wr := ⟨_, rfl⟩
     by_cases c90 : (i : Int) < (T.length : Int)
     ·
      have c90H := Lib.hid c90
      have hz91 : Hid (T[i]? = some (gt T i)) := Lib.hid (gt_at (by omega))
      have hiT : i < T.length := by omega
      go_wp2_with fail
      have F92 := hF87.drew
      clear hF87
      refine ru_begin (fun W => W.cell? ⟨w8.heap.size, 0, none⟩ = some (.slice pa11 cb.accs.length pc12) ∧ W.cell? ⟨w8.heap.size, 1, none⟩ = some (.slice pa13 cb.mvs.length pc14) ∧ W.cell? ⟨gA68, i * 3, none⟩ = some ((gt T i).vo) ∧ W.cell? ⟨gA68, i * 3 + 1, none⟩ = some ((gt T i).vc) ∧ W.cell? ⟨gA68, i * 3 + 2, none⟩ = some ((gt T i).vv)) 6 (by kernel_rfl) ?_ ?_
      · exact ⟨F92.cl 9 0 rfl rfl, F92.cl 9 1 rfl rfl, (by simpa using (Own.sl (F92.at 7 rfl : Own trvEnc 32 3 k1t _ (.slice (some ⟨gA68, 0, none⟩) T.length tc) T) (fun _ => rfl)).cells hz91.out 0 _ rfl), (by simpa using (Own.sl (F92.at 7 rfl : Own trvEnc 32 3 k1t _ (.slice (some ⟨gA68, 0, none⟩) T.length tc) T) (fun _ => rfl)).cells hz91.out 1 _ rfl), (by simpa using (Own.sl (F92.at 7 rfl : Own trvEnc 32 3 k1t _ (.slice (some ⟨gA68, 0, none⟩) T.length tc) T) (fun _ => rfl)).cells hz91.out 2 _ rfl)⟩
      obtain ⟨wd94, hwd_⟩ : ∃ x : World, w89.drew = x := ⟨_, rfl⟩
      rw [hwd_] at F92 ⊢
      have wd94s : w89.heap.size ≤ wd94.heap.size := by rw [← hwd_]; exact Nat.le_refl _
      clear hwd_
      have hS93 := (And.intro (F92.cl 9 0 rfl rfl) (And.intro (F92.cl 9 1 rfl rfl) (And.intro ((by simpa using (Own.sl (F92.at 7 rfl : Own trvEnc 32 3 k1t _ (.slice (some ⟨gA68, 0, none⟩) T.length tc) T) (fun _ => rfl)).cells hz91.out 0 _ rfl)) (And.intro ((by simpa using (Own.sl (F92.at 7 rfl : Own trvEnc 32 3 k1t _ (.slice (some ⟨gA68, 0, none⟩) T.length tc) T) (fun _ => rfl)).cells hz91.out 1 _ rfl)) ((by simpa using (Own.sl (F92.at 7 rfl : Own trvEnc 32 3 k1t _ (.slice (some ⟨gA68, 0, none⟩) T.length tc) T) (fun _ => rfl)).cells hz91.out 2 _ rfl))))))
      refine ru_t 0 [] ?_
      refine ru_t 1 [] ?_
      refine ru_t 2 [] ?_
      refine ru_t 3 [] ?_
      refine ru_t 4 [] ?_
      (try simp only [Act.put, List.setIfInBounds_toArray, List.set_cons_zero, List.set_cons_succ])
      clear hS93
      refine ru_one 5 rfl (by kernel_rfl) (fun K hK => ?_)
      go_simp
      refine (numbers_t w.heap.size _ _ _ _ cb (gt T i) _ ⟨Own.sl (F92.at 10 rfl : Own accEnc 79 6 w5.heap.size _ (.slice pa11 cb.accs.length pc12) cb.accs) (fun _ => rfl), Own.sl (F92.at 11 rfl : Own mvEnc 76 4 w5.heap.size _ (.slice pa13 cb.mvs.length pc14) cb.mvs) (fun _ => rfl)⟩ HNC.out (Nat.le_refl _) ((F92.at 8 rfl : ∀ t_, t_ ∈ T → TrV.at t_ _) _ (gt_mem (by omega))) (fun g_ hg_ => (F92.bd (rtrs T) (List.mem_of_getElem? (i := 8) rfl) g_ ⟨_, gt_mem (by omega), hg_⟩).1) (HT.out.one _ (gt_mem (by omega))) HOK.out F92.gb.size).mono ?_
      rintro e w97 ⟨naxx, ncxx, rfl, noxx, nxxx, hg95⟩
      have hg95s := hg95.size
      (try simp at hg95s)
      have F98 := F92.add (rown intEnc 3 1 w.heap.size (.slice naxx (nM cb) ncxx) (nT cb (gt T i))) hg95 (noxx) (nxxx)
      clear F92
      refine ru_back hK (by exact ⟨F98.cl 10 0 rfl rfl, F98.cl 10 1 rfl rfl, (by simpa using (Own.sl (F98.at 8 rfl : Own trvEnc 32 3 k1t _ (.slice (some ⟨gA68, 0, none⟩) T.length tc) T) (fun _ => rfl)).cells hz91.out 0 _ rfl), (by simpa using (Own.sl (F98.at 8 rfl : Own trvEnc 32 3 k1t _ (.slice (some ⟨gA68, 0, none⟩) T.length tc) T) (fun _ => rfl)).cells hz91.out 1 _ rfl), (by simpa using (Own.sl (F98.at 8 rfl : Own trvEnc 32 3 k1t _ (.slice (some ⟨gA68, 0, none⟩) T.length tc) T) (fun _ => rfl)).cells hz91.out 2 _ rfl)⟩) (fun hHeld => ?_)
      clear hK K
      (try simp only [Act.put, List.setIfInBounds_toArray, List.set_cons_zero, List.set_cons_succ])
      refine ru_one 6 rfl (by kernel_rfl) (fun K hK => ?_)
      go_simp
      refine ru_back_late hK (by kernel_rfl) ?_
      clear hK K
      (try simp only [Act.put, List.setIfInBounds_toArray, List.set_cons_zero, List.set_cons_succ])
      refine ru_done (by kernel_rfl) ?_
      have Fn_ := F98
      (try dsimp only [List.eraseIdx_cons_succ, List.eraseIdx_cons_zero] at Fn_)
      obtain ⟨w99, hx100, F102, hxs101⟩ := Fn_.name
      (try simp at hxs101)
      rw [hx100]
      clear hx100 F98 Fn_
      go_wp2_with fail
      obtain ⟨HI103_, HI1030⟩ : ∃ I : (Nat → Value) → List Deferred → World → Prop, I = (fun t ds wr => ∃ (k : Nat), t 4 = .pointer (some ⟨w8.heap.size, 0, none⟩) ∧ t 7 = .slice (some ⟨gA68, 0, none⟩) T.length tc ∧ t 8 = .slice la_ ((lossL cb).length) lc_ ∧ t 9 = .pointer (some ⟨w53.heap.size, 0, none⟩) ∧ t 11 = .pointer (some ⟨w57.heap.size, 0, none⟩) ∧ t 13 = .int .i64 (cb.accs.length : Int) ∧ t 14 = .slice nalo (nM cb) nclo ∧ t 15 = .slice nahi (nM cb) nchi ∧ t 16 = .int .i64 (i : Int) ∧ t 17 = .slice naxx (nM cb) ncxx ∧ t 18 = .int .i64 (k : Int) ∧ k ≤ nM cb ∧ ds = [] ∧ w99.heap.size ≤ wr.heap.size ∧ Bun w [rown intEnc 3 1 w.heap.size (.slice naxx (nM cb) ncxx) (nT cb (gt T i)), rown intEnc 3 1 w.heap.size (.slice nahi (nM cb) nchi) (mixF (nM cb) (hiF cb T) (i - 1) k), rown intEnc 3 1 w.heap.size (.slice nalo (nM cb) nclo) (mixF (nM cb) (loF cb T) (i - 1) k), rbox w57.heap.size 25 #[.slice qf1 cb.accs.length qf2, .slice qf3 cb.mvs.length qf4], rown accEnc 79 6 k1f (.slice qf1 cb.accs.length qf2) fb.accs, rown mvEnc 76 4 k1f (.slice qf3 cb.mvs.length qf4) fb.mvs, rbox w53.heap.size 40 #[.int .i64 ((lossT cb).lo), .int .i64 ((lossT cb).hi)], rsl spEnc 2 ll_ lh_ (.slice la_ (lossL cb).length lc_) (lossL cb), rown trvEnc 32 3 k1t (.slice (some ⟨gA68, 0, none⟩) T.length tc) T, rtrs T, rbox w8.heap.size 25 #[.slice pa11 cb.accs.length pc12, .slice pa13 cb.mvs.length pc14], rown accEnc 79 6 w5.heap.size (.slice pa11 cb.accs.length pc12) cb.accs, rown mvEnc 76 4 w5.heap.size (.slice pa13 cb.mvs.length pc14) cb.mvs] wr) := ⟨_, rfl⟩
      have HI103 := Lib.hid HI1030
      clear HI1030
      refine wp_loopS 243 rfl HI103_ (fun t wr => nM cb - (intOf (t 18)).toNat) ?atStart2 ?round2
      case round2 =>
       intro t ds wr hHid
       rw [HI103.out] at hHid
       obtain ⟨k, e4, e7, e8, e9, e11, e13, e14, e15, e16, e17, e18, hrel⟩ := hHid
       have e : ((List.range 243).map t).toArray = #[t 0, t 1, t 2, t 3, t 4, t 5, t 6, t 7, t 8, t 9, t 10, t 11, t 12, t 13, t 14, t 15, t 16, t 17, t 18, t 19, t 20, t 21, t 22, t 23, t 24, t 25, t 26, t 27, t 28, t 29, t 30, t 31, t 32, t 33, t 34, t 35, t 36, t 37, t 38, t 39, t 40, t 41, t 42, t 43, t 44, t 45, t 46, t 47, t 48, t 49, t 50, t 51, t 52, t 53, t 54, t 55, t 56, t 57, t 58, t 59, t 60, t 61, t 62, t 63, t 64, t 65, t 66, t 67, t 68, t 69, t 70, t 71, t 72, t 73, t 74, t 75, t 76, t 77, t 78, t 79, t 80, t 81, t 82, t 83, t 84, t 85, t 86, t 87, t 88, t 89, t 90, t 91, t 92, t 93, t 94, t 95, t 96, t 97, t 98, t 99, t 100, t 101, t 102, t 103, t 104, t 105, t 106, t 107, t 108, t 109, t 110, t 111, t 112, t 113, t 114, t 115, t 116, t 117, t 118, t 119, t 120, t 121, t 122, t 123, t 124, t 125, t 126, t 127, t 128, t 129, t 130, t 131, t 132, t 133, t 134, t 135, t 136, t 137, t 138, t 139, t 140, t 141, t 142, t 143, t 144, t 145, t 146, t 147, t 148, t 149, t 150, t 151, t 152, t 153, t 154, t 155, t 156, t 157, t 158, t 159, t 160, t 161, t 162, t 163, t 164, t 165, t 166, t 167, t 168, t 169, t 170, t 171, t 172, t 173, t 174, t 175, t 176, t 177, t 178, t 179, t 180, t 181, t 182, t 183, t 184, t 185, t 186, t 187, t 188, t 189, t 190, t 191, t 192, t 193, t 194, t 195, t 196, t 197, t 198, t 199, t 200, t 201, t 202, t 203, t 204, t 205, t 206, t 207, t 208, t 209, t 210, t 211, t 212, t 213, t 214, t 215, t 216, t 217, t 218, t 219, t 220, t 221, t 222, t 223, t 224, t 225, t 226, t 227, t 228, t 229, t 230, t 231, t 232, t 233, t 234, t 235, t 236, t 237, t 238, t 239, t 240, t 241, t 242] := rfl
       (try dsimp only at e)
       rw [e4, e7, e8, e9, e11, e13, e14, e15, e16, e17, e18] at e
       rw [e]
       simp only [e18]
       clear e e4 e7 e8 e9 e11 e13 e14 e15 e16 e17 e18
       obtain ⟨hk0, rfl, hs105, hF104⟩ := hrel
       clear F102
       obtain ⟨w106, rfl⟩ : ∃ x_ : World, x_ = wr := ⟨_, rfl⟩
       by_cases c107 : (k : Int) < ((nM cb) : Int)
       ·
        have c107H := Lib.hid c107
        obtain ⟨gA108, cA109, e_⟩ := Own.opn (hF104.at 2 rfl : Own intEnc 3 1 w.heap.size _ (.slice nalo (nM cb) nclo) (mixF (nM cb) (loF cb T) (i - 1) k)) (by first | (rw [mixF_len]; omega) | (have h_ := nT_len (HT.out.one _ (gt_mem hiT)).1; unfold nT; omega))
        injection e_ with e1_ e2_ e3_
        subst e1_
        clear e2_ e3_
        obtain ⟨gA110, cA111, e_⟩ := Own.opn (hF104.at 1 rfl : Own intEnc 3 1 w.heap.size _ (.slice nahi (nM cb) nchi) (mixF (nM cb) (hiF cb T) (i - 1) k)) (by first | (rw [mixF_len]; omega) | (have h_ := nT_len (HT.out.one _ (gt_mem hiT)).1; unfold nT; omega))
        injection e_ with e1_ e2_ e3_
        subst e1_
        clear e2_ e3_
        obtain ⟨gA112, cA113, e_⟩ := Own.opn (hF104.at 0 rfl : Own intEnc 3 1 w.heap.size _ (.slice naxx (nM cb) ncxx) (nT cb (gt T i))) (by first | (rw [mixF_len]; omega) | (have h_ := nT_len (HT.out.one _ (gt_mem hiT)).1; unfold nT; omega))
        injection e_ with e1_ e2_ e3_
        subst e1_
        clear e2_ e3_
        have hz114 : Hid ((mixF (nM cb) (loF cb T) (i - 1) k)[k]? = some (loF cb T k (i - 1))) := Lib.hid (mixF_at (by omega))
        have hz115 : Hid ((mixF (nM cb) (hiF cb T) (i - 1) k)[k]? = some (hiF cb T k (i - 1))) := Lib.hid (mixF_at (by omega))
        have hz116 : Hid ((nT cb (gt T i))[k]? = some (gi (nT cb (gt T i)) k)) := Lib.hid (gi_at (by have h_ := nT_len (HT.out.one _ (gt_mem hiT)).1; unfold nT; omega))
        have hkN : k < nM cb := by omega
        go_wp2_with fail
        have F117 := hF104.drew
        clear hF104
        refine ru_begin (fun W => W.cell? ⟨gA112, k, none⟩ = some (.int .i64 (gi (nT cb (gt T i)) k)) ∧ W.cell? ⟨gA110, k, none⟩ = some (.int .i64 (hiF cb T k (i - 1)))) 25 (by kernel_rfl) ?_ ?_
        · exact ⟨(by simpa using (Own.sl (F117.at 0 rfl : Own intEnc 3 1 w.heap.size _ (.slice (some ⟨gA112, 0, none⟩) (nM cb) ncxx) (nT cb (gt T i))) (fun _ => rfl)).cells hz116.out 0 _ rfl), (by simpa using (Own.sl (F117.at 1 rfl : Own intEnc 3 1 w.heap.size _ (.slice (some ⟨gA110, 0, none⟩) (nM cb) nchi) (mixF (nM cb) (hiF cb T) (i - 1) k)) (fun _ => rfl)).cells hz115.out 0 _ rfl)⟩
        obtain ⟨wd119, hwd_⟩ : ∃ x : World, w106.drew = x := ⟨_, rfl⟩
        rw [hwd_] at F117 ⊢
        have wd119s : w106.heap.size ≤ wd119.heap.size := by rw [← hwd_]; exact Nat.le_refl _
        clear hwd_
        have hS118 := (And.intro ((by simpa using (Own.sl (F117.at 0 rfl : Own intEnc 3 1 w.heap.size _ (.slice (some ⟨gA112, 0, none⟩) (nM cb) ncxx) (nT cb (gt T i))) (fun _ => rfl)).cells hz116.out 0 _ rfl)) ((by simpa using (Own.sl (F117.at 1 rfl : Own intEnc 3 1 w.heap.size _ (.slice (some ⟨gA110, 0, none⟩) (nM cb) nchi) (mixF (nM cb) (hiF cb T) (i - 1) k)) (fun _ => rfl)).cells hz115.out 0 _ rfl)))
        refine ru_t 0 [] ?_
        refine ru_t 1 [] ?_
        refine ru_t 2 [] ?_
        refine ru_t 3 [] ?_
        refine ru_t 4 [] ?_
        refine ru_t 5 [] ?_
        refine ru_t 6 [] ?_
        refine ru_t 8 [] ?_
        refine ru_t 9 [] ?_
        refine ru_t 10 [] ?_
        refine ru_t 11 [] ?_
        refine ru_t 13 [] ?_
        refine ru_t 14 [] ?_
        refine ru_t 15 [] ?_
        refine ru_t 16 [] ?_
        refine ru_t 17 [] ?_
        refine ru_t 18 [] ?_
        refine ru_t 19 [] ?_
        refine ru_t 20 [] ?_
        refine ru_t 21 [] ?_
        (try simp only [Act.put, List.setIfInBounds_toArray, List.set_cons_zero, List.set_cons_succ])
        clear hS118
        refine ru_one 7 rfl (by kernel_rfl) (fun K hK => ?_)
        have kq0_ : World.cell? _ ⟨gA108, k, none⟩ = some (.int .i64 (loF cb T k (i - 1))) := (by simpa using (Own.sl (F117.at 2 rfl : Own intEnc 3 1 w.heap.size _ (.slice (some ⟨gA108, 0, none⟩) (nM cb) nclo) (mixF (nM cb) (loF cb T) (i - 1) k)) (fun _ => rfl)).cells hz114.out 0 _ rfl)
        go_simp
        clear kq0_
        refine ru_back hK (by exact ⟨(by simpa using (Own.sl (F117.at 0 rfl : Own intEnc 3 1 w.heap.size _ (.slice (some ⟨gA112, 0, none⟩) (nM cb) ncxx) (nT cb (gt T i))) (fun _ => rfl)).cells hz116.out 0 _ rfl), (by simpa using (Own.sl (F117.at 1 rfl : Own intEnc 3 1 w.heap.size _ (.slice (some ⟨gA110, 0, none⟩) (nM cb) nchi) (mixF (nM cb) (hiF cb T) (i - 1) k)) (fun _ => rfl)).cells hz115.out 0 _ rfl)⟩) (fun hHeld => ?_)
        clear hK K
        (try simp only [Act.put, List.setIfInBounds_toArray, List.set_cons_zero, List.set_cons_succ])
        refine ru_p 12 ?_
        (try simp only [Act.put, List.setIfInBounds_toArray, List.set_cons_zero, List.set_cons_succ])
        refine ru_p 22 ?_
        (try simp only [Act.put, List.setIfInBounds_toArray, List.set_cons_zero, List.set_cons_succ])
        refine ru_one 23 rfl (by kernel_rfl) (fun K hK => ?_)
        have kc_ : World.cell? _ ⟨gA108, k, none⟩ = some (.int .i64 (loF cb T k (i - 1))) := (by simpa using (Own.sl (F117.at 2 rfl : Own intEnc 3 1 w.heap.size _ (.slice (some ⟨gA108, 0, none⟩) (nM cb) nclo) (mixF (nM cb) (loF cb T) (i - 1) k)) (fun _ => rfl)).cells hz114.out 0 _ rfl)
        have kf_ : World.frozen? _ ⟨gA108, k, none⟩ = false := Own.live (F117.at 2 rfl : Own intEnc 3 1 w.heap.size _ (.slice (some ⟨gA108, 0, none⟩) (nM cb) nclo) (mixF (nM cb) (loF cb T) (i - 1) k)) _
        go_simp
        clear kc_ kf_
        have F120 := Bun.setOwn (sz := 1) (fun _ => rfl) (F117.front 2 rfl rfl) hz114.out (y := (min (loF cb T k (i - 1)) (gi (nT cb (gt T i)) k))) (j := 0) (u := (.int .i64 (min (loF cb T k (i - 1)) (gi (nT cb (gt T i)) k)))) (k := k) (by decide) rfl (by omega)
        clear F117
        rw [lo_set hi1 (by omega)] at F120
        refine ru_back hK (by exact ⟨(by simpa using (Own.sl (F120.at 1 rfl : Own intEnc 3 1 w.heap.size _ (.slice (some ⟨gA112, 0, none⟩) (nM cb) ncxx) (nT cb (gt T i))) (fun _ => rfl)).cells hz116.out 0 _ rfl), (by simpa using (Own.sl (F120.at 2 rfl : Own intEnc 3 1 w.heap.size _ (.slice (some ⟨gA110, 0, none⟩) (nM cb) nchi) (mixF (nM cb) (hiF cb T) (i - 1) k)) (fun _ => rfl)).cells hz115.out 0 _ rfl)⟩) (fun hHeld => ?_)
        clear hK K
        (try simp only [Act.put, List.setIfInBounds_toArray, List.set_cons_zero, List.set_cons_succ])
        refine ru_p 24 ?_
        (try simp only [Act.put, List.setIfInBounds_toArray, List.set_cons_zero, List.set_cons_succ])
        refine ru_one 25 rfl (by kernel_rfl) (fun K hK => ?_)
        have kc_ : World.cell? _ ⟨gA110, k, none⟩ = some (.int .i64 (hiF cb T k (i - 1))) := (by simpa using (Own.sl (F120.at 2 rfl : Own intEnc 3 1 w.heap.size _ (.slice (some ⟨gA110, 0, none⟩) (nM cb) nchi) (mixF (nM cb) (hiF cb T) (i - 1) k)) (fun _ => rfl)).cells hz115.out 0 _ rfl)
        have kf_ : World.frozen? _ ⟨gA110, k, none⟩ = false := Own.live (F120.at 2 rfl : Own intEnc 3 1 w.heap.size _ (.slice (some ⟨gA110, 0, none⟩) (nM cb) nchi) (mixF (nM cb) (hiF cb T) (i - 1) k)) _
        go_simp
        clear kc_ kf_
        have F121 := Bun.setOwn (sz := 1) (fun _ => rfl) (F120.front 2 rfl rfl) hz115.out (y := (max (hiF cb T k (i - 1)) (gi (nT cb (gt T i)) k))) (j := 0) (u := (.int .i64 (max (hiF cb T k (i - 1)) (gi (nT cb (gt T i)) k)))) (k := k) (by decide) rfl (by omega)
        clear F120
        rw [hi_set hi1 (by omega)] at F121
        refine ru_back_late hK (by kernel_rfl) ?_
        clear hK K
        (try simp only [Act.put, List.setIfInBounds_toArray, List.set_cons_zero, List.set_cons_succ])
        refine ru_done (by kernel_rfl) ?_
        have Fn_ := F121
        (try dsimp only [List.eraseIdx_cons_succ, List.eraseIdx_cons_zero] at Fn_)
        obtain ⟨w122, hx123, F125, hxs124⟩ := Fn_.name
        (try simp at hxs124)
        rw [hx123]
        clear hx123 F121 Fn_
        go_wp2_with fail
        have F126 : Bun w [rown intEnc 3 1 w.heap.size (.slice (some ⟨gA112, 0, none⟩) (nM cb) ncxx) (nT cb (gt T i)), rown intEnc 3 1 w.heap.size (.slice (some ⟨gA110, 0, none⟩) (nM cb) nchi) (mixF (nM cb) (hiF cb T) (i - 1) (k + 1)), rown intEnc 3 1 w.heap.size (.slice (some ⟨gA108, 0, none⟩) (nM cb) nclo) (mixF (nM cb) (loF cb T) (i - 1) (k + 1)), rbox w57.heap.size 25 #[.slice qf1 cb.accs.length qf2, .slice qf3 cb.mvs.length qf4], rown accEnc 79 6 k1f (.slice qf1 cb.accs.length qf2) fb.accs, rown mvEnc 76 4 k1f (.slice qf3 cb.mvs.length qf4) fb.mvs, rbox w53.heap.size 40 #[.int .i64 ((lossT cb).lo), .int .i64 ((lossT cb).hi)], rsl spEnc 2 ll_ lh_ (.slice la_ (lossL cb).length lc_) (lossL cb), rown trvEnc 32 3 k1t (.slice (some ⟨gA68, 0, none⟩) T.length tc) T, rtrs T, rbox w8.heap.size 25 #[.slice pa11 cb.accs.length pc12, .slice pa13 cb.mvs.length pc14], rown accEnc 79 6 w5.heap.size (.slice pa11 cb.accs.length pc12) cb.accs, rown mvEnc 76 4 w5.heap.size (.slice pa13 cb.mvs.length pc14) cb.mvs] _ := F125.pick [2, 0, 1, 3, 4, 5, 6, 7, 8, 9, 10, 11, 12] (by decide) rfl
        clear F125
        (first | refine ⟨by kernel_rfl, ?_, ?_⟩ | refine ⟨rfl, ?_, ?_⟩ | refine ⟨?_, ?_⟩)
        · rw [HI103.out]; exact ⟨k + 1, (by kernel_rfl), (by kernel_rfl), (by kernel_rfl), (by kernel_rfl), (by kernel_rfl), (by kernel_rfl), (by kernel_rfl), (by kernel_rfl), (by kernel_rfl), (by kernel_rfl), (by show Value.int .i64 ((k : Int) + 1) = _; simp), (by omega), (by first | rfl | simp), (by first | omega | (simp; done) | (simp; omega)), F126⟩
        · simp [slot, intOf]; omega
       ·
        have c107H := Lib.hid c107
        have c107a : decide ((k : Int) < ((nM cb) : Int)) = false := dec_f c107
        go_wp2_with fail
        have hke : k = nM cb := by omega
        subst hke
        rw [mix_up hi1, mix_up hi1] at hF104
        (skip)
        have F127 : Bun w [rown intEnc 3 1 w.heap.size (.slice nahi (nM cb) nchi) (mixF (nM cb) (hiF cb T) (i + 1 - 1) 0), rown intEnc 3 1 w.heap.size (.slice nalo (nM cb) nclo) (mixF (nM cb) (loF cb T) (i + 1 - 1) 0), rbox w57.heap.size 25 #[.slice qf1 cb.accs.length qf2, .slice qf3 cb.mvs.length qf4], rown accEnc 79 6 k1f (.slice qf1 cb.accs.length qf2) fb.accs, rown mvEnc 76 4 k1f (.slice qf3 cb.mvs.length qf4) fb.mvs, rbox w53.heap.size 40 #[.int .i64 ((lossT cb).lo), .int .i64 ((lossT cb).hi)], rsl spEnc 2 ll_ lh_ (.slice la_ (lossL cb).length lc_) (lossL cb), rown trvEnc 32 3 k1t (.slice (some ⟨gA68, 0, none⟩) T.length tc) T, rtrs T, rbox w8.heap.size 25 #[.slice pa11 cb.accs.length pc12, .slice pa13 cb.mvs.length pc14], rown accEnc 79 6 w5.heap.size (.slice pa11 cb.accs.length pc12) cb.accs, rown mvEnc 76 4 w5.heap.size (.slice pa13 cb.mvs.length pc14) cb.mvs] _ := (hF104.drop 0 rfl).pick [0, 1, 2, 3, 4, 5, 6, 7, 8, 9, 10, 11] (by decide) rfl
        clear hF104
        (first | refine ⟨by kernel_rfl, ?_, ?_⟩ | refine ⟨rfl, ?_, ?_⟩ | refine ⟨?_, ?_⟩)
        · rw [HI86.out]; exact ⟨i + 1, (by kernel_rfl), (by kernel_rfl), (by kernel_rfl), (by kernel_rfl), (by kernel_rfl), (by kernel_rfl), (by kernel_rfl), (by kernel_rfl), (by show Value.int .i64 ((i : Int) + 1) = _; simp), (by omega), (by omega), (by first | rfl | simp), (by first | omega | (simp; done) | (simp; omega)), F127⟩
        · simp [slot, intOf]; omega
      case atStart2 =>
       rw [HI103.out]
       exact ⟨0, (by kernel_rfl), (by kernel_rfl), (by kernel_rfl), (by kernel_rfl), (by kernel_rfl), (by kernel_rfl), (by kernel_rfl), (by kernel_rfl), (by kernel_rfl), (by kernel_rfl), rfl, Nat.zero_le _, rfl, (by first | exact Nat.le_refl _ | omega | (simp; done) | (simp; omega)), F102⟩
     ·
      have c90H := Lib.hid c90
      have c90a : decide ((i : Int) < (T.length : Int)) = false := dec_f c90
      have hie : i = T.length := by omega
      subst hie
      go_wp2_with fail
      have F128 := hF87.drew
      clear hF87
      refine ru_begin (fun W => W.cell? ⟨w53.heap.size, 0, none⟩ = some (.int .i64 ((lossT cb).lo)) ∧ W.cell? ⟨w53.heap.size, 1, none⟩ = some (.int .i64 ((lossT cb).hi))) 5 (by kernel_rfl) ?_ ?_
      · exact ⟨F128.cl 5 0 rfl rfl, F128.cl 5 1 rfl rfl⟩
      obtain ⟨wd130, hwd_⟩ : ∃ x : World, w89.drew = x := ⟨_, rfl⟩
      rw [hwd_] at F128 ⊢
      have wd130s : w89.heap.size ≤ wd130.heap.size := by rw [← hwd_]; exact Nat.le_refl _
      clear hwd_
      have hS129 := (And.intro (F128.cl 5 0 rfl rfl) (F128.cl 5 1 rfl rfl))
      refine ru_t 0 [] ?_
      refine ru_t 2 [] ?_
      (try simp only [Act.put, List.setIfInBounds_toArray, List.set_cons_zero, List.set_cons_succ])
      clear hS129
      refine ru_state 243 (fun t w_ => ∃ (nadu : Option Addr) (ncdu : Nat) (yg3 : Nat) (yg4 : Nat) (yc4 : Nat), t 4 = .pointer (some ⟨w8.heap.size, 0, none⟩) ∧ t 11 = .pointer (some ⟨w57.heap.size, 0, none⟩) ∧ t 13 = .int .i64 (cb.accs.length : Int) ∧ t 14 = .slice nalo (nM cb) nclo ∧ t 15 = .slice nahi (nM cb) nchi ∧ t 19 = .slice (some ⟨yg4, 0, none⟩) ((lossL cb).length + 1) yc4 ∧ w89.heap.size ≤ w_.heap.size ∧ Bun w [rown spEnc 40 2 w.heap.size (.slice (some ⟨yg4, 0, none⟩) ((lossL cb).length + 1) yc4) ((lossL cb) ++ [lossT cb]), rbox yg3 40 #[.int .i64 ((lossT cb).lo), .int .i64 ((lossT cb).hi)], rown intEnc 3 1 w.heap.size (.slice nahi (nM cb) nchi) (mixF (nM cb) (hiF cb T) (T.length - 1) 0), rown intEnc 3 1 w.heap.size (.slice nalo (nM cb) nclo) (mixF (nM cb) (loF cb T) (T.length - 1) 0), rbox w57.heap.size 25 #[.slice qf1 cb.accs.length qf2, .slice qf3 cb.mvs.length qf4], rown accEnc 79 6 k1f (.slice qf1 cb.accs.length qf2) fb.accs, rown mvEnc 76 4 k1f (.slice qf3 cb.mvs.length qf4) fb.mvs, rbox w53.heap.size 40 #[.int .i64 ((lossT cb).lo), .int .i64 ((lossT cb).hi)], rsl spEnc 2 ll_ lh_ (.slice la_ (lossL cb).length lc_) (lossL cb), rown trvEnc 32 3 k1t (.slice (some ⟨gA68, 0, none⟩) T.length tc) T, rtrs T, rbox w8.heap.size 25 #[.slice pa11 cb.accs.length pc12, .slice pa13 cb.mvs.length pc14], rown accEnc 79 6 w5.heap.size (.slice pa11 cb.accs.length pc12) cb.accs, rown mvEnc 76 4 w5.heap.size (.slice pa13 cb.mvs.length pc14) cb.mvs] w_) #[true, true, true, true, true, true] 0 ?st131 ?nx131
      case st131 =>
       rintro t w132 ⟨nadu, ncdu, yg3, yg4, yc4, e4, e11, e13, e14, e15, e19, hsz131, F133⟩
       clear F128
       rw [rng_exact_walk t, e4, e11, e13, e14, e15, e19]
       clear e4 e11 e13 e14 e15 e19
       have hws131 := F133.gb.size
       have yg4l := (F133.ltAt 0 rfl _ rfl).1
       have yg3l := F133.ltAt 1 rfl yg3 rfl
       have yg3b := yg3l.2 rfl
       refine ru_done (by kernel_rfl) ?_
       have Fn_ := ((F133.drop 1 rfl).drop 6 rfl)
       (try dsimp only [List.eraseIdx_cons_succ, List.eraseIdx_cons_zero] at Fn_)
       obtain ⟨w134, hx135, F137, hxs136⟩ := Fn_.name
       (try simp at hxs136)
       rw [hx135]
       clear hx135 F133 Fn_
       go_wp2_with fail
       have hz4 : lossL cb ++ [lossT cb] = lossL cb ++ [lossT cb] ++ spansA (·.op) fb.accs 0 := by simp [spansA]
       rw [hz4] at F137
       clear hz4
       (skip)
       obtain ⟨HI138_, HI1380⟩ : ∃ I : (Nat → Value) → List Deferred → World → Prop, I = (fun t ds wr => ∃ (u : Nat) (vo : Value), t 4 = .pointer (some ⟨w8.heap.size, 0, none⟩) ∧ t 11 = .pointer (some ⟨w57.heap.size, 0, none⟩) ∧ t 13 = .int .i64 (cb.accs.length : Int) ∧ t 14 = .slice nalo (nM cb) nclo ∧ t 15 = .slice nahi (nM cb) nchi ∧ t 19 = vo ∧ t 20 = .int .i64 (u : Int) ∧ u ≤ cb.accs.length ∧ ds = [] ∧ w134.heap.size ≤ wr.heap.size ∧ Bun w [rown spEnc 40 2 w.heap.size vo ((lossL cb ++ [lossT cb]) ++ spansA (·.op) fb.accs u), rown intEnc 3 1 w.heap.size (.slice nahi (nM cb) nchi) (mixF (nM cb) (hiF cb T) (T.length - 1) 0), rown intEnc 3 1 w.heap.size (.slice nalo (nM cb) nclo) (mixF (nM cb) (loF cb T) (T.length - 1) 0), rbox w57.heap.size 25 #[.slice qf1 cb.accs.length qf2, .slice qf3 cb.mvs.length qf4], rown accEnc 79 6 k1f (.slice qf1 cb.accs.length qf2) fb.accs, rown mvEnc 76 4 k1f (.slice qf3 cb.mvs.length qf4) fb.mvs, rsl spEnc 2 ll_ lh_ (.slice la_ (lossL cb).length lc_) (lossL cb), rown trvEnc 32 3 k1t (.slice (some ⟨gA68, 0, none⟩) T.length tc) T, rtrs T, rbox w8.heap.size 25 #[.slice pa11 cb.accs.length pc12, .slice pa13 cb.mvs.length pc14], rown accEnc 79 6 w5.heap.size (.slice pa11 cb.accs.length pc12) cb.accs, rown mvEnc 76 4 w5.heap.size (.slice pa13 cb.mvs.length pc14) cb.mvs] wr) := ⟨_, rfl⟩
       have HI138 := Lib.hid HI1380
       clear HI1380
       refine wp_loopS 243 rfl HI138_ (fun t wr => cb.accs.length - (intOf (t 20)).toNat) ?atStart3 ?round3
       case round3 =>
        intro t ds wr hHid
        rw [HI138.out] at hHid
        obtain ⟨u, vo, e4, e11, e13, e14, e15, e19, e20, hrel⟩ := hHid
        have e : ((List.range 243).map t).toArray = #[t 0, t 1, t 2, t 3, t 4, t 5, t 6, t 7, t 8, t 9, t 10, t 11, t 12, t 13, t 14, t 15, t 16, t 17, t 18, t 19, t 20, t 21, t 22, t 23, t 24, t 25, t 26, t 27, t 28, t 29, t 30, t 31, t 32, t 33, t 34, t 35, t 36, t 37, t 38, t 39, t 40, t 41, t 42, t 43, t 44, t 45, t 46, t 47, t 48, t 49, t 50, t 51, t 52, t 53, t 54, t 55, t 56, t 57, t 58, t 59, t 60, t 61, t 62, t 63, t 64, t 65, t 66, t 67, t 68, t 69, t 70, t 71, t 72, t 73, t 74, t 75, t 76, t 77, t 78, t 79, t 80, t 81, t 82, t 83, t 84, t 85, t 86, t 87, t 88, t 89, t 90, t 91, t 92, t 93, t 94, t 95, t 96, t 97, t 98, t 99, t 100, t 101, t 102, t 103, t 104, t 105, t 106, t 107, t 108, t 109, t 110, t 111, t 112, t 113, t 114, t 115, t 116, t 117, t 118, t 119, t 120, t 121, t 122, t 123, t 124, t 125, t 126, t 127, t 128, t 129, t 130, t 131, t 132, t 133, t 134, t 135, t 136, t 137, t 138, t 139, t 140, t 141, t 142, t 143, t 144, t 145, t 146, t 147, t 148, t 149, t 150, t 151, t 152, t 153, t 154, t 155, t 156, t 157, t 158, t 159, t 160, t 161, t 162, t 163, t 164, t 165, t 166, t 167, t 168, t 169, t 170, t 171, t 172, t 173, t 174, t 175, t 176, t 177, t 178, t 179, t 180, t 181, t 182, t 183, t 184, t 185, t 186, t 187, t 188, t 189, t 190, t 191, t 192, t 193, t 194, t 195, t 196, t 197, t 198, t 199, t 200, t 201, t 202, t 203, t 204, t 205, t 206, t 207, t 208, t 209, t 210, t 211, t 212, t 213, t 214, t 215, t 216, t 217, t 218, t 219, t 220, t 221, t 222, t 223, t 224, t 225, t 226, t 227, t 228, t 229, t 230, t 231, t 232, t 233, t 234, t 235, t 236, t 237, t 238, t 239, t 240, t 241, t 242] := rfl
        (try dsimp only at e)
        rw [e4, e11, e13, e14, e15, e19, e20] at e
        rw [e]
        simp only [e20]
        clear e e4 e11 e13 e14 e15 e19 e20
        obtain ⟨hu0, rfl, hs140, hF139⟩ := hrel
        clear F137
        obtain ⟨w141, rfl⟩ : ∃ x_ : World, x_ = wr := ⟨_, rfl⟩
        by_cases c142 : (u : Int) < (cb.accs.length : Int)
        ·
         have c142H := Lib.hid c142
         obtain ⟨gA143, cA144, e_⟩ := Own.opn (hF139.at 4 rfl : Own accEnc 79 6 k1f _ (.slice qf1 cb.accs.length qf2) fb.accs) (by omega)
         injection e_ with e1_ e2_ e3_
         subst e1_
         clear e2_ e3_
         have hz145 : Hid (fb.accs[u]? = some (ga fb.accs u)) := Lib.hid (ga_at (by omega))
         have hub : u < fb.accs.length := by omega
         have b146 := hF139.bx2 3 rfl
         have ge147 : World.cell? _ ⟨gA143, u * 6 + 2, none⟩ = some (.int .i64 (ga fb.accs u).op.lo) := (by simpa using (Own.sl (hF139.at 4 rfl : Own accEnc 79 6 k1f _ (.slice (some ⟨gA143, 0, none⟩) cb.accs.length qf2) fb.accs) (fun _ => rfl)).cells hz145.out 2 _ rfl)
         have gl148 := cell_lt ge147
         have ge149 : World.cell? _ ⟨gA143, u * 6 + 2 + 1, none⟩ = some (.int .i64 (ga fb.accs u).op.hi) := (by simpa using (Own.sl (hF139.at 4 rfl : Own accEnc 79 6 k1f _ (.slice (some ⟨gA143, 0, none⟩) cb.accs.length qf2) fb.accs) (fun _ => rfl)).cells hz145.out 3 _ rfl)
         go_wp2_with (at_builtin; refine wpList_app _ okSp rfl _ _ rfl w.heap.size vo ((lossL cb ++ [lossT cb]) ++ spansA (·.op) fb.accs u) [(⟨(ga fb.accs u).op.lo, (ga fb.accs u).op.hi⟩ : Sp)] rfl (by exact ((hF139.at 0 rfl : Own spEnc 40 2 w.heap.size _ vo ((lossL cb ++ [lossT cb]) ++ spansA (·.op) fb.accs u))).alloc _) ⟨_, 0, none⟩ 1 1 rfl rfl (by decide) (news_of (Bk.newAt _ _ _ (by simp))) (cb.accs.length + 1 + u + 1) (by rw [List.length_append, List.length_append, dueL_l, spansA_len (by omega)]; rfl) (by omega) (by first | omega | (simp; omega)) _ rfl ?_; intro g150 cap151 w152 hp153; refine Hid.out ?_)
         refine Lib.hid ?_
         have hp153s := hp153.gb.size
         (try simp at hp153s)
         clear b146 ge147 gl148 ge149
         have F154 := ((hF139.alloc (.cells #[.int .i64 ((ga fb.accs u).op.lo), .int .i64 ((ga fb.accs u).op.hi)] 40)).front 0 rfl rfl).app hp153 (by simp)
         clear hF139
         go_wp2_with fail
         rw [sA_step (f := (·.op)) (l := fb.accs) (i := u) (lossL cb ++ [lossT cb]) (by omega)] at F154
         (first | refine ⟨by kernel_rfl, ?_, ?_⟩ | refine ⟨rfl, ?_, ?_⟩ | refine ⟨?_, ?_⟩)
         · rw [HI138.out]; exact ⟨u + 1, _, (by kernel_rfl), (by kernel_rfl), (by kernel_rfl), (by kernel_rfl), (by kernel_rfl), (by kernel_rfl), (by show Value.int .i64 ((u : Int) + 1) = _; simp), (by omega), (by first | rfl | simp), (by first | omega | (simp; done) | (simp; omega)), F154⟩
         · simp [slot, intOf]; omega
        ·
         have c142H := Lib.hid c142
         have c142a : decide ((u : Int) < (cb.accs.length : Int)) = false := dec_f c142
         go_wp2_with fail
         have hue : u = fb.accs.length := by omega
         subst hue
         have hz6 : (lossL cb ++ [lossT cb]) ++ spansA (·.op) fb.accs fb.accs.length = ((lossL cb ++ [lossT cb]) ++ spansA (·.op) fb.accs fb.accs.length) ++ spansA (·.cl) fb.accs 0 := by simp [spansA]
         rw [hz6] at hF139
         clear hz6
         (skip)
         obtain ⟨HI155_, HI1550⟩ : ∃ I : (Nat → Value) → List Deferred → World → Prop, I = (fun t ds wr => ∃ (v : Nat) (vo : Value), t 4 = .pointer (some ⟨w8.heap.size, 0, none⟩) ∧ t 11 = .pointer (some ⟨w57.heap.size, 0, none⟩) ∧ t 13 = .int .i64 (cb.accs.length : Int) ∧ t 14 = .slice nalo (nM cb) nclo ∧ t 15 = .slice nahi (nM cb) nchi ∧ t 19 = vo ∧ t 21 = .int .i64 (v : Int) ∧ v ≤ cb.accs.length ∧ ds = [] ∧ w141.heap.size ≤ wr.heap.size ∧ Bun w [rown spEnc 40 2 w.heap.size vo (((lossL cb ++ [lossT cb]) ++ spansA (·.op) fb.accs fb.accs.length) ++ spansA (·.cl) fb.accs v), rown intEnc 3 1 w.heap.size (.slice nahi (nM cb) nchi) (mixF (nM cb) (hiF cb T) (T.length - 1) 0), rown intEnc 3 1 w.heap.size (.slice nalo (nM cb) nclo) (mixF (nM cb) (loF cb T) (T.length - 1) 0), rbox w57.heap.size 25 #[.slice qf1 cb.accs.length qf2, .slice qf3 cb.mvs.length qf4], rown accEnc 79 6 k1f (.slice qf1 cb.accs.length qf2) fb.accs, rown mvEnc 76 4 k1f (.slice qf3 cb.mvs.length qf4) fb.mvs, rsl spEnc 2 ll_ lh_ (.slice la_ (lossL cb).length lc_) (lossL cb), rown trvEnc 32 3 k1t (.slice (some ⟨gA68, 0, none⟩) T.length tc) T, rtrs T, rbox w8.heap.size 25 #[.slice pa11 cb.accs.length pc12, .slice pa13 cb.mvs.length pc14], rown accEnc 79 6 w5.heap.size (.slice pa11 cb.accs.length pc12) cb.accs, rown mvEnc 76 4 w5.heap.size (.slice pa13 cb.mvs.length pc14) cb.mvs] wr) := ⟨_, rfl⟩
         have HI155 := Lib.hid HI1550
         clear HI1550
         refine wp_loopS 243 rfl HI155_ (fun t wr => cb.accs.length - (intOf (t 21)).toNat) ?atStart4 ?round4
         case round4 =>
          intro t ds wr hHid
          rw [HI155.out] at hHid
          obtain ⟨v, vo, e4, e11, e13, e14, e15, e19, e21, hrel⟩ := hHid
          have e : ((List.range 243).map t).toArray = #[t 0, t 1, t 2, t 3, t 4, t 5, t 6, t 7, t 8, t 9, t 10, t 11, t 12, t 13, t 14, t 15, t 16, t 17, t 18, t 19, t 20, t 21, t 22, t 23, t 24, t 25, t 26, t 27, t 28, t 29, t 30, t 31, t 32, t 33, t 34, t 35, t 36, t 37, t 38, t 39, t 40, t 41, t 42, t 43, t 44, t 45, t 46, t 47, t 48, t 49, t 50, t 51, t 52, t 53, t 54, t 55, t 56, t 57, t 58, t 59, t 60, t 61, t 62, t 63, t 64, t 65, t 66, t 67, t 68, t 69, t 70, t 71, t 72, t 73, t 74, t 75, t 76, t 77, t 78, t 79, t 80, t 81, t 82, t 83, t 84, t 85, t 86, t 87, t 88, t 89, t 90, t 91, t 92, t 93, t 94, t 95, t 96, t 97, t 98, t 99, t 100, t 101, t 102, t 103, t 104, t 105, t 106, t 107, t 108, t 109, t 110, t 111, t 112, t 113, t 114, t 115, t 116, t 117, t 118, t 119, t 120, t 121, t 122, t 123, t 124, t 125, t 126, t 127, t 128, t 129, t 130, t 131, t 132, t 133, t 134, t 135, t 136, t 137, t 138, t 139, t 140, t 141, t 142, t 143, t 144, t 145, t 146, t 147, t 148, t 149, t 150, t 151, t 152, t 153, t 154, t 155, t 156, t 157, t 158, t 159, t 160, t 161, t 162, t 163, t 164, t 165, t 166, t 167, t 168, t 169, t 170, t 171, t 172, t 173, t 174, t 175, t 176, t 177, t 178, t 179, t 180, t 181, t 182, t 183, t 184, t 185, t 186, t 187, t 188, t 189, t 190, t 191, t 192, t 193, t 194, t 195, t 196, t 197, t 198, t 199, t 200, t 201, t 202, t 203, t 204, t 205, t 206, t 207, t 208, t 209, t 210, t 211, t 212, t 213, t 214, t 215, t 216, t 217, t 218, t 219, t 220, t 221, t 222, t 223, t 224, t 225, t 226, t 227, t 228, t 229, t 230, t 231, t 232, t 233, t 234, t 235, t 236, t 237, t 238, t 239, t 240, t 241, t 242] := rfl
          (try dsimp only at e)
          rw [e4, e11, e13, e14, e15, e19, e21] at e
          rw [e]
          simp only [e21]
          clear e e4 e11 e13 e14 e15 e19 e21
          obtain ⟨hv0, rfl, hs157, hF156⟩ := hrel
          clear hF139
          obtain ⟨w158, rfl⟩ : ∃ x_ : World, x_ = wr := ⟨_, rfl⟩
          by_cases c159 : (v : Int) < (cb.accs.length : Int)
          ·
           have c159H := Lib.hid c159
           obtain ⟨gA160, cA161, e_⟩ := Own.opn (hF156.at 4 rfl : Own accEnc 79 6 k1f _ (.slice qf1 cb.accs.length qf2) fb.accs) (by omega)
           injection e_ with e1_ e2_ e3_
           subst e1_
           clear e2_ e3_
           have hz162 : Hid (fb.accs[v]? = some (ga fb.accs v)) := Lib.hid (ga_at (by omega))
           have hvb : v < fb.accs.length := by omega
           have b163 := hF156.bx2 3 rfl
           have ge164 : World.cell? _ ⟨gA160, v * 6 + 4, none⟩ = some (.int .i64 (ga fb.accs v).cl.lo) := (by simpa using (Own.sl (hF156.at 4 rfl : Own accEnc 79 6 k1f _ (.slice (some ⟨gA160, 0, none⟩) cb.accs.length qf2) fb.accs) (fun _ => rfl)).cells hz162.out 4 _ rfl)
           have gl165 := cell_lt ge164
           have ge166 : World.cell? _ ⟨gA160, v * 6 + 4 + 1, none⟩ = some (.int .i64 (ga fb.accs v).cl.hi) := (by simpa using (Own.sl (hF156.at 4 rfl : Own accEnc 79 6 k1f _ (.slice (some ⟨gA160, 0, none⟩) cb.accs.length qf2) fb.accs) (fun _ => rfl)).cells hz162.out 5 _ rfl)
           go_wp2_with (at_builtin; refine wpList_app _ okSp rfl _ _ rfl w.heap.size vo (((lossL cb ++ [lossT cb]) ++ spansA (·.op) fb.accs fb.accs.length) ++ spansA (·.cl) fb.accs v) [(⟨(ga fb.accs v).cl.lo, (ga fb.accs v).cl.hi⟩ : Sp)] rfl (by exact ((hF156.at 0 rfl : Own spEnc 40 2 w.heap.size _ vo (((lossL cb ++ [lossT cb]) ++ spansA (·.op) fb.accs fb.accs.length) ++ spansA (·.cl) fb.accs v))).alloc _) ⟨_, 0, none⟩ 1 1 rfl rfl (by decide) (news_of (Bk.newAt _ _ _ (by simp))) (cb.accs.length + 1 + fb.accs.length + v + 1) (by rw [List.length_append, List.length_append, List.length_append, dueL_l, spansA_len (by omega), spansA_len (by omega)]; rfl) (by omega) (by first | omega | (simp; omega)) _ rfl ?_; intro g167 cap168 w169 hp170; refine Hid.out ?_)
           refine Lib.hid ?_
           have hp170s := hp170.gb.size
           (try simp at hp170s)
           clear b163 ge164 gl165 ge166
           have F171 := ((hF156.alloc (.cells #[.int .i64 ((ga fb.accs v).cl.lo), .int .i64 ((ga fb.accs v).cl.hi)] 40)).front 0 rfl rfl).app hp170 (by simp)
           clear hF156
           go_wp2_with fail
           rw [sA_step (f := (·.cl)) (l := fb.accs) (i := v) ((lossL cb ++ [lossT cb]) ++ spansA (·.op) fb.accs fb.accs.length) (by omega)] at F171
           (first | refine ⟨by kernel_rfl, ?_, ?_⟩ | refine ⟨rfl, ?_, ?_⟩ | refine ⟨?_, ?_⟩)
           · rw [HI155.out]; exact ⟨v + 1, _, (by kernel_rfl), (by kernel_rfl), (by kernel_rfl), (by kernel_rfl), (by kernel_rfl), (by kernel_rfl), (by show Value.int .i64 ((v : Int) + 1) = _; simp), (by omega), (by first | rfl | simp), (by first | omega | (simp; done) | (simp; omega)), F171⟩
           · simp [slot, intOf]; omega
          ·
           have c159H := Lib.hid c159
           have c159a : decide ((v : Int) < (cb.accs.length : Int)) = false := dec_f c159
           go_wp2_with fail
           have hve : v = fb.accs.length := by omega
           subst hve
           have hz8 : ((lossL cb ++ [lossT cb]) ++ spansA (·.op) fb.accs fb.accs.length) ++ spansA (·.cl) fb.accs fb.accs.length = (((lossL cb ++ [lossT cb]) ++ spansA (·.op) fb.accs fb.accs.length) ++ spansA (·.cl) fb.accs fb.accs.length) ++ spansM fb.mvs 0 := by simp [spansM]
           rw [hz8] at hF156
           clear hz8
           (skip)
           obtain ⟨HI172_, HI1720⟩ : ∃ I : (Nat → Value) → List Deferred → World → Prop, I = (fun t ds wr => ∃ (q : Nat) (vo : Value), t 4 = .pointer (some ⟨w8.heap.size, 0, none⟩) ∧ t 11 = .pointer (some ⟨w57.heap.size, 0, none⟩) ∧ t 14 = .slice nalo (nM cb) nclo ∧ t 15 = .slice nahi (nM cb) nchi ∧ t 19 = vo ∧ t 22 = .int .i64 (q : Int) ∧ q ≤ cb.mvs.length ∧ ds = [] ∧ w158.heap.size ≤ wr.heap.size ∧ Bun w [rown spEnc 40 2 w.heap.size vo ((((lossL cb ++ [lossT cb]) ++ spansA (·.op) fb.accs fb.accs.length) ++ spansA (·.cl) fb.accs fb.accs.length) ++ spansM fb.mvs q), rown intEnc 3 1 w.heap.size (.slice nahi (nM cb) nchi) (mixF (nM cb) (hiF cb T) (T.length - 1) 0), rown intEnc 3 1 w.heap.size (.slice nalo (nM cb) nclo) (mixF (nM cb) (loF cb T) (T.length - 1) 0), rbox w57.heap.size 25 #[.slice qf1 cb.accs.length qf2, .slice qf3 cb.mvs.length qf4], rown accEnc 79 6 k1f (.slice qf1 cb.accs.length qf2) fb.accs, rown mvEnc 76 4 k1f (.slice qf3 cb.mvs.length qf4) fb.mvs, rsl spEnc 2 ll_ lh_ (.slice la_ (lossL cb).length lc_) (lossL cb), rown trvEnc 32 3 k1t (.slice (some ⟨gA68, 0, none⟩) T.length tc) T, rtrs T, rbox w8.heap.size 25 #[.slice pa11 cb.accs.length pc12, .slice pa13 cb.mvs.length pc14], rown accEnc 79 6 w5.heap.size (.slice pa11 cb.accs.length pc12) cb.accs, rown mvEnc 76 4 w5.heap.size (.slice pa13 cb.mvs.length pc14) cb.mvs] wr) := ⟨_, rfl⟩
           have HI172 := Lib.hid HI1720
           clear HI1720
           refine wp_loopS 243 rfl HI172_ (fun t wr => cb.mvs.length - (intOf (t 22)).toNat) ?atStart5 ?round5
           case round5 =>
            intro t ds wr hHid
            rw [HI172.out] at hHid
            obtain ⟨q, vo, e4, e11, e14, e15, e19, e22, hrel⟩ := hHid
            have e : ((List.range 243).map t).toArray = #[t 0, t 1, t 2, t 3, t 4, t 5, t 6, t 7, t 8, t 9, t 10, t 11, t 12, t 13, t 14, t 15, t 16, t 17, t 18, t 19, t 20, t 21, t 22, t 23, t 24, t 25, t 26, t 27, t 28, t 29, t 30, t 31, t 32, t 33, t 34, t 35, t 36, t 37, t 38, t 39, t 40, t 41, t 42, t 43, t 44, t 45, t 46, t 47, t 48, t 49, t 50, t 51, t 52, t 53, t 54, t 55, t 56, t 57, t 58, t 59, t 60, t 61, t 62, t 63, t 64, t 65, t 66, t 67, t 68, t 69, t 70, t 71, t 72, t 73, t 74, t 75, t 76, t 77, t 78, t 79, t 80, t 81, t 82, t 83, t 84, t 85, t 86, t 87, t 88, t 89, t 90, t 91, t 92, t 93, t 94, t 95, t 96, t 97, t 98, t 99, t 100, t 101, t 102, t 103, t 104, t 105, t 106, t 107, t 108, t 109, t 110, t 111, t 112, t 113, t 114, t 115, t 116, t 117, t 118, t 119, t 120, t 121, t 122, t 123, t 124, t 125, t 126, t 127, t 128, t 129, t 130, t 131, t 132, t 133, t 134, t 135, t 136, t 137, t 138, t 139, t 140, t 141, t 142, t 143, t 144, t 145, t 146, t 147, t 148, t 149, t 150, t 151, t 152, t 153, t 154, t 155, t 156, t 157, t 158, t 159, t 160, t 161, t 162, t 163, t 164, t 165, t 166, t 167, t 168, t 169, t 170, t 171, t 172, t 173, t 174, t 175, t 176, t 177, t 178, t 179, t 180, t 181, t 182, t 183, t 184, t 185, t 186, t 187, t 188, t 189, t 190, t 191, t 192, t 193, t 194, t 195, t 196, t 197, t 198, t 199, t 200, t 201, t 202, t 203, t 204, t 205, t 206, t 207, t 208, t 209, t 210, t 211, t 212, t 213, t 214, t 215, t 216, t 217, t 218, t 219, t 220, t 221, t 222, t 223, t 224, t 225, t 226, t 227, t 228, t 229, t 230, t 231, t 232, t 233, t 234, t 235, t 236, t 237, t 238, t 239, t 240, t 241, t 242] := rfl
            (try dsimp only at e)
            rw [e4, e11, e14, e15, e19, e22] at e
            rw [e]
            simp only [e22]
            clear e e4 e11 e14 e15 e19 e22
            obtain ⟨hq0, rfl, hs174, hF173⟩ := hrel
            clear hF156
            obtain ⟨w175, rfl⟩ : ∃ x_ : World, x_ = wr := ⟨_, rfl⟩
            by_cases c176 : (q : Int) < (cb.mvs.length : Int)
            ·
             have c176H := Lib.hid c176
             obtain ⟨gA177, cA178, e_⟩ := Own.opn (hF173.at 5 rfl : Own mvEnc 76 4 k1f _ (.slice qf3 cb.mvs.length qf4) fb.mvs) (by omega)
             injection e_ with e1_ e2_ e3_
             subst e1_
             clear e2_ e3_
             have hz179 : Hid (fb.mvs[q]? = some (gm fb.mvs q)) := Lib.hid (gm_at (by omega))
             have hqb : q < fb.mvs.length := by omega
             have b180 := hF173.bx2 3 rfl
             have b181 := hF173.bx2 9 rfl
             have ge182 : World.cell? _ ⟨gA177, q * 4 + 2, none⟩ = some (.int .i64 (gm fb.mvs q).li.lo) := (by simpa using (Own.sl (hF173.at 5 rfl : Own mvEnc 76 4 k1f _ (.slice (some ⟨gA177, 0, none⟩) cb.mvs.length qf4) fb.mvs) (fun _ => rfl)).cells hz179.out 2 _ rfl)
             have gl183 := cell_lt ge182
             have ge184 : World.cell? _ ⟨gA177, q * 4 + 2 + 1, none⟩ = some (.int .i64 (gm fb.mvs q).li.hi) := (by simpa using (Own.sl (hF173.at 5 rfl : Own mvEnc 76 4 k1f _ (.slice (some ⟨gA177, 0, none⟩) cb.mvs.length qf4) fb.mvs) (fun _ => rfl)).cells hz179.out 3 _ rfl)
             go_wp2_with (at_builtin; refine wpList_app _ okSp rfl _ _ rfl w.heap.size vo ((((lossL cb ++ [lossT cb]) ++ spansA (·.op) fb.accs fb.accs.length) ++ spansA (·.cl) fb.accs fb.accs.length) ++ spansM fb.mvs q) [(⟨(gm fb.mvs q).li.lo, (gm fb.mvs q).li.hi⟩ : Sp)] rfl (by exact ((hF173.at 0 rfl : Own spEnc 40 2 w.heap.size _ vo ((((lossL cb ++ [lossT cb]) ++ spansA (·.op) fb.accs fb.accs.length) ++ spansA (·.cl) fb.accs fb.accs.length) ++ spansM fb.mvs q))).alloc _) ⟨_, 0, none⟩ 1 1 rfl rfl (by decide) (news_of (Bk.newAt _ _ _ (by simp))) (cb.accs.length + 1 + fb.accs.length + fb.accs.length + q + 1) (by rw [List.length_append, List.length_append, List.length_append, List.length_append, dueL_l, spansA_len (by omega), spansA_len (by omega), spansM_len (by omega)]; rfl) (by omega) (by first | omega | (simp; omega)) _ rfl ?_; intro g185 cap186 w187 hp188; refine Hid.out ?_)
             refine Lib.hid ?_
             have hp188s := hp188.gb.size
             (try simp at hp188s)
             clear b180 b181 ge182 gl183 ge184
             have F189 := ((hF173.alloc (.cells #[.int .i64 ((gm fb.mvs q).li.lo), .int .i64 ((gm fb.mvs q).li.hi)] 40)).front 0 rfl rfl).app hp188 (by simp)
             clear hF173
             go_wp2_with fail
             rw [sM_step (l := fb.mvs) (i := q) (((lossL cb ++ [lossT cb]) ++ spansA (·.op) fb.accs fb.accs.length) ++ spansA (·.cl) fb.accs fb.accs.length) (by omega)] at F189
             (first | refine ⟨by kernel_rfl, ?_, ?_⟩ | refine ⟨rfl, ?_, ?_⟩ | refine ⟨?_, ?_⟩)
             · rw [HI172.out]; exact ⟨q + 1, _, (by kernel_rfl), (by kernel_rfl), (by kernel_rfl), (by kernel_rfl), (by kernel_rfl), (by show Value.int .i64 ((q : Int) + 1) = _; simp), (by omega), (by first | rfl | simp), (by first | omega | (simp; done) | (simp; omega)), F189⟩
             · simp [slot, intOf]; omega
            ·
             have c176H := Lib.hid c176
             have c176a : decide ((q : Int) < (cb.mvs.length : Int)) = false := dec_f c176
             have b190 := hF173.bx2 9 rfl
             go_wp2_with fail
             clear b190
             have hqe : q = fb.mvs.length := by omega
             subst hqe
             have hzd : (((lossL cb ++ [lossT cb]) ++ spansA (·.op) fb.accs fb.accs.length) ++ spansA (·.cl) fb.accs fb.accs.length) ++ spansM fb.mvs fb.mvs.length = dueL cb fb := by simp only [dueL, spansL, List.append_assoc]
             rw [hzd] at hF173
             clear hzd
             obtain ⟨ca191, cc192, e_⟩ := (Own.sl (hF173.at 0 rfl : Own spEnc 40 2 w.heap.size _ vo (dueL cb fb)) (fun _ => rfl)).any
             subst e_
             have hdl : (dueL cb fb).length ≤ nM cb ∧ nM cb ≤ (dueL cb fb).length := by have h_ := dueL_len (b := cb) (fb := fb) ⟨by omega, by omega⟩; omega
             (skip)
             obtain ⟨HI193_, HI1930⟩ : ∃ I : (Nat → Value) → List Deferred → World → Prop, I = (fun t ds wr => ∃ (j : Nat), t 14 = .slice nalo (nM cb) nclo ∧ t 15 = .slice nahi (nM cb) nchi ∧ t 19 = .slice ca191 ((dueL cb fb).length) cc192 ∧ t 23 = .int .i64 (j : Int) ∧ j ≤ (dueL cb fb).length ∧ ds = [] ∧ w175.heap.size ≤ wr.heap.size ∧ Bun w [rown spEnc 40 2 w.heap.size (.slice ca191 (dueL cb fb).length cc192) (dueL cb fb), rown intEnc 3 1 w.heap.size (.slice nahi (nM cb) nchi) (mixF (nM cb) (hiF cb T) (T.length - 1) 0), rown intEnc 3 1 w.heap.size (.slice nalo (nM cb) nclo) (mixF (nM cb) (loF cb T) (T.length - 1) 0), rown accEnc 79 6 k1f (.slice qf1 cb.accs.length qf2) fb.accs, rown mvEnc 76 4 k1f (.slice qf3 cb.mvs.length qf4) fb.mvs, rsl spEnc 2 ll_ lh_ (.slice la_ (lossL cb).length lc_) (lossL cb), rown trvEnc 32 3 k1t (.slice (some ⟨gA68, 0, none⟩) T.length tc) T, rtrs T, rown accEnc 79 6 w5.heap.size (.slice pa11 cb.accs.length pc12) cb.accs, rown mvEnc 76 4 w5.heap.size (.slice pa13 cb.mvs.length pc14) cb.mvs] wr) := ⟨_, rfl⟩
             have HI193 := Lib.hid HI1930
             clear HI1930
             refine wp_loopS 243 rfl HI193_ (fun t wr => (dueL cb fb).length - (intOf (t 23)).toNat) ?atStart6 ?round6
             case round6 =>
              intro t ds wr hHid
              rw [HI193.out] at hHid
              obtain ⟨j, e14, e15, e19, e23, hrel⟩ := hHid
              have e : ((List.range 243).map t).toArray = #[t 0, t 1, t 2, t 3, t 4, t 5, t 6, t 7, t 8, t 9, t 10, t 11, t 12, t 13, t 14, t 15, t 16, t 17, t 18, t 19, t 20, t 21, t 22, t 23, t 24, t 25, t 26, t 27, t 28, t 29, t 30, t 31, t 32, t 33, t 34, t 35, t 36, t 37, t 38, t 39, t 40, t 41, t 42, t 43, t 44, t 45, t 46, t 47, t 48, t 49, t 50, t 51, t 52, t 53, t 54, t 55, t 56, t 57, t 58, t 59, t 60, t 61, t 62, t 63, t 64, t 65, t 66, t 67, t 68, t 69, t 70, t 71, t 72, t 73, t 74, t 75, t 76, t 77, t 78, t 79, t 80, t 81, t 82, t 83, t 84, t 85, t 86, t 87, t 88, t 89, t 90, t 91, t 92, t 93, t 94, t 95, t 96, t 97, t 98, t 99, t 100, t 101, t 102, t 103, t 104, t 105, t 106, t 107, t 108, t 109, t 110, t 111, t 112, t 113, t 114, t 115, t 116, t 117, t 118, t 119, t 120, t 121, t 122, t 123, t 124, t 125, t 126, t 127, t 128, t 129, t 130, t 131, t 132, t 133, t 134, t 135, t 136, t 137, t 138, t 139, t 140, t 141, t 142, t 143, t 144, t 145, t 146, t 147, t 148, t 149, t 150, t 151, t 152, t 153, t 154, t 155, t 156, t 157, t 158, t 159, t 160, t 161, t 162, t 163, t 164, t 165, t 166, t 167, t 168, t 169, t 170, t 171, t 172, t 173, t 174, t 175, t 176, t 177, t 178, t 179, t 180, t 181, t 182, t 183, t 184, t 185, t 186, t 187, t 188, t 189, t 190, t 191, t 192, t 193, t 194, t 195, t 196, t 197, t 198, t 199, t 200, t 201, t 202, t 203, t 204, t 205, t 206, t 207, t 208, t 209, t 210, t 211, t 212, t 213, t 214, t 215, t 216, t 217, t 218, t 219, t 220, t 221, t 222, t 223, t 224, t 225, t 226, t 227, t 228, t 229, t 230, t 231, t 232, t 233, t 234, t 235, t 236, t 237, t 238, t 239, t 240, t 241, t 242] := rfl
              (try dsimp only at e)
              rw [e14, e15, e19, e23] at e
              rw [e]
              simp only [e23]
              clear e e14 e15 e19 e23
              obtain ⟨hj0, rfl, hs195, hF194⟩ := hrel
              clear hF173
              obtain ⟨w196, rfl⟩ : ∃ x_ : World, x_ = wr := ⟨_, rfl⟩
              by_cases c197 : (j : Int) < ((dueL cb fb).length : Int)
              ·
               have c197H := Lib.hid c197
               obtain ⟨gA198, cA199, e_⟩ := Own.opn (hF194.at 0 rfl : Own spEnc 40 2 w.heap.size _ (.slice ca191 (dueL cb fb).length cc192) (dueL cb fb)) (by omega)
               injection e_ with e1_ e2_ e3_
               subst e1_
               clear e2_ e3_
               obtain ⟨gA200, cA201, e_⟩ := Own.opn (hF194.at 2 rfl : Own intEnc 3 1 w.heap.size _ (.slice nalo (nM cb) nclo) (mixF (nM cb) (loF cb T) (T.length - 1) 0)) (by rw [mixF_len]; omega)
               injection e_ with e1_ e2_ e3_
               subst e1_
               clear e2_ e3_
               obtain ⟨gA202, cA203, e_⟩ := Own.opn (hF194.at 1 rfl : Own intEnc 3 1 w.heap.size _ (.slice nahi (nM cb) nchi) (mixF (nM cb) (hiF cb T) (T.length - 1) 0)) (by rw [mixF_len]; omega)
               injection e_ with e1_ e2_ e3_
               subst e1_
               clear e2_ e3_
               have hjN : j < nM cb := by omega
               have hz204 : Hid ((dueL cb fb)[j]? = some (⟨(loF cb T j (T.length - 1)), (hiF cb T j (T.length - 1))⟩ : Sp)) := Lib.hid (due_at HOK.out HCM.out HT.out HFB.out hjN)
               have hz205 : Hid ((mixF (nM cb) (loF cb T) (T.length - 1) 0)[j]? = some (loF cb T j (T.length - 1))) := Lib.hid (mixF_zero hjN)
               have hz206 : Hid ((mixF (nM cb) (hiF cb T) (T.length - 1) 0)[j]? = some (hiF cb T j (T.length - 1))) := Lib.hid (mixF_zero hjN)
               go_wp2_with fail
               have F207 := hF194.drew
               clear hF194
               refine ru_begin (fun W => W.cell? ⟨gA198, j * 2, none⟩ = some (.int .i64 (loF cb T j (T.length - 1))) ∧ W.cell? ⟨gA198, j * 2 + 1, none⟩ = some (.int .i64 (hiF cb T j (T.length - 1))) ∧ W.cell? ⟨gA200, j, none⟩ = some (.int .i64 (loF cb T j (T.length - 1))) ∧ W.cell? ⟨gA202, j, none⟩ = some (.int .i64 (hiF cb T j (T.length - 1)))) 13 (by kernel_rfl) ?_ ?_
               · exact ⟨(by simpa using (Own.sl (F207.at 0 rfl : Own spEnc 40 2 w.heap.size _ (.slice (some ⟨gA198, 0, none⟩) (dueL cb fb).length cc192) (dueL cb fb)) (fun _ => rfl)).cells hz204.out 0 _ rfl), (by simpa using (Own.sl (F207.at 0 rfl : Own spEnc 40 2 w.heap.size _ (.slice (some ⟨gA198, 0, none⟩) (dueL cb fb).length cc192) (dueL cb fb)) (fun _ => rfl)).cells hz204.out 1 _ rfl), (by simpa using (Own.sl (F207.at 2 rfl : Own intEnc 3 1 w.heap.size _ (.slice (some ⟨gA200, 0, none⟩) (nM cb) nclo) (mixF (nM cb) (loF cb T) (T.length - 1) 0)) (fun _ => rfl)).cells hz205.out 0 _ rfl), (by simpa using (Own.sl (F207.at 1 rfl : Own intEnc 3 1 w.heap.size _ (.slice (some ⟨gA202, 0, none⟩) (nM cb) nchi) (mixF (nM cb) (hiF cb T) (T.length - 1) 0)) (fun _ => rfl)).cells hz206.out 0 _ rfl)⟩
               obtain ⟨wd209, hwd_⟩ : ∃ x : World, w196.drew = x := ⟨_, rfl⟩
               rw [hwd_] at F207 ⊢
               have wd209s : w196.heap.size ≤ wd209.heap.size := by rw [← hwd_]; exact Nat.le_refl _
               clear hwd_
               have hS208 := (And.intro ((by simpa using (Own.sl (F207.at 0 rfl : Own spEnc 40 2 w.heap.size _ (.slice (some ⟨gA198, 0, none⟩) (dueL cb fb).length cc192) (dueL cb fb)) (fun _ => rfl)).cells hz204.out 0 _ rfl)) (And.intro ((by simpa using (Own.sl (F207.at 0 rfl : Own spEnc 40 2 w.heap.size _ (.slice (some ⟨gA198, 0, none⟩) (dueL cb fb).length cc192) (dueL cb fb)) (fun _ => rfl)).cells hz204.out 1 _ rfl)) (And.intro ((by simpa using (Own.sl (F207.at 2 rfl : Own intEnc 3 1 w.heap.size _ (.slice (some ⟨gA200, 0, none⟩) (nM cb) nclo) (mixF (nM cb) (loF cb T) (T.length - 1) 0)) (fun _ => rfl)).cells hz205.out 0 _ rfl)) ((by simpa using (Own.sl (F207.at 1 rfl : Own intEnc 3 1 w.heap.size _ (.slice (some ⟨gA202, 0, none⟩) (nM cb) nchi) (mixF (nM cb) (hiF cb T) (T.length - 1) 0)) (fun _ => rfl)).cells hz206.out 0 _ rfl)))))
               refine ru_t 0 [3, 2] ?_
               refine ru_t 1 [3, 2] ?_
               refine ru_t 2 [3] ?_
               refine ru_t 3 [] ?_
               refine ru_t 4 [12, 7, 6] ?_
               refine ru_t 5 [12, 7, 6] ?_
               refine ru_t 6 [12, 7] ?_
               refine ru_t 7 [12] ?_
               refine ru_t 8 [12, 11, 10] ?_
               refine ru_t 9 [12, 11, 10] ?_
               refine ru_t 10 [12, 11] ?_
               refine ru_t 11 [12] ?_
               (try simp only [Act.put, List.setIfInBounds_toArray, List.set_cons_zero, List.set_cons_succ])
               clear hS208
               refine ru_one 12 rfl (by kernel_rfl) (fun K hK => ?_)
               go_simp
               refine (span_c _ _ _).mono ?_
               rintro e w212 ⟨rfl, hg210⟩
               have hg210s := hg210.size
               (try simp at hg210s)
               have F213 := F207.gn hg210
               clear F207
               refine ru_back hK (by exact ⟨(by simpa using (Own.sl (F213.at 0 rfl : Own spEnc 40 2 w.heap.size _ (.slice (some ⟨gA198, 0, none⟩) (dueL cb fb).length cc192) (dueL cb fb)) (fun _ => rfl)).cells hz204.out 0 _ rfl), (by simpa using (Own.sl (F213.at 0 rfl : Own spEnc 40 2 w.heap.size _ (.slice (some ⟨gA198, 0, none⟩) (dueL cb fb).length cc192) (dueL cb fb)) (fun _ => rfl)).cells hz204.out 1 _ rfl), (by simpa using (Own.sl (F213.at 2 rfl : Own intEnc 3 1 w.heap.size _ (.slice (some ⟨gA200, 0, none⟩) (nM cb) nclo) (mixF (nM cb) (loF cb T) (T.length - 1) 0)) (fun _ => rfl)).cells hz205.out 0 _ rfl), (by simpa using (Own.sl (F213.at 1 rfl : Own intEnc 3 1 w.heap.size _ (.slice (some ⟨gA202, 0, none⟩) (nM cb) nchi) (mixF (nM cb) (hiF cb T) (T.length - 1) 0)) (fun _ => rfl)).cells hz206.out 0 _ rfl)⟩) (fun hHeld => ?_)
               clear hK K
               (try simp only [Act.put, List.setIfInBounds_toArray, List.set_cons_zero, List.set_cons_succ])
               refine ru_one 13 rfl (by kernel_rfl) (fun K hK => ?_)
               go_simp
               refine ru_back_late hK (by kernel_rfl) ?_
               clear hK K
               (try simp only [Act.put, List.setIfInBounds_toArray, List.set_cons_zero, List.set_cons_succ])
               refine ru_done (by kernel_rfl) ?_
               have Fn_ := F213
               (try dsimp only [List.eraseIdx_cons_succ, List.eraseIdx_cons_zero] at Fn_)
               obtain ⟨w214, hx215, F217, hxs216⟩ := Fn_.name
               (try simp at hxs216)
               rw [hx215]
               clear hx215 F213 Fn_
               go_wp2_with fail
               (first | refine ⟨by kernel_rfl, ?_, ?_⟩ | refine ⟨rfl, ?_, ?_⟩ | refine ⟨?_, ?_⟩)
               · rw [HI193.out]; exact ⟨j + 1, (by kernel_rfl), (by kernel_rfl), (by kernel_rfl), (by show Value.int .i64 ((j : Int) + 1) = _; simp), (by omega), (by first | rfl | simp), (by first | omega | (simp; done) | (simp; omega)), F217⟩
               · simp [slot, intOf]; omega
              ·
               have c197H := Lib.hid c197
               have c197a : decide ((j : Int) < ((dueL cb fb).length : Int)) = false := dec_f c197
               go_wp2_with fail
               refine (awake_c _).mono ?_
               rintro e w220 ⟨rfl, hg218⟩
               have hg218s := hg218.size
               (try simp at hg218s)
               have F221 := hF194.gn hg218
               clear hF194
               clear hg218
               go_wp2_with fail
               go_ret
               exact ⟨rfl, F221.gb⟩
             case atStart6 =>
              rw [HI193.out]
              exact ⟨0, (by kernel_rfl), (by kernel_rfl), (by kernel_rfl), rfl, Nat.zero_le _, rfl, (by first | exact Nat.le_refl _ | omega | (simp; done) | (simp; omega)), ((hF173.drop 3 rfl).drop 8 rfl)⟩
           case atStart5 =>
            rw [HI172.out]
            exact ⟨0, _, (by kernel_rfl), (by kernel_rfl), (by kernel_rfl), (by kernel_rfl), rfl, rfl, Nat.zero_le _, rfl, (by first | exact Nat.le_refl _ | omega | (simp; done) | (simp; omega)), hF156⟩
         case atStart4 =>
          rw [HI155.out]
          exact ⟨0, _, (by kernel_rfl), (by kernel_rfl), (by kernel_rfl), (by kernel_rfl), (by kernel_rfl), rfl, rfl, Nat.zero_le _, rfl, (by first | exact Nat.le_refl _ | omega | (simp; done) | (simp; omega)), hF139⟩
       case atStart3 =>
        rw [HI138.out]
        exact ⟨0, _, (by kernel_rfl), (by kernel_rfl), (by kernel_rfl), (by kernel_rfl), (by kernel_rfl), rfl, rfl, Nat.zero_le _, rfl, (by first | exact Nat.le_refl _ | omega | (simp; done) | (simp; omega)), F137⟩
      intro hZ131
      refine ru_state 243 (fun t w_ => ∃ (nadu : Option Addr) (ncdu : Nat) (yg3 : Nat) (yg4 : Nat) (yc4 : Nat), t 4 = .pointer (some ⟨w8.heap.size, 0, none⟩) ∧ t 11 = .pointer (some ⟨w57.heap.size, 0, none⟩) ∧ t 13 = .int .i64 (cb.accs.length : Int) ∧ t 14 = .slice nalo (nM cb) nclo ∧ t 15 = .slice nahi (nM cb) nchi ∧ t 177 = .slice (some ⟨yg4, 0, none⟩) ((lossL cb).length + 1) yc4 ∧ w89.heap.size ≤ w_.heap.size ∧ Bun w [rown spEnc 40 2 w.heap.size (.slice (some ⟨yg4, 0, none⟩) ((lossL cb).length + 1) yc4) ((lossL cb) ++ [lossT cb]), rbox yg3 40 #[.int .i64 ((lossT cb).lo), .int .i64 ((lossT cb).hi)], rown intEnc 3 1 w.heap.size (.slice nahi (nM cb) nchi) (mixF (nM cb) (hiF cb T) (T.length - 1) 0), rown intEnc 3 1 w.heap.size (.slice nalo (nM cb) nclo) (mixF (nM cb) (loF cb T) (T.length - 1) 0), rbox w57.heap.size 25 #[.slice qf1 cb.accs.length qf2, .slice qf3 cb.mvs.length qf4], rown accEnc 79 6 k1f (.slice qf1 cb.accs.length qf2) fb.accs, rown mvEnc 76 4 k1f (.slice qf3 cb.mvs.length qf4) fb.mvs, rbox w53.heap.size 40 #[.int .i64 ((lossT cb).lo), .int .i64 ((lossT cb).hi)], rsl spEnc 2 ll_ lh_ (.slice la_ (lossL cb).length lc_) (lossL cb), rown trvEnc 32 3 k1t (.slice (some ⟨gA68, 0, none⟩) T.length tc) T, rtrs T, rbox w8.heap.size 25 #[.slice pa11 cb.accs.length pc12, .slice pa13 cb.mvs.length pc14], rown accEnc 79 6 w5.heap.size (.slice pa11 cb.accs.length pc12) cb.accs, rown mvEnc 76 4 w5.heap.size (.slice pa13 cb.mvs.length pc14) cb.mvs] w_) #[true, true, true, true, true, false] 1 ?st222 ?nx222
      case st222 =>
       rintro t w223 ⟨nadu, ncdu, yg3, yg4, yc4, e4, e11, e13, e14, e15, e177, hsz222, F224⟩
       clear F128
       rw [rng_exact_walk t, e4, e11, e13, e14, e15, e177]
       clear e4 e11 e13 e14 e15 e177
       have hws222 := F224.gb.size
       have yg4l := (F224.ltAt 0 rfl _ rfl).1
       have yg3l := F224.ltAt 1 rfl yg3 rfl
       have yg3b := yg3l.2 rfl
       refine ru_one 5 rfl (by kernel_rfl) (fun K hK => ?_)
       go_simp
       refine ru_back_late hK (by kernel_rfl) ?_
       exact hZ131.out _ _ _ (by kernel_rfl) (by kernel_rfl) rfl ⟨nadu, ncdu, yg3, yg4, yc4, (by kernel_rfl), (by kernel_rfl), (by kernel_rfl), (by kernel_rfl), (by kernel_rfl), (by kernel_rfl), (by first | omega | (simp; done) | (simp; omega)), F224⟩
      intro hZ222
      refine ru_state 243 (fun t w_ => ∃ (nadu : Option Addr) (ncdu : Nat) (yg3 : Nat), t 4 = .pointer (some ⟨w8.heap.size, 0, none⟩) ∧ t 11 = .pointer (some ⟨w57.heap.size, 0, none⟩) ∧ t 13 = .int .i64 (cb.accs.length : Int) ∧ t 14 = .slice nalo (nM cb) nclo ∧ t 15 = .slice nahi (nM cb) nchi ∧ t 174 = .slice nadu ((lossL cb).length) ncdu ∧ t 176 = .slice (some ⟨yg3, 0, none⟩) 1 1 ∧ w89.heap.size ≤ w_.heap.size ∧ Bun w [rbox yg3 40 #[.int .i64 ((lossT cb).lo), .int .i64 ((lossT cb).hi)], rown spEnc 40 2 w.heap.size (.slice nadu ((lossL cb).length) ncdu) (lossL cb), rown intEnc 3 1 w.heap.size (.slice nahi (nM cb) nchi) (mixF (nM cb) (hiF cb T) (T.length - 1) 0), rown intEnc 3 1 w.heap.size (.slice nalo (nM cb) nclo) (mixF (nM cb) (loF cb T) (T.length - 1) 0), rbox w57.heap.size 25 #[.slice qf1 cb.accs.length qf2, .slice qf3 cb.mvs.length qf4], rown accEnc 79 6 k1f (.slice qf1 cb.accs.length qf2) fb.accs, rown mvEnc 76 4 k1f (.slice qf3 cb.mvs.length qf4) fb.mvs, rbox w53.heap.size 40 #[.int .i64 ((lossT cb).lo), .int .i64 ((lossT cb).hi)], rsl spEnc 2 ll_ lh_ (.slice la_ (lossL cb).length lc_) (lossL cb), rown trvEnc 32 3 k1t (.slice (some ⟨gA68, 0, none⟩) T.length tc) T, rtrs T, rbox w8.heap.size 25 #[.slice pa11 cb.accs.length pc12, .slice pa13 cb.mvs.length pc14], rown accEnc 79 6 w5.heap.size (.slice pa11 cb.accs.length pc12) cb.accs, rown mvEnc 76 4 w5.heap.size (.slice pa13 cb.mvs.length pc14) cb.mvs] w_) #[true, true, true, true, false, false] 2 ?st225 ?nx225
      case st225 =>
       rintro t w226 ⟨nadu, ncdu, yg3, e4, e11, e13, e14, e15, e174, e176, hsz225, F227⟩
       clear F128
       rw [rng_exact_walk t, e4, e11, e13, e14, e15, e174, e176]
       clear e4 e11 e13 e14 e15 e174 e176
       have hws225 := F227.gb.size
       have yg3l := F227.ltAt 0 rfl yg3 rfl
       have yg3b := yg3l.2 rfl
       refine ru_one 4 rfl (by kernel_rfl) (fun K hK => ?_)
       refine step_app _ okSp rfl _ _ rfl w.heap.size (.slice nadu ((lossL cb).length) ncdu) (lossL cb) [lossT cb] rfl (by exact (F227.at 1 rfl : Own spEnc 40 2 w.heap.size _ (.slice nadu ((lossL cb).length) ncdu) (lossL cb))) ⟨_, 0, none⟩ 1 1 rfl rfl (by decide) (news_of (F227.at 0 rfl : Bk _ yg3 40 #[.int .i64 ((lossT cb).lo), .int .i64 ((lossT cb).hi)])) ((lossL cb).length + 1) (rfl) (by omega) (by first | omega | (simp; omega)) _ rfl ?_
       intro g228 cap229 w230 hp231
       have hp231s := hp231.gb.size
       (try simp at hp231s)
       have F232 := (F227.front 1 rfl rfl).app hp231 (Nat.le_refl _)
       clear F227
       refine ru_back hK (by exact ⟨F232.cl 7 0 rfl rfl, F232.cl 7 1 rfl rfl⟩) (fun _ => ?_)
       exact hZ222.out _ _ _ (by kernel_rfl) (by kernel_rfl) rfl ⟨nadu, ncdu, yg3, g228, cap229, (by kernel_rfl), (by kernel_rfl), (by kernel_rfl), (by kernel_rfl), (by kernel_rfl), (by kernel_rfl), (by first | omega | (simp; done) | (simp; omega)), F232⟩
      intro hZ225
      refine ru_state 243 (fun t w_ => ∃ (nadu : Option Addr) (ncdu : Nat), t 4 = .pointer (some ⟨w8.heap.size, 0, none⟩) ∧ t 11 = .pointer (some ⟨w57.heap.size, 0, none⟩) ∧ t 13 = .int .i64 (cb.accs.length : Int) ∧ t 14 = .slice nalo (nM cb) nclo ∧ t 15 = .slice nahi (nM cb) nchi ∧ t 174 = .slice nadu ((lossL cb).length) ncdu ∧ t 175 = .agg #[.int .i64 ((lossT cb).lo), .int .i64 ((lossT cb).hi)] ∧ w89.heap.size ≤ w_.heap.size ∧ Bun w [rown spEnc 40 2 w.heap.size (.slice nadu ((lossL cb).length) ncdu) (lossL cb), rown intEnc 3 1 w.heap.size (.slice nahi (nM cb) nchi) (mixF (nM cb) (hiF cb T) (T.length - 1) 0), rown intEnc 3 1 w.heap.size (.slice nalo (nM cb) nclo) (mixF (nM cb) (loF cb T) (T.length - 1) 0), rbox w57.heap.size 25 #[.slice qf1 cb.accs.length qf2, .slice qf3 cb.mvs.length qf4], rown accEnc 79 6 k1f (.slice qf1 cb.accs.length qf2) fb.accs, rown mvEnc 76 4 k1f (.slice qf3 cb.mvs.length qf4) fb.mvs, rbox w53.heap.size 40 #[.int .i64 ((lossT cb).lo), .int .i64 ((lossT cb).hi)], rsl spEnc 2 ll_ lh_ (.slice la_ (lossL cb).length lc_) (lossL cb), rown trvEnc 32 3 k1t (.slice (some ⟨gA68, 0, none⟩) T.length tc) T, rtrs T, rbox w8.heap.size 25 #[.slice pa11 cb.accs.length pc12, .slice pa13 cb.mvs.length pc14], rown accEnc 79 6 w5.heap.size (.slice pa11 cb.accs.length pc12) cb.accs, rown mvEnc 76 4 w5.heap.size (.slice pa13 cb.mvs.length pc14) cb.mvs] w_) #[true, true, true, false, false, false] 3 ?st233 ?nx233
      case st233 =>
       rintro t w234 ⟨nadu, ncdu, e4, e11, e13, e14, e15, e174, e175, hsz233, F235⟩
       clear F128
       rw [rng_exact_walk t, e4, e11, e13, e14, e15, e174, e175]
       clear e4 e11 e13 e14 e15 e174 e175
       have hws233 := F235.gb.size
       refine ru_one 3 rfl (by kernel_rfl) (fun K hK => ?_)
       go_simp
       have F236 := F235.new 40 #[.int .i64 ((lossT cb).lo), .int .i64 ((lossT cb).hi)] (n := w234.heap.size) (by simp)
       clear F235
       refine ru_back hK (by exact ⟨F236.cl 7 0 rfl rfl, F236.cl 7 1 rfl rfl⟩) (fun _ => ?_)
       exact hZ225.out _ _ _ (by kernel_rfl) (by kernel_rfl) rfl ⟨nadu, ncdu, w234.heap.size, (by kernel_rfl), (by kernel_rfl), (by kernel_rfl), (by kernel_rfl), (by kernel_rfl), (by kernel_rfl), (by kernel_rfl), (by first | omega | (simp; done) | (simp; omega)), F236⟩
      intro hZ233
      refine ru_state 243 (fun t w_ => ∃ (yg3 : Nat), t 4 = .pointer (some ⟨w8.heap.size, 0, none⟩) ∧ t 11 = .pointer (some ⟨w57.heap.size, 0, none⟩) ∧ t 13 = .int .i64 (cb.accs.length : Int) ∧ t 14 = .slice nalo (nM cb) nclo ∧ t 15 = .slice nahi (nM cb) nchi ∧ t 173 = .slice la_ ((lossL cb).length) lc_ ∧ t 176 = .slice (some ⟨yg3, 0, none⟩) 1 1 ∧ w89.heap.size ≤ w_.heap.size ∧ Bun w [rbox yg3 40 #[.int .i64 ((lossT cb).lo), .int .i64 ((lossT cb).hi)], rown intEnc 3 1 w.heap.size (.slice nahi (nM cb) nchi) (mixF (nM cb) (hiF cb T) (T.length - 1) 0), rown intEnc 3 1 w.heap.size (.slice nalo (nM cb) nclo) (mixF (nM cb) (loF cb T) (T.length - 1) 0), rbox w57.heap.size 25 #[.slice qf1 cb.accs.length qf2, .slice qf3 cb.mvs.length qf4], rown accEnc 79 6 k1f (.slice qf1 cb.accs.length qf2) fb.accs, rown mvEnc 76 4 k1f (.slice qf3 cb.mvs.length qf4) fb.mvs, rbox w53.heap.size 40 #[.int .i64 ((lossT cb).lo), .int .i64 ((lossT cb).hi)], rsl spEnc 2 ll_ lh_ (.slice la_ (lossL cb).length lc_) (lossL cb), rown trvEnc 32 3 k1t (.slice (some ⟨gA68, 0, none⟩) T.length tc) T, rtrs T, rbox w8.heap.size 25 #[.slice pa11 cb.accs.length pc12, .slice pa13 cb.mvs.length pc14], rown accEnc 79 6 w5.heap.size (.slice pa11 cb.accs.length pc12) cb.accs, rown mvEnc 76 4 w5.heap.size (.slice pa13 cb.mvs.length pc14) cb.mvs] w_) #[true, false, true, true, false, false] 3 ?st237 ?nx237
      case st237 =>
       rintro t w238 ⟨yg3, e4, e11, e13, e14, e15, e173, e176, hsz237, F239⟩
       clear F128
       rw [rng_exact_walk t, e4, e11, e13, e14, e15, e173, e176]
       clear e4 e11 e13 e14 e15 e173 e176
       have hws237 := F239.gb.size
       have yg3l := F239.ltAt 0 rfl yg3 rfl
       have yg3b := yg3l.2 rfl
       refine ru_one 1 rfl (by kernel_rfl) (fun K hK => ?_)
       go_simp
       refine (ownSpans_f w.heap.size _ _ _ (lossL cb) _ (F239.at 7 rfl : Sl spEnc 2 ll_ lh_ _ (.slice la_ (lossL cb).length lc_) (lossL cb)) (by first | omega | (simp; omega)) (by omega) F239.gb.size _ rfl).mono ?_
       rintro e w242 ⟨nadu, ncdu, rfl, nodu, nxdu, hg240⟩
       have hg240s := hg240.size
       (try simp at hg240s)
       have F243 := F239.add (rown spEnc 40 2 w.heap.size (.slice nadu ((lossL cb).length) ncdu) (lossL cb)) hg240 (nodu) (nxdu)
       clear F239
       refine ru_back hK (by exact ⟨F243.cl 7 0 rfl rfl, F243.cl 7 1 rfl rfl⟩) (fun _ => ?_)
       exact hZ225.out _ _ _ (by kernel_rfl) (by kernel_rfl) rfl ⟨nadu, ncdu, yg3, (by kernel_rfl), (by kernel_rfl), (by kernel_rfl), (by kernel_rfl), (by kernel_rfl), (by kernel_rfl), (by kernel_rfl), (by first | omega | (simp; done) | (simp; omega)), (F243.pick [1, 0, 2, 3, 4, 5, 6, 7, 8, 9, 10, 11, 12, 13] (by decide) rfl)⟩
      intro hZ237
      refine ru_two 1 3 rfl rfl (by kernel_rfl) ?_ ?_
      ·
       intro K hK
       go_simp
       refine (ownSpans_f w.heap.size _ _ _ (lossL cb) _ (F128.at 6 rfl : Sl spEnc 2 ll_ lh_ _ (.slice la_ (lossL cb).length lc_) (lossL cb)) (by first | omega | (simp; omega)) (by omega) F128.gb.size _ rfl).mono ?_
       rintro e w246 ⟨nadu, ncdu, rfl, nodu, nxdu, hg244⟩
       have hg244s := hg244.size
       (try simp at hg244s)
       have F247 := F128.add (rown spEnc 40 2 w.heap.size (.slice nadu ((lossL cb).length) ncdu) (lossL cb)) hg244 (nodu) (nxdu)
       clear F128
       refine ru_back hK (by exact ⟨F247.cl 6 0 rfl rfl, F247.cl 6 1 rfl rfl⟩) (fun _ => ?_)
       exact hZ233.out _ _ _ (by kernel_rfl) (by kernel_rfl) rfl ⟨nadu, ncdu, (by kernel_rfl), (by kernel_rfl), (by kernel_rfl), (by kernel_rfl), (by kernel_rfl), (by kernel_rfl), (by kernel_rfl), (by first | omega | (simp; done) | (simp; omega)), F247⟩
      ·
       intro K hK
       go_simp
       have F248 := F128.new 40 #[.int .i64 ((lossT cb).lo), .int .i64 ((lossT cb).hi)] (n := wd130.heap.size) (by simp)
       clear F128
       refine ru_back hK (by exact ⟨F248.cl 6 0 rfl rfl, F248.cl 6 1 rfl rfl⟩) (fun _ => ?_)
       exact hZ237.out _ _ _ (by kernel_rfl) (by kernel_rfl) rfl ⟨wd130.heap.size, (by kernel_rfl), (by kernel_rfl), (by kernel_rfl), (by kernel_rfl), (by kernel_rfl), (by kernel_rfl), (by kernel_rfl), (by first | omega | (simp; done) | (simp; omega)), F248⟩
    case atStart1 =>
     rw [HI86.out]
     exact ⟨1, (by kernel_rfl), (by kernel_rfl), (by kernel_rfl), (by kernel_rfl), (by kernel_rfl), (by kernel_rfl), (by kernel_rfl), (by kernel_rfl), rfl, Nat.le_refl _, hTp, rfl, (by first | exact Nat.le_refl _ | omega | (simp; done) | (simp; omega)), F85⟩
   ·
    have HCK := Lib.hid (hcg.out.e12 hcz).1
    have hTe := congrArg List.length (trus_none (hcg.out.e12 hcz).2 HT.out)
    rw [List.length_nil] at hTe
    have hTe2 : T.length ≤ 0 := by omega
    clear hcz hTe
    have kn249 : (T.length : Int) = 0 := by omega
    have kn249H := Lib.hid kn249
    have kn249a : ((T.length : Int) == 0) = true := beq_t kn249
    have kn249b : ((T.length : Int) != 0) = false := bne_f kn249
    clear kn249
    have b250 := F48.bx2 2 rfl
    go_wp2_with fail
    clear b250
    refine (losses_no _ _ _ _ _ _ cb _ (Own.sl (F48.at 3 rfl : Own accEnc 79 6 w5.heap.size _ (.slice pa11 cb.accs.length pc12) cb.accs) (fun _ => rfl)) (Own.sl (F48.at 4 rfl : Own mvEnc 76 4 w5.heap.size _ (.slice pa13 cb.mvs.length pc14) cb.mvs) (fun _ => rfl)) HNC.out (Nat.le_refl _) (Nat.le_refl _) HCK.out).mono ?_
    rintro e w253 ⟨rfl, hg251⟩
    have hg251s := hg251.size
    (try simp at hg251s)
    have F254 := F48.gn hg251
    clear F48
    clear hg251
    have b255 := F254.bx2 2 rfl
    go_wp2_with fail
    clear b255
    have F256 := F254.new 40 #[.int .i64 0, .int .i64 0] (n := w253.heap.size) (by simp)
    clear F254
    refine (fref_12 _ _ _ _ _ _ cb _ (Own.sl (F256.at 4 rfl : Own accEnc 79 6 w5.heap.size _ (.slice pa11 cb.accs.length pc12) cb.accs) (fun _ => rfl)) (Own.sl (F256.at 5 rfl : Own mvEnc 76 4 w5.heap.size _ (.slice pa13 cb.mvs.length pc14) cb.mvs) (fun _ => rfl)) (Nat.le_refl _) (Nat.le_refl _) HNC.out HCK.out).mono ?_
    rintro e w259 ⟨rfl, hg257⟩
    have hg257s := hg257.size
    (try simp at hg257s)
    have F260 := F256.gn hg257
    clear F256
    clear hg257
    go_wp2_with fail
    have F261 := F260.new 25 #[.slice none 0 0, .slice none 0 0] (n := w259.heap.size) (by simp)
    clear F260
    refine (awake_c _).mono ?_
    rintro e w264 ⟨rfl, hg262⟩
    have hg262s := hg262.size
    (try simp at hg262s)
    have F265 := F261.gn hg262
    clear F261
    clear hg262
    go_wp2_with fail
    go_ret
    exact ⟨rfl, F265.gb⟩
 case first7 =>
  intro hK_
  clear hk2_
  refine (yes_c sb 3 _ (F26.at 6 rfl : SeedAt _ sb) (by omega) (by omega)).mono ?_
  rintro e w269 ⟨yb266, rfl, hs268, hg267⟩
  have hg267s := hg267.size
  (try simp at hg267s)
  have F270 := F26.seedAt 6 rfl hg267 hs268
  clear F26
  clear hg267
  cases c271 : yb266
  ·
   have c271H := Lib.hid c271
   go_wp2_with fail
   have HGN := HBG
   go_wp2_with fail
   have F272 : Bun w [rbox w8.heap.size 25 #[.slice pa11 bb.accs.length pc12, .slice pa13 bb.mvs.length pc14], rown accEnc 79 6 w5.heap.size (.slice pa11 bb.accs.length pc12) bb.accs, rown mvEnc 76 4 w5.heap.size (.slice pa13 bb.mvs.length pc14) bb.mvs, rown intEnc 3 1 w5.heap.size (.slice pa15 OO.length pc16) OO, rown intEnc 3 1 w5.heap.size (.slice pa17 CC.length pc18) CC, rown intEnc 3 1 w5.heap.size (.slice pa19 VV.length pc20) VV, rseed sb, rsl intEnc 1 0 w.heap.size (.slice na zs.length nc) zs] _ := F270.pick [0, 1, 2, 3, 4, 5, 6, 7] (by decide) rfl
   clear F270
   show k2_ _ _
   exact hK_.out _ _ (by kernel_rfl) rfl ⟨bb, (by kernel_rfl), (by first | omega | (simp; done) | (simp; omega)), HGN, (Lib.hid ⟨rfl, rfl⟩), F272⟩
  ·
   have c271H := Lib.hid c271
   obtain ⟨gA273, cA274, e_⟩ := Own.opn (F270.at 1 rfl : Own accEnc 79 6 w5.heap.size _ (.slice pa11 bb.accs.length pc12) bb.accs) (by omega)
   injection e_ with e1_ e2_ e3_
   subst e1_
   clear e2_ e3_
   have gA273l := (F270.ltAt 1 rfl _ rfl).1
   go_wp2_with fail
   have F279 := F270.drew
   clear F270
   refine ru_begin (fun W => W.cell? ⟨w8.heap.size, 0, none⟩ = some (.slice (some ⟨gA273, 0, none⟩) bb.accs.length pc12)) 8 (by kernel_rfl) ?_ ?_
   · exact F279.cl 0 0 rfl rfl
   obtain ⟨wd281, hwd_⟩ : ∃ x : World, w269.drew = x := ⟨_, rfl⟩
   rw [hwd_] at F279 ⊢
   have wd281s : w269.heap.size ≤ wd281.heap.size := by rw [← hwd_]; exact Nat.le_refl _
   clear hwd_
   have hS280 := (F279.cl 0 0 rfl rfl)
   refine ru_t 0 [] ?_
   refine ru_t 1 [] ?_
   refine ru_t 2 [] ?_
   refine ru_t 3 [] ?_
   refine ru_t 4 [] ?_
   refine ru_t 5 [] ?_
   (try simp only [Act.put, List.setIfInBounds_toArray, List.set_cons_zero, List.set_cons_succ])
   clear hS280
   refine ru_one 6 rfl (by kernel_rfl) (fun K hK => ?_)
   go_simp
   refine (below_c sb (bb.accs.length : Int) _ (F279.at 6 rfl : SeedAt _ sb) (by omega) (by omega)).mono ?_
   rintro e w286 ⟨r282, rfl, hr283, hs285, hg284⟩
   unfold belowR at hr283
   obtain ⟨kk, rfl⟩ : ∃ kk : Nat, r282 = (kk : Int) := ⟨r282.toNat, by omega⟩
   have hkk : kk < bb.accs.length := by omega
   have hg284s := hg284.size
   (try simp at hg284s)
   have F287 := F279.seedAt 6 rfl hg284 hs285
   clear F279
   refine ru_back hK (by exact F287.cl 0 0 rfl rfl) (fun hHeld => ?_)
   clear hK K
   (try simp only [Act.put, List.setIfInBounds_toArray, List.set_cons_zero, List.set_cons_succ])
   refine ru_p 7 ?_
   (try simp only [Act.put, List.setIfInBounds_toArray, List.set_cons_zero, List.set_cons_succ])
   refine ru_one 8 rfl (by kernel_rfl) (fun K hK => ?_)
   go_simp
   refine ru_back_late hK (by kernel_rfl) ?_
   clear hK K
   (try simp only [Act.put, List.setIfInBounds_toArray, List.set_cons_zero, List.set_cons_succ])
   refine ru_done (by kernel_rfl) ?_
   have Fn_ := F287
   (try dsimp only [List.eraseIdx_cons_succ, List.eraseIdx_cons_zero] at Fn_)
   obtain ⟨w288, hx289, F291, hxs290⟩ := Fn_.name
   (try simp at hxs290)
   rw [hx289]
   clear hx289 F287 Fn_
   have hcl := bt_cl HTB.out hkk
   have hcs : (bb.accs.length : Int) * 6 ≤ 3 * 6 := by omega
   have hz294 : Hid (bb.accs[kk]? = some (ga bb.accs kk)) := Lib.hid (ga_at (by omega))
   go_wp2_with fail
   have F297 := F291.drew
   clear F291
   refine ru_begin (fun W => W.cell? ⟨gA273, kk * 6 + 4 + 1, none⟩ = some (.int .i64 (ga bb.accs kk).cl.hi)) 12 (by kernel_rfl) ?_ ?_
   · exact (by simpa using (Own.sl (F297.at 1 rfl : Own accEnc 79 6 w5.heap.size _ (.slice (some ⟨gA273, 0, none⟩) bb.accs.length pc12) bb.accs) (fun _ => rfl)).cells hz294.out 5 _ rfl)
   obtain ⟨wd299, hwd_⟩ : ∃ x : World, w288.drew = x := ⟨_, rfl⟩
   rw [hwd_] at F297 ⊢
   have wd299s : w288.heap.size ≤ wd299.heap.size := by rw [← hwd_]; exact Nat.le_refl _
   clear hwd_
   have hS298 := ((by simpa using (Own.sl (F297.at 1 rfl : Own accEnc 79 6 w5.heap.size _ (.slice (some ⟨gA273, 0, none⟩) bb.accs.length pc12) bb.accs) (fun _ => rfl)).cells hz294.out 5 _ rfl))
   refine ru_t 0 [] ?_
   refine ru_t 1 [] ?_
   refine ru_t 2 [] ?_
   refine ru_t 3 [] ?_
   refine ru_t 4 [] ?_
   refine ru_t 5 [] ?_
   refine ru_t 6 [] ?_
   (try simp only [Act.put, List.setIfInBounds_toArray, List.set_cons_zero, List.set_cons_succ])
   clear hS298
   refine ru_one 7 rfl (by kernel_rfl) (fun K hK => ?_)
   go_simp
   refine (below_c sb 3 _ (F297.at 6 rfl : SeedAt _ sb) (by omega) (by omega)).mono ?_
   rintro e w304 ⟨r300, rfl, hr301, hs303, hg302⟩
   unfold belowR at hr301
   have hg302s := hg302.size
   (try simp at hg302s)
   have F305 := F297.seedAt 6 rfl hg302 hs303
   clear F297
   refine ru_back hK (by exact (by simpa using (Own.sl (F305.at 1 rfl : Own accEnc 79 6 w5.heap.size _ (.slice (some ⟨gA273, 0, none⟩) bb.accs.length pc12) bb.accs) (fun _ => rfl)).cells hz294.out 5 _ rfl)) (fun hHeld => ?_)
   clear hK K
   (try simp only [Act.put, List.setIfInBounds_toArray, List.set_cons_zero, List.set_cons_succ])
   have hw306 : IntKind.i64.wrap ((ga bb.accs kk).cl.hi + r300) = (ga bb.accs kk).cl.hi + r300 := IntWalk.i64_in _ (by omega)
   refine ru_p 8 ?_
   (try simp only [Act.put, List.setIfInBounds_toArray, List.set_cons_zero, List.set_cons_succ])
   refine ru_p 9 ?_
   (try simp only [Act.put, List.setIfInBounds_toArray, List.set_cons_zero, List.set_cons_succ])
   refine ru_p 10 ?_
   (try simp only [Act.put, List.setIfInBounds_toArray, List.set_cons_zero, List.set_cons_succ])
   refine ru_p 11 ?_
   (try simp only [Act.put, List.setIfInBounds_toArray, List.set_cons_zero, List.set_cons_succ])
   refine ru_one 12 rfl (by kernel_rfl) (fun K hK => ?_)
   have kc_ : World.cell? _ ⟨gA273, kk * 6 + 4 + 1, none⟩ = some (.int .i64 (ga bb.accs kk).cl.hi) := (by simpa using (Own.sl (F305.at 1 rfl : Own accEnc 79 6 w5.heap.size _ (.slice (some ⟨gA273, 0, none⟩) bb.accs.length pc12) bb.accs) (fun _ => rfl)).cells hz294.out 5 _ rfl)
   have kf_ : World.frozen? _ ⟨gA273, kk * 6 + 4 + 1, none⟩ = false := Own.live (F305.at 1 rfl : Own accEnc 79 6 w5.heap.size _ (.slice (some ⟨gA273, 0, none⟩) bb.accs.length pc12) bb.accs) _
   go_simp
   clear kc_ kf_
   obtain ⟨c1, hc1_⟩ : ∃ z_, setCl bb kk (⟨(ga bb.accs kk).cl.lo, (ga bb.accs kk).cl.hi + r300⟩ : Sp) = z_ := ⟨_, rfl⟩
   have HS1 := Lib.hid (setC_of HBG.out hkk (by dsimp only; omega) hc1_)
   have hs1_ : bb.accs.set kk ({ ga bb.accs kk with cl := ⟨(ga bb.accs kk).cl.lo, (ga bb.accs kk).cl.hi + r300⟩ }) = c1.accs := by rw [← hc1_]; rfl
   clear hc1_
   have F307 := Bun.setOwn (sz := 6) (fun _ => rfl) (F305.front 1 rfl rfl) hz294.out (y := ({ ga bb.accs kk with cl := ⟨(ga bb.accs kk).cl.lo, (ga bb.accs kk).cl.hi + r300⟩ })) (j := 5) (u := (.int .i64 ((ga bb.accs kk).cl.hi + r300))) (k := (kk * 6 + 4 + 1)) (by decide) rfl rfl
   clear F305
   rw [hs1_] at F307
   refine ru_back_late hK (by kernel_rfl) ?_
   clear hK K
   (try simp only [Act.put, List.setIfInBounds_toArray, List.set_cons_zero, List.set_cons_succ])
   refine ru_done (by kernel_rfl) ?_
   (try clear hw306)
   have Fn_ := F307
   (try dsimp only [List.eraseIdx_cons_succ, List.eraseIdx_cons_zero] at Fn_)
   obtain ⟨w308, hx309, F311, hxs310⟩ := Fn_.name
   (try simp at hxs310)
   rw [hx309]
   clear hx309 F307 Fn_
   have hk1 : kk < c1.accs.length := by have := HS1.out.n; omega
   have hcl1 := (HS1.out.g.acc kk hk1).cl
   have hz312 : Hid (c1.accs[kk]? = some (ga c1.accs kk)) := Lib.hid (ga_at (by omega))
   go_wp2_with fail
   have F315 := F311.drew
   clear F311
   refine ru_begin (fun W => W.cell? ⟨gA273, kk * 6 + 4, none⟩ = some (.int .i64 (ga c1.accs kk).cl.lo) ∧ W.cell? ⟨gA273, kk * 6 + 4 + 1, none⟩ = some (.int .i64 (ga c1.accs kk).cl.hi)) 16 (by kernel_rfl) ?_ ?_
   · exact ⟨(by simpa using (Own.sl (F315.at 0 rfl : Own accEnc 79 6 w5.heap.size _ (.slice (some ⟨gA273, 0, none⟩) bb.accs.length pc12) c1.accs) (fun _ => rfl)).cells hz312.out 4 _ rfl), (by simpa using (Own.sl (F315.at 0 rfl : Own accEnc 79 6 w5.heap.size _ (.slice (some ⟨gA273, 0, none⟩) bb.accs.length pc12) c1.accs) (fun _ => rfl)).cells hz312.out 5 _ rfl)⟩
   obtain ⟨wd317, hwd_⟩ : ∃ x : World, w308.drew = x := ⟨_, rfl⟩
   rw [hwd_] at F315 ⊢
   have wd317s : w308.heap.size ≤ wd317.heap.size := by rw [← hwd_]; exact Nat.le_refl _
   clear hwd_
   have hS316 := (And.intro ((by simpa using (Own.sl (F315.at 0 rfl : Own accEnc 79 6 w5.heap.size _ (.slice (some ⟨gA273, 0, none⟩) bb.accs.length pc12) c1.accs) (fun _ => rfl)).cells hz312.out 4 _ rfl)) ((by simpa using (Own.sl (F315.at 0 rfl : Own accEnc 79 6 w5.heap.size _ (.slice (some ⟨gA273, 0, none⟩) bb.accs.length pc12) c1.accs) (fun _ => rfl)).cells hz312.out 5 _ rfl)))
   refine ru_t 0 [] ?_
   refine ru_t 1 [] ?_
   refine ru_t 2 [] ?_
   refine ru_t 3 [] ?_
   refine ru_t 4 [] ?_
   refine ru_t 5 [] ?_
   refine ru_t 6 [] ?_
   refine ru_t 7 [] ?_
   refine ru_t 8 [] ?_
   refine ru_t 9 [] ?_
   refine ru_t 10 [] ?_
   refine ru_t 11 [] ?_
   (try simp only [Act.put, List.setIfInBounds_toArray, List.set_cons_zero, List.set_cons_succ])
   clear hS316
   refine ru_one 12 rfl (by kernel_rfl) (fun K hK => ?_)
   go_simp
   refine (from_c sb ((ga c1.accs kk).cl.lo) ((ga c1.accs kk).cl.hi) _ (F315.at 6 rfl : SeedAt _ sb) (by omega) (by omega) (by omega) (by omega)).mono ?_
   rintro e w322 ⟨r318, rfl, hr319, hs321, hg320⟩
   unfold fromR at hr319; have hr319b : ((ga c1.accs kk).cl.lo) ≤ r318 ∧ r318 ≤ ((ga c1.accs kk).cl.hi) := (by omega); clear hr319
   have hg320s := hg320.size
   (try simp at hg320s)
   have F323 := F315.seedAt 6 rfl hg320 hs321
   clear F315
   refine ru_back hK (by exact ⟨(by simpa using (Own.sl (F323.at 0 rfl : Own accEnc 79 6 w5.heap.size _ (.slice (some ⟨gA273, 0, none⟩) bb.accs.length pc12) c1.accs) (fun _ => rfl)).cells hz312.out 4 _ rfl), (by simpa using (Own.sl (F323.at 0 rfl : Own accEnc 79 6 w5.heap.size _ (.slice (some ⟨gA273, 0, none⟩) bb.accs.length pc12) c1.accs) (fun _ => rfl)).cells hz312.out 5 _ rfl)⟩) (fun hHeld => ?_)
   clear hK K
   (try simp only [Act.put, List.setIfInBounds_toArray, List.set_cons_zero, List.set_cons_succ])
   refine ru_p 13 ?_
   (try simp only [Act.put, List.setIfInBounds_toArray, List.set_cons_zero, List.set_cons_succ])
   refine ru_p 14 ?_
   (try simp only [Act.put, List.setIfInBounds_toArray, List.set_cons_zero, List.set_cons_succ])
   refine ru_p 15 ?_
   (try simp only [Act.put, List.setIfInBounds_toArray, List.set_cons_zero, List.set_cons_succ])
   refine ru_one 16 rfl (by kernel_rfl) (fun K hK => ?_)
   have kc_ : World.cell? _ ⟨gA273, kk * 6 + 4, none⟩ = some (.int .i64 (ga c1.accs kk).cl.lo) := (by simpa using (Own.sl (F323.at 0 rfl : Own accEnc 79 6 w5.heap.size _ (.slice (some ⟨gA273, 0, none⟩) bb.accs.length pc12) c1.accs) (fun _ => rfl)).cells hz312.out 4 _ rfl)
   have kf_ : World.frozen? _ ⟨gA273, kk * 6 + 4, none⟩ = false := Own.live (F323.at 0 rfl : Own accEnc 79 6 w5.heap.size _ (.slice (some ⟨gA273, 0, none⟩) bb.accs.length pc12) c1.accs) _
   go_simp
   clear kc_ kf_
   obtain ⟨c2, hc2_⟩ : ∃ z_, setCl c1 kk (⟨r318, (ga c1.accs kk).cl.hi⟩ : Sp) = z_ := ⟨_, rfl⟩
   have HS2 := Lib.hid (setC_of HS1.out.g hk1 (by dsimp only; omega) hc2_)
   have hs2_ : c1.accs.set kk ({ ga c1.accs kk with cl := ⟨r318, (ga c1.accs kk).cl.hi⟩ }) = c2.accs := by rw [← hc2_]; rfl
   clear hc2_
   have F324 := Bun.setOwn (sz := 6) (fun _ => rfl) F323 hz312.out (y := ({ ga c1.accs kk with cl := ⟨r318, (ga c1.accs kk).cl.hi⟩ })) (j := 4) (u := (.int .i64 r318)) (k := (kk * 6 + 4)) (by decide) rfl rfl
   clear F323
   rw [hs2_] at F324
   refine ru_back_late hK (by kernel_rfl) ?_
   clear hK K
   (try simp only [Act.put, List.setIfInBounds_toArray, List.set_cons_zero, List.set_cons_succ])
   refine ru_done (by kernel_rfl) ?_
   have Fn_ := F324
   (try dsimp only [List.eraseIdx_cons_succ, List.eraseIdx_cons_zero] at Fn_)
   obtain ⟨w325, hx326, F328, hxs327⟩ := Fn_.name
   (try simp at hxs327)
   rw [hx326]
   clear hx326 F324 Fn_
   go_wp2_with fail
   have HGN : Hid (BokG c2) := Lib.hid HS2.out.g
   have HCN : Hid (c2.accs.length = bb.accs.length ∧ c2.mvs = bb.mvs) := Lib.hid ⟨HS2.out.n.trans HS1.out.n, HS2.out.m.trans HS1.out.m⟩
   have F329 : Bun w [rown accEnc 79 6 w5.heap.size (.slice (some ⟨gA273, 0, none⟩) c2.accs.length pc12) c2.accs, rbox w8.heap.size 25 #[.slice (some ⟨gA273, 0, none⟩) c2.accs.length pc12, .slice pa13 c2.mvs.length pc14], rown mvEnc 76 4 w5.heap.size (.slice pa13 c2.mvs.length pc14) c2.mvs, rown intEnc 3 1 w5.heap.size (.slice pa15 OO.length pc16) OO, rown intEnc 3 1 w5.heap.size (.slice pa17 CC.length pc18) CC, rown intEnc 3 1 w5.heap.size (.slice pa19 VV.length pc20) VV, rseed sb, rsl intEnc 1 0 w.heap.size (.slice na zs.length nc) zs] _ := (by rw [HCN.out.1, HCN.out.2]; exact F328)
   clear F328
   go_wp2_with fail
   have F330 : Bun w [rbox w8.heap.size 25 #[.slice (some ⟨gA273, 0, none⟩) c2.accs.length pc12, .slice pa13 c2.mvs.length pc14], rown accEnc 79 6 w5.heap.size (.slice (some ⟨gA273, 0, none⟩) c2.accs.length pc12) c2.accs, rown mvEnc 76 4 w5.heap.size (.slice pa13 c2.mvs.length pc14) c2.mvs, rown intEnc 3 1 w5.heap.size (.slice pa15 OO.length pc16) OO, rown intEnc 3 1 w5.heap.size (.slice pa17 CC.length pc18) CC, rown intEnc 3 1 w5.heap.size (.slice pa19 VV.length pc20) VV, rseed sb, rsl intEnc 1 0 w.heap.size (.slice na zs.length nc) zs] _ := F329.pick [1, 0, 2, 3, 4, 5, 6, 7] (by decide) rfl
   clear F329
   show k2_ _ _
   exact hK_.out _ _ (by kernel_rfl) rfl ⟨c2, (by kernel_rfl), (by first | omega | (simp; done) | (simp; omega)), HGN, HCN, F330⟩

end Go.Proofs.Ytfifldbinnkdmaa
