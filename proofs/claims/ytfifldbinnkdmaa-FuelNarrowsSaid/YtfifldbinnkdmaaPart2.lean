/- fuel: a part of a book, in which a truth still lies. -/
import Derived.Test.YtfifldbinnkdmaaPart1
import Derived.Test.YtfifldbinnkdmaaPTru2
import Derived.Test.YtfifldbinnkdmaaJoin2
import Derived.Test.YtfifldbinnkdmaaBus2
import Derived.Test.YtfifldbinnkdmaaK1
set_option linter.unusedVariables false
set_option linter.unusedSimpArgs false
set_option linter.unnecessarySimpa false
namespace Go.Proofs.Ytfifldbinnkdmaa
open Go.RowKit Go.Shelf
set_option maxRecDepth 100000

def partA (b : Bok) (O C : List Int) (i : Nat) (l : List Acc) : Prop := l.length = b.accs.length ∧ (∀ k, k < b.accs.length → k < i → ((ga l k).kind = (ga b.accs k).kind ∧ (ga l k).name = (ga b.accs k).name) ∧ partS (ga l k).op (ga b.accs k).op (gi O k) ∧ partS (ga l k).cl (ga b.accs k).cl (gi C k)) ∧ ∀ k, i ≤ k → ga l k = ga b.accs k
theorem partA_zero (b : Bok) (O C : List Int) : partA b O C 0 b.accs := ⟨rfl, fun k _ h => by omega, fun _ _ => rfl⟩
theorem partA_at {b : Bok} {O C : List Int} {i : Nat} {l : List Acc} (h : partA b O C i l) (hi : i < b.accs.length) : l[i]? = some (ga b.accs i) := by rw [ga_at (by rw [h.1]; exact hi), h.2.2 i (Nat.le_refl _)]
theorem partA_step {b : Bok} {O C : List Int} {i : Nat} {l : List Acc} {y : Acc} (h : partA b O C i l) (hi : i < b.accs.length) (hk : y.kind = (ga b.accs i).kind ∧ y.name = (ga b.accs i).name) (ho : partS y.op (ga b.accs i).op (gi O i)) (hc : partS y.cl (ga b.accs i).cl (gi C i)) : partA b O C (i + 1) (l.set i y) := by
  have hl := h.1
  refine ⟨by rw [List.length_set]; exact hl, fun k hk' h2 => ?_, fun k h2 => ?_⟩
  · rw [ga_set (by omega)]
    split
    · rename_i e; subst e; exact ⟨hk, ho, hc⟩
    · exact h.2.1 k hk' (by omega)
  · rw [ga_set (by omega), if_neg (by omega)]
    exact h.2.2 k (by omega)
theorem gm_set {l : List Mv} {i k : Nat} {x : Mv} (hi : i < l.length) : gm (l.set i x) k = if k = i then x else gm l k := by
  unfold gm
  by_cases h : k = i
  · subst h; simp [hi]
  · simp only [List.getD_eq_getElem?_getD]
    rw [List.getElem?_set_ne (fun e => h e.symm), if_neg h]
def partM (b : Bok) (V : List Int) (i : Nat) (l : List Mv) : Prop := l.length = b.mvs.length ∧ (∀ k, k < b.mvs.length → k < i → ((gm l k).fr = (gm b.mvs k).fr ∧ (gm l k).to = (gm b.mvs k).to) ∧ partS (gm l k).li (gm b.mvs k).li (gi V k)) ∧ ∀ k, i ≤ k → gm l k = gm b.mvs k
theorem partM_zero (b : Bok) (V : List Int) : partM b V 0 b.mvs := ⟨rfl, fun k _ h => by omega, fun _ _ => rfl⟩
theorem partM_at {b : Bok} {V : List Int} {i : Nat} {l : List Mv} (h : partM b V i l) (hi : i < b.mvs.length) : l[i]? = some (gm b.mvs i) := by rw [gm_at (by rw [h.1]; exact hi), h.2.2 i (Nat.le_refl _)]
theorem partM_step {b : Bok} {V : List Int} {i : Nat} {l : List Mv} {y : Mv} (h : partM b V i l) (hi : i < b.mvs.length) (hk : y.fr = (gm b.mvs i).fr ∧ y.to = (gm b.mvs i).to) (ho : partS y.li (gm b.mvs i).li (gi V i)) : partM b V (i + 1) (l.set i y) := by
  have hl := h.1
  refine ⟨by rw [List.length_set]; exact hl, fun k hk' h2 => ?_, fun k h2 => ?_⟩
  · rw [gm_set (by omega)]
    split
    · rename_i e; subst e; exact ⟨hk, ho⟩
    · exact h.2.1 k hk' (by omega)
  · rw [gm_set (by omega), if_neg (by omega)]
    exact h.2.2 k (by omega)
theorem part_r {b : Bok} {O C V : List Int} {lA : List Acc} {lM : List Mv} {i j : Nat} (hA : partA b O C i lA) (hM : partM b V j lM) (hi : b.accs.length ≤ i) (hj : b.mvs.length ≤ j) : PartR ⟨lA, lM⟩ b O C V :=
  ⟨hA.1, hM.1, fun k hk => hA.2.1 k hk (by omega), fun k hk => hM.2.1 k hk (by omega)⟩
/-- What PartOf hands back. -/
def PartOfPost (sb : Nat) (b : Bok) (O C V : List Int) (w : World) : Ending → World → Prop := fun e w' => ∃ (c : Bok) (a1 : Option Addr) (c1 : Nat) (a2 : Option Addr) (c2 lo hi : Nat), e = .returned (.agg #[.slice a1 c.accs.length c1, .slice a2 c.mvs.length c2]) ∧ (w.heap.size ≤ lo ∧ hi ≤ w'.heap.size) ∧
  HasB lo hi w' (.slice a1 c.accs.length c1) (.slice a2 c.mvs.length c2) c ∧ PartR c b O C V ∧ SeedAt w' sb ∧ w.grownBy w' (some sb)
theorem part_sl {α : Type} {enc : α → List Value} {sz lo hi n c : Nat} {w : World} {a : Option Addr} {l : List α} (hl : l.length = n) (h : Sl enc sz lo hi w (.slice a n c) l) : Sl enc sz lo hi w (.slice a l.length c) l := by subst hl; exact h
set_option maxHeartbeats 16000000 in
theorem partOfB_c (sb : Nat) (l1 h1 l2 h2 : Nat) (va vm : Value) (b : Bok) (o1 o2 o3 o4 o5 o6 : Nat) (vo vc vv : Value) (O C V : List Int) (w : World) (hs : SeedAt w sb) (ha : Accs l1 h1 w va b.accs) (hm : Mvs l2 h2 w vm b.mvs) (b1 : h1 ≤ w.heap.size) (b2 : h2 ≤ w.heap.size) (ho : Ints o1 o2 w vo O) (q1 : o2 ≤ w.heap.size) (hc : Ints o3 o4 w vc C) (q2 : o4 ≤ w.heap.size) (hv : Ints o5 o6 w vv V) (q3 : o6 ≤ w.heap.size) (x1 : ¬ (l1 ≤ sb ∧ sb < h1)) (x2 : ¬ (l2 ≤ sb ∧ sb < h2)) (x3 : ¬ (o1 ≤ sb ∧ sb < o2)) (x4 : ¬ (o3 ≤ sb ∧ sb < o4)) (x5 : ¬ (o5 ≤ sb ∧ sb < o6)) (hG : BokG b) (hT : TruthIn b O C V) (hl : O.length = b.accs.length ∧ C.length = b.accs.length ∧ V.length = b.mvs.length) :
    Calls Try.prog 46 #[.pointer (some ⟨sb, 0, none⟩), .agg #[va, vm], .agg #[vo, vc, vv]] w (PartOfPost sb b O C V w) := by
  have F1 : Bus w sb [rseed sb] w := Bus.ofSeed hs
  have hsl := hs.lt
  clear hs
  have hm_ac := ha.len
  unfold maxLen at hm_ac
  obtain ⟨aca, ack, rfl⟩ := ha.any
  have F2 := F1.sl0 ha b1 x1 (onlyS_seed _)
  clear F1
  clear ha
  have hm_mv := hm.len
  unfold maxLen at hm_mv
  obtain ⟨mva, mvk, rfl⟩ := hm.any
  have F3 := F2.sl0 hm b2 x2 (onlyS_cons (onlyS_seed _) _ rfl)
  clear F2
  clear hm
  have hm_to := ho.len
  unfold maxLen at hm_to
  obtain ⟨toa, tok, rfl⟩ := ho.any
  have F4 := F3.sl0 ho q1 x3 (onlyS_cons (onlyS_cons (onlyS_seed _) _ rfl) _ rfl)
  clear F3
  clear ho
  have hm_tc := hc.len
  unfold maxLen at hm_tc
  obtain ⟨tca, tck, rfl⟩ := hc.any
  have F5 := F4.sl0 hc q2 x4 (onlyS_cons (onlyS_cons (onlyS_cons (onlyS_seed _) _ rfl) _ rfl) _ rfl)
  clear F4
  clear hc
  have hm_tv := hv.len
  unfold maxLen at hm_tv
  obtain ⟨tva, tvk, rfl⟩ := hv.any
  have F6 := F5.sl0 hv q3 x5 (onlyS_cons (onlyS_cons (onlyS_cons (onlyS_cons (onlyS_seed _) _ rfl) _ rfl) _ rfl) _ rfl)
  clear F5
  clear hv
  have HG := Lib.hid hG
  have HT := Lib.hid hT
  have hn0 := hG.n0
  have hn8 := hG.n8
  have hm3 := hG.m30
  have hll : ((O.length ≤ b.accs.length ∧ b.accs.length ≤ O.length) ∧ C.length ≤ b.accs.length ∧ b.accs.length ≤ C.length) ∧ V.length ≤ b.mvs.length ∧ b.mvs.length ≤ V.length := by omega
  clear hG hT hl
  go_enter Try.func46, Try.ntmps46
  go_wp2_with fail
  have F7 := F6.new 25 #[.slice aca b.accs.length ack, .slice mva b.mvs.length mvk] (n := w.heap.size) (by simp)
  clear F6
  have F8 := F7.new 32 #[.slice toa O.length tok, .slice tca C.length tck, .slice tva V.length tvk] (n := (w.heap.size + 1)) (by simp)
  clear F7
  have F9 := F8.new 25 #[.slice none 0 0, .slice none 0 0] (n := (w.heap.size + 2)) (by simp)
  clear F8
  obtain ⟨w10, hx11, F13, hxs12⟩ := (show Bus w sb [rbox (w.heap.size + 2) 25 #[.slice none 0 0, .slice none 0 0], rbox (w.heap.size + 1) 32 #[.slice toa O.length tok, .slice tca C.length tck, .slice tva V.length tvk], rbox w.heap.size 25 #[.slice aca b.accs.length ack, .slice mva b.mvs.length mvk], rsl intEnc 1 o5 o6 (.slice tva V.length tvk) V, rsl intEnc 1 o3 o4 (.slice tca C.length tck) C, rsl intEnc 1 o1 o2 (.slice toa O.length tok) O, rsl mvEnc 4 l2 h2 (.slice mva b.mvs.length mvk) b.mvs, rsl accEnc 6 l1 h1 (.slice aca b.accs.length ack) b.accs, rseed sb] _ from F9).name
  (try simp at hxs12)
  rw [hx11]
  clear hx11 F9
  refine (ownBook_b _ _ _ _ _ _ b _ (F13.at 7 rfl : Sl accEnc 6 l1 h1 _ (.slice aca b.accs.length ack) b.accs) (F13.at 6 rfl : Sl mvEnc 4 l2 h2 _ (.slice mva b.mvs.length mvk) b.mvs) (by first | omega | (simp; omega)) (by first | omega | (simp; omega)) (by omega) (by omega)).mono ?_
  rintro e w14 ⟨pA, kA, pM, kM, rfl, hB15⟩
  have hB15s := hB15.gb.size
  (try simp at hB15s)
  have F16 := F13.joinN (L2 := [rown accEnc 79 6 w10.heap.size (.slice pA b.accs.length kA) b.accs, rown mvEnc 76 4 w10.heap.size (.slice pM b.mvs.length kM) b.mvs]) hB15 rfl
  clear F13
  clear hB15
  (try dsimp only [List.cons_append, List.nil_append] at F16)
  have b17 := F16.bx2 4 rfl
  go_wp2_with fail
  clear b17
  have F18 := (F16.front 4 rfl rfl).pt2 (.slice pA b.accs.length kA) (.slice pM b.mvs.length kM)
  clear F16
  have F19 := F18.new 126 #[.pointer (some ⟨sb, 0, none⟩)] (n := w14.heap.size) (by simp)
  clear F18
  obtain ⟨gA, cz20, e_⟩ := Own.opn (F19.at 2 rfl : Own accEnc 79 6 w10.heap.size _ (.slice pA b.accs.length kA) b.accs) (by omega)
  injection e_ with e1_ _ e2_
  subst e1_ e2_
  have gAl := (F19.ltAt 2 rfl _ rfl).1
  (skip)
  obtain ⟨HI21_, HI210⟩ : ∃ I : (Nat → Value) → List Deferred → World → Prop, I = (fun t ds wr => ∃ (i : Nat) (lA : List Acc), t 4 = .pointer (some ⟨w.heap.size, 0, none⟩) ∧ t 5 = .pointer (some ⟨w.heap.size + 1, 0, none⟩) ∧ t 6 = .pointer (some ⟨w.heap.size + 2, 0, none⟩) ∧ t 7 = .pointer (some ⟨w14.heap.size, 0, none⟩) ∧ t 8 = .int .i64 (i : Int) ∧ i ≤ b.accs.length ∧ partA b O C i lA ∧ ds = [] ∧ w14.heap.size ≤ wr.heap.size ∧ Bus w sb [rbox w14.heap.size 126 #[.pointer (some ⟨sb, 0, none⟩)], rbox w.heap.size 25 #[.slice (some ⟨gA, 0, none⟩) b.accs.length kA, .slice pM b.mvs.length kM], rown accEnc 79 6 w10.heap.size (.slice (some ⟨gA, 0, none⟩) b.accs.length kA) lA, rown mvEnc 76 4 w10.heap.size (.slice pM b.mvs.length kM) b.mvs, rbox (w.heap.size + 2) 25 #[.slice none 0 0, .slice none 0 0], rbox (w.heap.size + 1) 32 #[.slice toa O.length tok, .slice tca C.length tck, .slice tva V.length tvk], rsl intEnc 1 o5 o6 (.slice tva V.length tvk) V, rsl intEnc 1 o3 o4 (.slice tca C.length tck) C, rsl intEnc 1 o1 o2 (.slice toa O.length tok) O, rsl mvEnc 4 l2 h2 (.slice mva b.mvs.length mvk) b.mvs, rsl accEnc 6 l1 h1 (.slice aca b.accs.length ack) b.accs, rseed sb] wr) := ⟨_, rfl⟩
  have HI21 := Lib.hid HI210
  clear HI210
  refine wp_loopS 80 rfl HI21_ (fun t wr => b.accs.length - (intOf (t 8)).toNat) ?atStart1 ?round1
  case round1 =>
    intro t ds wr hHid
    rw [HI21.out] at hHid
    obtain ⟨i, lA, e4, e5, e6, e7, e8, hrel⟩ := hHid
    have e : ((List.range 80).map t).toArray = #[t 0, t 1, t 2, t 3, t 4, t 5, t 6, t 7, t 8, t 9, t 10, t 11, t 12, t 13, t 14, t 15, t 16, t 17, t 18, t 19, t 20, t 21, t 22, t 23, t 24, t 25, t 26, t 27, t 28, t 29, t 30, t 31, t 32, t 33, t 34, t 35, t 36, t 37, t 38, t 39, t 40, t 41, t 42, t 43, t 44, t 45, t 46, t 47, t 48, t 49, t 50, t 51, t 52, t 53, t 54, t 55, t 56, t 57, t 58, t 59, t 60, t 61, t 62, t 63, t 64, t 65, t 66, t 67, t 68, t 69, t 70, t 71, t 72, t 73, t 74, t 75, t 76, t 77, t 78, t 79] := rfl
    (try dsimp only at e)
    rw [e4, e5, e6, e7, e8] at e
    rw [e]
    simp only [e8]
    clear e e4 e5 e6 e7 e8
    obtain ⟨hi0, hpa, rfl, hs23, hF22⟩ := hrel
    clear F19
    obtain ⟨w24, rfl⟩ : ∃ x_ : World, x_ = wr := ⟨_, rfl⟩
    have HPA := Lib.hid hpa
    clear hpa
    by_cases c25 : (i : Int) < (b.accs.length : Int)
    · skip
      have c25H := Lib.hid c25
      obtain ⟨x26, o27, e_⟩ := Sl.addr (hF22.at 8 rfl : Sl intEnc 1 o1 o2 _ (.slice toa O.length tok) O) (by omega)
      subst e_
      obtain ⟨x28, o29, e_⟩ := Sl.addr (hF22.at 7 rfl : Sl intEnc 1 o3 o4 _ (.slice tca C.length tck) C) (by omega)
      subst e_
      have hz30 : Hid (lA[i]? = some (ga b.accs i)) := Lib.hid (partA_at HPA.out (by omega))
      have hz31 : Hid (O[i]? = some (gi O i)) := Lib.hid (gi_at (by omega))
      have hz32 : Hid (C[i]? = some (gi C i)) := Lib.hid (gi_at (by omega))
      have hio : i < O.length := by omega
      have hic : i < C.length := by omega
      have htr := HT.out.acc i (by omega)
      unfold truA at htr
      have hgo := (HG.out.acc i (by omega)).op
      have hgc := (HG.out.acc i (by omega)).cl
      have b33 := hF22.bx2 1 rfl
      go_wp2_with fail
      clear b33
      have F34 := hF22.drew
      clear hF22
      refine ru_begin (fun W => W.cell? ⟨w14.heap.size, 0, none⟩ = some (.pointer (some ⟨sb, 0, none⟩)) ∧ W.cell? ⟨gA, i * 6 + 2, none⟩ = some (.int .i64 (ga b.accs i).op.lo) ∧ W.cell? ⟨gA, i * 6 + 2 + 1, none⟩ = some (.int .i64 (ga b.accs i).op.hi) ∧ W.cell? ⟨(w.heap.size + 1), 0, none⟩ = some (.slice (some ⟨x26, o27, none⟩) O.length tok) ∧ W.cell? ⟨x26, o27 + i, none⟩ = some (.int .i64 (gi O i)) ∧ W.cell? ⟨gA, i * 6 + 4, none⟩ = some (.int .i64 (ga b.accs i).cl.lo) ∧ W.cell? ⟨gA, i * 6 + 4 + 1, none⟩ = some (.int .i64 (ga b.accs i).cl.hi) ∧ W.cell? ⟨(w.heap.size + 1), 1, none⟩ = some (.slice (some ⟨x28, o29, none⟩) C.length tck) ∧ W.cell? ⟨x28, o29 + i, none⟩ = some (.int .i64 (gi C i))) 26 (by kernel_rfl) ?_ ?_
      · exact ⟨F34.cl 0 0 rfl rfl, (by simpa using (Own.sl (F34.at 2 rfl : Own accEnc 79 6 w10.heap.size _ (.slice (some ⟨gA, 0, none⟩) b.accs.length kA) lA) (fun _ => rfl)).cells hz30.out 2 _ rfl), (by simpa using (Own.sl (F34.at 2 rfl : Own accEnc 79 6 w10.heap.size _ (.slice (some ⟨gA, 0, none⟩) b.accs.length kA) lA) (fun _ => rfl)).cells hz30.out 3 _ rfl), F34.cl 5 0 rfl rfl, (by have h_ := ((F34.at 8 rfl : Sl intEnc 1 o1 o2 _ (.slice (some ⟨x26, o27, none⟩) O.length tok) O)).cells hz31.out 0 _ rfl; simpa using h_), (by simpa using (Own.sl (F34.at 2 rfl : Own accEnc 79 6 w10.heap.size _ (.slice (some ⟨gA, 0, none⟩) b.accs.length kA) lA) (fun _ => rfl)).cells hz30.out 4 _ rfl), (by simpa using (Own.sl (F34.at 2 rfl : Own accEnc 79 6 w10.heap.size _ (.slice (some ⟨gA, 0, none⟩) b.accs.length kA) lA) (fun _ => rfl)).cells hz30.out 5 _ rfl), F34.cl 5 1 rfl rfl, (by have h_ := ((F34.at 7 rfl : Sl intEnc 1 o3 o4 _ (.slice (some ⟨x28, o29, none⟩) C.length tck) C)).cells hz32.out 0 _ rfl; simpa using h_)⟩
      obtain ⟨wd36, hwd_⟩ : ∃ x : World, w24.drew = x := ⟨_, rfl⟩
      rw [hwd_] at F34 ⊢
      have wd36s : w24.heap.size ≤ wd36.heap.size := by rw [← hwd_]; exact Nat.le_refl _
      clear hwd_
      have hS35 := (And.intro (F34.cl 0 0 rfl rfl) (And.intro ((by simpa using (Own.sl (F34.at 2 rfl : Own accEnc 79 6 w10.heap.size _ (.slice (some ⟨gA, 0, none⟩) b.accs.length kA) lA) (fun _ => rfl)).cells hz30.out 2 _ rfl)) (And.intro ((by simpa using (Own.sl (F34.at 2 rfl : Own accEnc 79 6 w10.heap.size _ (.slice (some ⟨gA, 0, none⟩) b.accs.length kA) lA) (fun _ => rfl)).cells hz30.out 3 _ rfl)) (And.intro (F34.cl 5 0 rfl rfl) (And.intro ((by have h_ := ((F34.at 8 rfl : Sl intEnc 1 o1 o2 _ (.slice (some ⟨x26, o27, none⟩) O.length tok) O)).cells hz31.out 0 _ rfl; simpa using h_)) (And.intro ((by simpa using (Own.sl (F34.at 2 rfl : Own accEnc 79 6 w10.heap.size _ (.slice (some ⟨gA, 0, none⟩) b.accs.length kA) lA) (fun _ => rfl)).cells hz30.out 4 _ rfl)) (And.intro ((by simpa using (Own.sl (F34.at 2 rfl : Own accEnc 79 6 w10.heap.size _ (.slice (some ⟨gA, 0, none⟩) b.accs.length kA) lA) (fun _ => rfl)).cells hz30.out 5 _ rfl)) (And.intro (F34.cl 5 1 rfl rfl) ((by have h_ := ((F34.at 7 rfl : Sl intEnc 1 o3 o4 _ (.slice (some ⟨x28, o29, none⟩) C.length tck) C)).cells hz32.out 0 _ rfl; simpa using h_))))))))))
      refine ru_t 0 [] ?_
      refine ru_t 2 [] ?_
      refine ru_t 3 [] ?_
      refine ru_t 4 [] ?_
      refine ru_t 5 [] ?_
      refine ru_t 6 [] ?_
      refine ru_t 7 [] ?_
      refine ru_t 8 [] ?_
      refine ru_t 9 [] ?_
      refine ru_t 10 [] ?_
      refine ru_t 11 [] ?_
      refine ru_t 13 [23] ?_
      refine ru_t 14 [17, 16, 15] ?_
      refine ru_t 15 [17, 16] ?_
      refine ru_t 16 [17] ?_
      refine ru_t 17 [] ?_
      refine ru_t 18 [22, 21, 19] ?_
      refine ru_t 19 [22, 21] ?_
      refine ru_t 20 [22, 21] ?_
      refine ru_t 21 [22] ?_
      refine ru_t 22 [] ?_
      (try simp only [Act.put, List.setIfInBounds_toArray, List.set_cons_zero, List.set_cons_succ])
      refine ru_p 1 ?_
      (try simp only [Act.put, List.setIfInBounds_toArray, List.set_cons_zero, List.set_cons_succ])
      clear hS35
      refine ru_one 12 rfl (by kernel_rfl) (fun K hK => ?_)
      go_simp
      refine (partOf_c sb ((ga b.accs i).op) (gi O i) _ (F34.at 11 rfl : SeedAt _ sb) (by omega) (by omega)).mono ?_
      rintro e w39 ⟨co, rfl, hpo, hs38, hg37⟩
      have hg37s := hg37.size
      (try simp at hg37s)
      have F40 := F34.seedAt 11 rfl hg37 hs38
      clear F34
      refine ru_back hK (by exact ⟨F40.cl 0 0 rfl rfl, (by simpa using (Own.sl (F40.at 2 rfl : Own accEnc 79 6 w10.heap.size _ (.slice (some ⟨gA, 0, none⟩) b.accs.length kA) lA) (fun _ => rfl)).cells hz30.out 2 _ rfl), (by simpa using (Own.sl (F40.at 2 rfl : Own accEnc 79 6 w10.heap.size _ (.slice (some ⟨gA, 0, none⟩) b.accs.length kA) lA) (fun _ => rfl)).cells hz30.out 3 _ rfl), F40.cl 5 0 rfl rfl, (by have h_ := ((F40.at 8 rfl : Sl intEnc 1 o1 o2 _ (.slice (some ⟨x26, o27, none⟩) O.length tok) O)).cells hz31.out 0 _ rfl; simpa using h_), (by simpa using (Own.sl (F40.at 2 rfl : Own accEnc 79 6 w10.heap.size _ (.slice (some ⟨gA, 0, none⟩) b.accs.length kA) lA) (fun _ => rfl)).cells hz30.out 4 _ rfl), (by simpa using (Own.sl (F40.at 2 rfl : Own accEnc 79 6 w10.heap.size _ (.slice (some ⟨gA, 0, none⟩) b.accs.length kA) lA) (fun _ => rfl)).cells hz30.out 5 _ rfl), F40.cl 5 1 rfl rfl, (by have h_ := ((F40.at 7 rfl : Sl intEnc 1 o3 o4 _ (.slice (some ⟨x28, o29, none⟩) C.length tck) C)).cells hz32.out 0 _ rfl; simpa using h_)⟩) (fun hHeld => ?_)
      clear hK K
      (try simp only [Act.put, List.setIfInBounds_toArray, List.set_cons_zero, List.set_cons_succ])
      refine ru_one 23 rfl (by kernel_rfl) (fun K hK => ?_)
      go_simp
      refine (partOf_c sb ((ga b.accs i).cl) (gi C i) _ (F40.at 11 rfl : SeedAt _ sb) (by omega) (by omega)).mono ?_
      rintro e w43 ⟨cc, rfl, hpc, hs42, hg41⟩
      have hg41s := hg41.size
      (try simp at hg41s)
      have F44 := F40.seedAt 11 rfl hg41 hs42
      clear F40
      refine ru_back hK (by exact ⟨F44.cl 0 0 rfl rfl, (by simpa using (Own.sl (F44.at 2 rfl : Own accEnc 79 6 w10.heap.size _ (.slice (some ⟨gA, 0, none⟩) b.accs.length kA) lA) (fun _ => rfl)).cells hz30.out 2 _ rfl), (by simpa using (Own.sl (F44.at 2 rfl : Own accEnc 79 6 w10.heap.size _ (.slice (some ⟨gA, 0, none⟩) b.accs.length kA) lA) (fun _ => rfl)).cells hz30.out 3 _ rfl), F44.cl 5 0 rfl rfl, (by have h_ := ((F44.at 8 rfl : Sl intEnc 1 o1 o2 _ (.slice (some ⟨x26, o27, none⟩) O.length tok) O)).cells hz31.out 0 _ rfl; simpa using h_), (by simpa using (Own.sl (F44.at 2 rfl : Own accEnc 79 6 w10.heap.size _ (.slice (some ⟨gA, 0, none⟩) b.accs.length kA) lA) (fun _ => rfl)).cells hz30.out 4 _ rfl), (by simpa using (Own.sl (F44.at 2 rfl : Own accEnc 79 6 w10.heap.size _ (.slice (some ⟨gA, 0, none⟩) b.accs.length kA) lA) (fun _ => rfl)).cells hz30.out 5 _ rfl), F44.cl 5 1 rfl rfl, (by have h_ := ((F44.at 7 rfl : Sl intEnc 1 o3 o4 _ (.slice (some ⟨x28, o29, none⟩) C.length tck) C)).cells hz32.out 0 _ rfl; simpa using h_)⟩) (fun hHeld => ?_)
      clear hK K
      (try simp only [Act.put, List.setIfInBounds_toArray, List.set_cons_zero, List.set_cons_succ])
      refine ru_p 24 ?_
      (try simp only [Act.put, List.setIfInBounds_toArray, List.set_cons_zero, List.set_cons_succ])
      refine ru_p 25 ?_
      (try simp only [Act.put, List.setIfInBounds_toArray, List.set_cons_zero, List.set_cons_succ])
      refine ru_one 26 rfl (by kernel_rfl) (fun K hK => ?_)
      have kc0_ : World.cell? _ ⟨gA, i * 6 + 2, none⟩ = some (.int .i64 (ga b.accs i).op.lo) := (by simpa using (Own.sl (F44.at 2 rfl : Own accEnc 79 6 w10.heap.size _ (.slice (some ⟨gA, 0, none⟩) b.accs.length kA) lA) (fun _ => rfl)).cells hz30.out 2 _ rfl)
      have kf0_ : World.frozen? _ ⟨gA, i * 6 + 2, none⟩ = false := Own.live (F44.at 2 rfl : Own accEnc 79 6 w10.heap.size _ (.slice (some ⟨gA, 0, none⟩) b.accs.length kA) lA) _
      have kc1_ : World.cell? _ ⟨gA, i * 6 + 2 + 1, none⟩ = some (.int .i64 (ga b.accs i).op.hi) := (by simpa using (Own.sl (F44.at 2 rfl : Own accEnc 79 6 w10.heap.size _ (.slice (some ⟨gA, 0, none⟩) b.accs.length kA) lA) (fun _ => rfl)).cells hz30.out 3 _ rfl)
      have kf1_ : World.frozen? _ ⟨gA, i * 6 + 2 + 1, none⟩ = false := Own.live (F44.at 2 rfl : Own accEnc 79 6 w10.heap.size _ (.slice (some ⟨gA, 0, none⟩) b.accs.length kA) lA) _
      go_simp
      clear kc0_ kf0_ kc1_ kf1_
      have F45 := Bus.setOwn (sz := 6) (fun _ => rfl) (F44.front 2 rfl rfl) hz30.out (y := (⟨(ga b.accs i).name, (ga b.accs i).kind, ⟨co.lo, (ga b.accs i).op.hi⟩, ⟨(ga b.accs i).cl.lo, (ga b.accs i).cl.hi⟩⟩ : Acc)) (j := 2) (u := (.int .i64 co.lo)) (k := (i * 6 + 2)) (by decide) rfl (by omega)
      clear F44
      have hz46 : Hid ((lA.set i (⟨(ga b.accs i).name, (ga b.accs i).kind, ⟨co.lo, (ga b.accs i).op.hi⟩, ⟨(ga b.accs i).cl.lo, (ga b.accs i).cl.hi⟩⟩ : Acc))[i]? = some (⟨(ga b.accs i).name, (ga b.accs i).kind, ⟨co.lo, (ga b.accs i).op.hi⟩, ⟨(ga b.accs i).cl.lo, (ga b.accs i).cl.hi⟩⟩ : Acc)) := Lib.hid (set_at (by rw [HPA.out.1]; omega))
      have F47 := Bus.setOwn (sz := 6) (fun _ => rfl) F45 hz46.out (y := (⟨(ga b.accs i).name, (ga b.accs i).kind, ⟨co.lo, co.hi⟩, ⟨(ga b.accs i).cl.lo, (ga b.accs i).cl.hi⟩⟩ : Acc)) (j := 3) (u := (.int .i64 co.hi)) (k := (i * 6 + 2 + 1)) (by decide) rfl (by omega)
      clear F45
      rw [List.set_set] at F47
      have hz48 : Hid ((lA.set i (⟨(ga b.accs i).name, (ga b.accs i).kind, ⟨co.lo, co.hi⟩, ⟨(ga b.accs i).cl.lo, (ga b.accs i).cl.hi⟩⟩ : Acc))[i]? = some (⟨(ga b.accs i).name, (ga b.accs i).kind, ⟨co.lo, co.hi⟩, ⟨(ga b.accs i).cl.lo, (ga b.accs i).cl.hi⟩⟩ : Acc)) := Lib.hid (set_at (by rw [HPA.out.1]; omega))
      refine ru_back_late hK (by kernel_rfl) ?_
      clear hK K
      (try simp only [Act.put, List.setIfInBounds_toArray, List.set_cons_zero, List.set_cons_succ])
      refine ru_one 27 rfl (by kernel_rfl) (fun K hK => ?_)
      go_simp
      refine ru_back_late hK (by kernel_rfl) ?_
      clear hK K
      (try simp only [Act.put, List.setIfInBounds_toArray, List.set_cons_zero, List.set_cons_succ])
      refine ru_one 28 rfl (by kernel_rfl) (fun K hK => ?_)
      go_simp
      refine ru_back_late hK (by kernel_rfl) ?_
      clear hK K
      (try simp only [Act.put, List.setIfInBounds_toArray, List.set_cons_zero, List.set_cons_succ])
      refine ru_one 29 rfl (by kernel_rfl) (fun K hK => ?_)
      have kc0_ : World.cell? _ ⟨gA, i * 6 + 4, none⟩ = some (.int .i64 (ga b.accs i).cl.lo) := (by simpa using (Own.sl (F47.at 0 rfl : Own accEnc 79 6 w10.heap.size _ (.slice (some ⟨gA, 0, none⟩) b.accs.length kA) (lA.set i (⟨(ga b.accs i).name, (ga b.accs i).kind, ⟨co.lo, co.hi⟩, ⟨(ga b.accs i).cl.lo, (ga b.accs i).cl.hi⟩⟩ : Acc))) (fun _ => rfl)).cells hz48.out 4 _ rfl)
      have kf0_ : World.frozen? _ ⟨gA, i * 6 + 4, none⟩ = false := Own.live (F47.at 0 rfl : Own accEnc 79 6 w10.heap.size _ (.slice (some ⟨gA, 0, none⟩) b.accs.length kA) (lA.set i (⟨(ga b.accs i).name, (ga b.accs i).kind, ⟨co.lo, co.hi⟩, ⟨(ga b.accs i).cl.lo, (ga b.accs i).cl.hi⟩⟩ : Acc))) _
      have kc1_ : World.cell? _ ⟨gA, i * 6 + 4 + 1, none⟩ = some (.int .i64 (ga b.accs i).cl.hi) := (by simpa using (Own.sl (F47.at 0 rfl : Own accEnc 79 6 w10.heap.size _ (.slice (some ⟨gA, 0, none⟩) b.accs.length kA) (lA.set i (⟨(ga b.accs i).name, (ga b.accs i).kind, ⟨co.lo, co.hi⟩, ⟨(ga b.accs i).cl.lo, (ga b.accs i).cl.hi⟩⟩ : Acc))) (fun _ => rfl)).cells hz48.out 5 _ rfl)
      have kf1_ : World.frozen? _ ⟨gA, i * 6 + 4 + 1, none⟩ = false := Own.live (F47.at 0 rfl : Own accEnc 79 6 w10.heap.size _ (.slice (some ⟨gA, 0, none⟩) b.accs.length kA) (lA.set i (⟨(ga b.accs i).name, (ga b.accs i).kind, ⟨co.lo, co.hi⟩, ⟨(ga b.accs i).cl.lo, (ga b.accs i).cl.hi⟩⟩ : Acc))) _
      go_simp
      clear kc0_ kf0_ kc1_ kf1_
      have F49 := Bus.setOwn (sz := 6) (fun _ => rfl) F47 hz48.out (y := (⟨(ga b.accs i).name, (ga b.accs i).kind, ⟨co.lo, co.hi⟩, ⟨cc.lo, (ga b.accs i).cl.hi⟩⟩ : Acc)) (j := 4) (u := (.int .i64 cc.lo)) (k := (i * 6 + 4)) (by decide) rfl (by omega)
      clear F47
      rw [List.set_set] at F49
      have hz50 : Hid ((lA.set i (⟨(ga b.accs i).name, (ga b.accs i).kind, ⟨co.lo, co.hi⟩, ⟨cc.lo, (ga b.accs i).cl.hi⟩⟩ : Acc))[i]? = some (⟨(ga b.accs i).name, (ga b.accs i).kind, ⟨co.lo, co.hi⟩, ⟨cc.lo, (ga b.accs i).cl.hi⟩⟩ : Acc)) := Lib.hid (set_at (by rw [HPA.out.1]; omega))
      have F51 := Bus.setOwn (sz := 6) (fun _ => rfl) F49 hz50.out (y := (⟨(ga b.accs i).name, (ga b.accs i).kind, ⟨co.lo, co.hi⟩, ⟨cc.lo, cc.hi⟩⟩ : Acc)) (j := 5) (u := (.int .i64 cc.hi)) (k := (i * 6 + 4 + 1)) (by decide) rfl (by omega)
      clear F49
      rw [List.set_set] at F51
      have hz52 : Hid ((lA.set i (⟨(ga b.accs i).name, (ga b.accs i).kind, ⟨co.lo, co.hi⟩, ⟨cc.lo, cc.hi⟩⟩ : Acc))[i]? = some (⟨(ga b.accs i).name, (ga b.accs i).kind, ⟨co.lo, co.hi⟩, ⟨cc.lo, cc.hi⟩⟩ : Acc)) := Lib.hid (set_at (by rw [HPA.out.1]; omega))
      refine ru_back_late hK (by kernel_rfl) ?_
      clear hK K
      (try simp only [Act.put, List.setIfInBounds_toArray, List.set_cons_zero, List.set_cons_succ])
      refine ru_done (by kernel_rfl) ?_
      obtain ⟨w53, hx54, F56, hxs55⟩ := (show Bus w sb [rown accEnc 79 6 w10.heap.size (.slice (some ⟨gA, 0, none⟩) b.accs.length kA) (lA.set i (⟨(ga b.accs i).name, (ga b.accs i).kind, ⟨co.lo, co.hi⟩, ⟨cc.lo, cc.hi⟩⟩ : Acc)), rbox w14.heap.size 126 #[.pointer (some ⟨sb, 0, none⟩)], rbox w.heap.size 25 #[.slice (some ⟨gA, 0, none⟩) b.accs.length kA, .slice pM b.mvs.length kM], rown mvEnc 76 4 w10.heap.size (.slice pM b.mvs.length kM) b.mvs, rbox (w.heap.size + 2) 25 #[.slice none 0 0, .slice none 0 0], rbox (w.heap.size + 1) 32 #[.slice (some ⟨x26, o27, none⟩) O.length tok, .slice (some ⟨x28, o29, none⟩) C.length tck, .slice tva V.length tvk], rsl intEnc 1 o5 o6 (.slice tva V.length tvk) V, rsl intEnc 1 o3 o4 (.slice (some ⟨x28, o29, none⟩) C.length tck) C, rsl intEnc 1 o1 o2 (.slice (some ⟨x26, o27, none⟩) O.length tok) O, rsl mvEnc 4 l2 h2 (.slice mva b.mvs.length mvk) b.mvs, rsl accEnc 6 l1 h1 (.slice aca b.accs.length ack) b.accs, rseed sb] _ from F51).name
      (try simp at hxs55)
      rw [hx54]
      clear hx54 F51
      go_wp2_with fail
      have F57 : Bus w sb [rbox w14.heap.size 126 #[.pointer (some ⟨sb, 0, none⟩)], rbox w.heap.size 25 #[.slice (some ⟨gA, 0, none⟩) b.accs.length kA, .slice pM b.mvs.length kM], rown accEnc 79 6 w10.heap.size (.slice (some ⟨gA, 0, none⟩) b.accs.length kA) (lA.set i (⟨(ga b.accs i).name, (ga b.accs i).kind, ⟨co.lo, co.hi⟩, ⟨cc.lo, cc.hi⟩⟩ : Acc)), rown mvEnc 76 4 w10.heap.size (.slice pM b.mvs.length kM) b.mvs, rbox (w.heap.size + 2) 25 #[.slice none 0 0, .slice none 0 0], rbox (w.heap.size + 1) 32 #[.slice (some ⟨x26, o27, none⟩) O.length tok, .slice (some ⟨x28, o29, none⟩) C.length tck, .slice tva V.length tvk], rsl intEnc 1 o5 o6 (.slice tva V.length tvk) V, rsl intEnc 1 o3 o4 (.slice (some ⟨x28, o29, none⟩) C.length tck) C, rsl intEnc 1 o1 o2 (.slice (some ⟨x26, o27, none⟩) O.length tok) O, rsl mvEnc 4 l2 h2 (.slice mva b.mvs.length mvk) b.mvs, rsl accEnc 6 l1 h1 (.slice aca b.accs.length ack) b.accs, rseed sb] _ := F56.pick [1, 2, 0, 3, 4, 5, 6, 7, 8, 9, 10, 11] (by decide) rfl
      clear F56
      (first | refine ⟨by kernel_rfl, ?_, ?_⟩ | refine ⟨rfl, ?_, ?_⟩ | refine ⟨?_, ?_⟩)
      · rw [HI21.out]; exact ⟨i + 1, (lA.set i (⟨(ga b.accs i).name, (ga b.accs i).kind, ⟨co.lo, co.hi⟩, ⟨cc.lo, cc.hi⟩⟩ : Acc)), (by first | kernel_rfl | rfl), (by first | kernel_rfl | rfl), (by first | kernel_rfl | rfl), (by first | kernel_rfl | rfl), (by show Value.int .i64 ((i : Int) + 1) = _; simp), (by omega), partA_step HPA.out (by omega) ⟨rfl, rfl⟩ hpo hpc, (by first | rfl | simp), (by first | omega | (simp; done) | (simp; omega)), F57⟩
      · simp [slot, intOf]; omega
    · skip
      have c25H := Lib.hid c25
      have c25a : decide ((i : Int) < (b.accs.length : Int)) = false := dec_f c25
      have b58 := hF22.bx2 1 rfl
      go_wp2_with fail
      clear b58
      obtain ⟨HI59_, HI590⟩ : ∃ I : (Nat → Value) → List Deferred → World → Prop, I = (fun t ds wr => ∃ (j : Nat) (lM : List Mv), t 4 = .pointer (some ⟨w.heap.size, 0, none⟩) ∧ t 5 = .pointer (some ⟨w.heap.size + 1, 0, none⟩) ∧ t 6 = .pointer (some ⟨w.heap.size + 2, 0, none⟩) ∧ t 7 = .pointer (some ⟨w14.heap.size, 0, none⟩) ∧ t 10 = .int .i64 (j : Int) ∧ j ≤ b.mvs.length ∧ partM b V j lM ∧ ds = [] ∧ w24.heap.size ≤ wr.heap.size ∧ Bus w sb [rbox w14.heap.size 126 #[.pointer (some ⟨sb, 0, none⟩)], rbox w.heap.size 25 #[.slice (some ⟨gA, 0, none⟩) b.accs.length kA, .slice pM b.mvs.length kM], rown accEnc 79 6 w10.heap.size (.slice (some ⟨gA, 0, none⟩) b.accs.length kA) lA, rown mvEnc 76 4 w10.heap.size (.slice pM b.mvs.length kM) lM, rbox (w.heap.size + 2) 25 #[.slice none 0 0, .slice none 0 0], rbox (w.heap.size + 1) 32 #[.slice toa O.length tok, .slice tca C.length tck, .slice tva V.length tvk], rsl intEnc 1 o5 o6 (.slice tva V.length tvk) V, rsl intEnc 1 o3 o4 (.slice tca C.length tck) C, rsl intEnc 1 o1 o2 (.slice toa O.length tok) O, rsl mvEnc 4 l2 h2 (.slice mva b.mvs.length mvk) b.mvs, rsl accEnc 6 l1 h1 (.slice aca b.accs.length ack) b.accs, rseed sb] wr) := ⟨_, rfl⟩
      have HI59 := Lib.hid HI590
      clear HI590
      refine wp_loopS 80 rfl HI59_ (fun t wr => b.mvs.length - (intOf (t 10)).toNat) ?atStart2 ?round2
      case round2 =>
        intro t ds wr hHid
        rw [HI59.out] at hHid
        obtain ⟨j, lM, e4, e5, e6, e7, e10, hrel⟩ := hHid
        have e : ((List.range 80).map t).toArray = #[t 0, t 1, t 2, t 3, t 4, t 5, t 6, t 7, t 8, t 9, t 10, t 11, t 12, t 13, t 14, t 15, t 16, t 17, t 18, t 19, t 20, t 21, t 22, t 23, t 24, t 25, t 26, t 27, t 28, t 29, t 30, t 31, t 32, t 33, t 34, t 35, t 36, t 37, t 38, t 39, t 40, t 41, t 42, t 43, t 44, t 45, t 46, t 47, t 48, t 49, t 50, t 51, t 52, t 53, t 54, t 55, t 56, t 57, t 58, t 59, t 60, t 61, t 62, t 63, t 64, t 65, t 66, t 67, t 68, t 69, t 70, t 71, t 72, t 73, t 74, t 75, t 76, t 77, t 78, t 79] := rfl
        (try dsimp only at e)
        rw [e4, e5, e6, e7, e10] at e
        rw [e]
        simp only [e10]
        clear e e4 e5 e6 e7 e10
        obtain ⟨hj0, hpm, rfl, hs61, hF60⟩ := hrel
        clear hF22
        obtain ⟨w62, rfl⟩ : ∃ x_ : World, x_ = wr := ⟨_, rfl⟩
        have HPM := Lib.hid hpm
        clear hpm
        by_cases c63 : (j : Int) < (b.mvs.length : Int)
        · skip
          have c63H := Lib.hid c63
          obtain ⟨gM, cz64, e_⟩ := Own.opn (hF60.at 3 rfl : Own mvEnc 76 4 w10.heap.size _ (.slice pM b.mvs.length kM) lM) (by rw [HPM.out.1]; omega)
          injection e_ with e1_ _ e2_
          subst e1_ e2_
          have gMl := (hF60.ltAt 3 rfl _ rfl).1
          obtain ⟨x65, o66, e_⟩ := Sl.addr (hF60.at 6 rfl : Sl intEnc 1 o5 o6 _ (.slice tva V.length tvk) V) (by omega)
          subst e_
          have hz67 : Hid (lM[j]? = some (gm b.mvs j)) := Lib.hid (partM_at HPM.out (by omega))
          have hz68 : Hid (V[j]? = some (gi V j)) := Lib.hid (gi_at (by omega))
          have hjv : j < V.length := by omega
          have htr := HT.out.mv j (by omega)
          unfold truM at htr
          have hgl := (HG.out.mv j (by omega)).li
          have b69 := hF60.bx2 1 rfl
          go_wp2_with fail
          clear b69
          have F70 := hF60.drew
          clear hF60
          refine ru_begin (fun W => W.cell? ⟨w.heap.size, 1, none⟩ = some (.slice (some ⟨gM, 0, none⟩) b.mvs.length kM) ∧ W.cell? ⟨w14.heap.size, 0, none⟩ = some (.pointer (some ⟨sb, 0, none⟩)) ∧ W.cell? ⟨gM, j * 4 + 2, none⟩ = some (.int .i64 (gm b.mvs j).li.lo) ∧ W.cell? ⟨gM, j * 4 + 2 + 1, none⟩ = some (.int .i64 (gm b.mvs j).li.hi) ∧ W.cell? ⟨(w.heap.size + 1), 2, none⟩ = some (.slice (some ⟨x65, o66, none⟩) V.length tvk) ∧ W.cell? ⟨x65, o66 + j, none⟩ = some (.int .i64 (gi V j))) 18 (by kernel_rfl) ?_ ?_
          · exact ⟨F70.cl 1 1 rfl rfl, F70.cl 0 0 rfl rfl, (by simpa using (Own.sl (F70.at 3 rfl : Own mvEnc 76 4 w10.heap.size _ (.slice (some ⟨gM, 0, none⟩) b.mvs.length kM) lM) (fun _ => rfl)).cells hz67.out 2 _ rfl), (by simpa using (Own.sl (F70.at 3 rfl : Own mvEnc 76 4 w10.heap.size _ (.slice (some ⟨gM, 0, none⟩) b.mvs.length kM) lM) (fun _ => rfl)).cells hz67.out 3 _ rfl), F70.cl 5 2 rfl rfl, (by have h_ := ((F70.at 6 rfl : Sl intEnc 1 o5 o6 _ (.slice (some ⟨x65, o66, none⟩) V.length tvk) V)).cells hz68.out 0 _ rfl; simpa using h_)⟩
          obtain ⟨wd72, hwd_⟩ : ∃ x : World, w62.drew = x := ⟨_, rfl⟩
          rw [hwd_] at F70 ⊢
          have wd72s : w62.heap.size ≤ wd72.heap.size := by rw [← hwd_]; exact Nat.le_refl _
          clear hwd_
          have hS71 := (And.intro (F70.cl 1 1 rfl rfl) (And.intro (F70.cl 0 0 rfl rfl) (And.intro ((by simpa using (Own.sl (F70.at 3 rfl : Own mvEnc 76 4 w10.heap.size _ (.slice (some ⟨gM, 0, none⟩) b.mvs.length kM) lM) (fun _ => rfl)).cells hz67.out 2 _ rfl)) (And.intro ((by simpa using (Own.sl (F70.at 3 rfl : Own mvEnc 76 4 w10.heap.size _ (.slice (some ⟨gM, 0, none⟩) b.mvs.length kM) lM) (fun _ => rfl)).cells hz67.out 3 _ rfl)) (And.intro (F70.cl 5 2 rfl rfl) ((by have h_ := ((F70.at 6 rfl : Sl intEnc 1 o5 o6 _ (.slice (some ⟨x65, o66, none⟩) V.length tvk) V)).cells hz68.out 0 _ rfl; simpa using h_)))))))
          refine ru_t 0 [] ?_
          refine ru_t 1 [] ?_
          refine ru_t 2 [] ?_
          refine ru_t 3 [] ?_
          refine ru_t 4 [] ?_
          refine ru_t 5 [] ?_
          refine ru_t 6 [] ?_
          refine ru_t 7 [] ?_
          refine ru_t 8 [] ?_
          refine ru_t 9 [] ?_
          refine ru_t 10 [] ?_
          refine ru_t 11 [] ?_
          refine ru_t 12 [] ?_
          refine ru_t 13 [] ?_
          refine ru_t 14 [] ?_
          (try simp only [Act.put, List.setIfInBounds_toArray, List.set_cons_zero, List.set_cons_succ])
          clear hS71
          refine ru_one 15 rfl (by kernel_rfl) (fun K hK => ?_)
          go_simp
          refine (partOf_c sb ((gm b.mvs j).li) (gi V j) _ (F70.at 11 rfl : SeedAt _ sb) (by omega) (by omega)).mono ?_
          rintro e w75 ⟨cv, rfl, hpv, hs74, hg73⟩
          have hg73s := hg73.size
          (try simp at hg73s)
          have F76 := F70.seedAt 11 rfl hg73 hs74
          clear F70
          refine ru_back hK (by exact ⟨F76.cl 1 1 rfl rfl, F76.cl 0 0 rfl rfl, (by simpa using (Own.sl (F76.at 3 rfl : Own mvEnc 76 4 w10.heap.size _ (.slice (some ⟨gM, 0, none⟩) b.mvs.length kM) lM) (fun _ => rfl)).cells hz67.out 2 _ rfl), (by simpa using (Own.sl (F76.at 3 rfl : Own mvEnc 76 4 w10.heap.size _ (.slice (some ⟨gM, 0, none⟩) b.mvs.length kM) lM) (fun _ => rfl)).cells hz67.out 3 _ rfl), F76.cl 5 2 rfl rfl, (by have h_ := ((F76.at 6 rfl : Sl intEnc 1 o5 o6 _ (.slice (some ⟨x65, o66, none⟩) V.length tvk) V)).cells hz68.out 0 _ rfl; simpa using h_)⟩) (fun hHeld => ?_)
          clear hK K
          (try simp only [Act.put, List.setIfInBounds_toArray, List.set_cons_zero, List.set_cons_succ])
          refine ru_p 16 ?_
          (try simp only [Act.put, List.setIfInBounds_toArray, List.set_cons_zero, List.set_cons_succ])
          refine ru_p 17 ?_
          (try simp only [Act.put, List.setIfInBounds_toArray, List.set_cons_zero, List.set_cons_succ])
          refine ru_one 18 rfl (by kernel_rfl) (fun K hK => ?_)
          have kc0_ : World.cell? _ ⟨gM, j * 4 + 2, none⟩ = some (.int .i64 (gm b.mvs j).li.lo) := (by simpa using (Own.sl (F76.at 3 rfl : Own mvEnc 76 4 w10.heap.size _ (.slice (some ⟨gM, 0, none⟩) b.mvs.length kM) lM) (fun _ => rfl)).cells hz67.out 2 _ rfl)
          have kf0_ : World.frozen? _ ⟨gM, j * 4 + 2, none⟩ = false := Own.live (F76.at 3 rfl : Own mvEnc 76 4 w10.heap.size _ (.slice (some ⟨gM, 0, none⟩) b.mvs.length kM) lM) _
          have kc1_ : World.cell? _ ⟨gM, j * 4 + 2 + 1, none⟩ = some (.int .i64 (gm b.mvs j).li.hi) := (by simpa using (Own.sl (F76.at 3 rfl : Own mvEnc 76 4 w10.heap.size _ (.slice (some ⟨gM, 0, none⟩) b.mvs.length kM) lM) (fun _ => rfl)).cells hz67.out 3 _ rfl)
          have kf1_ : World.frozen? _ ⟨gM, j * 4 + 2 + 1, none⟩ = false := Own.live (F76.at 3 rfl : Own mvEnc 76 4 w10.heap.size _ (.slice (some ⟨gM, 0, none⟩) b.mvs.length kM) lM) _
          go_simp
          clear kc0_ kf0_ kc1_ kf1_
          have F77 := Bus.setOwn (sz := 4) (fun _ => rfl) (F76.front 3 rfl rfl) hz67.out (y := (⟨(gm b.mvs j).fr, (gm b.mvs j).to, ⟨cv.lo, (gm b.mvs j).li.hi⟩⟩ : Mv)) (j := 2) (u := (.int .i64 cv.lo)) (k := (j * 4 + 2)) (by decide) rfl (by omega)
          clear F76
          have hz78 : Hid ((lM.set j (⟨(gm b.mvs j).fr, (gm b.mvs j).to, ⟨cv.lo, (gm b.mvs j).li.hi⟩⟩ : Mv))[j]? = some (⟨(gm b.mvs j).fr, (gm b.mvs j).to, ⟨cv.lo, (gm b.mvs j).li.hi⟩⟩ : Mv)) := Lib.hid (set_at (by rw [HPM.out.1]; omega))
          have F79 := Bus.setOwn (sz := 4) (fun _ => rfl) F77 hz78.out (y := (⟨(gm b.mvs j).fr, (gm b.mvs j).to, ⟨cv.lo, cv.hi⟩⟩ : Mv)) (j := 3) (u := (.int .i64 cv.hi)) (k := (j * 4 + 2 + 1)) (by decide) rfl (by omega)
          clear F77
          rw [List.set_set] at F79
          have hz80 : Hid ((lM.set j (⟨(gm b.mvs j).fr, (gm b.mvs j).to, ⟨cv.lo, cv.hi⟩⟩ : Mv))[j]? = some (⟨(gm b.mvs j).fr, (gm b.mvs j).to, ⟨cv.lo, cv.hi⟩⟩ : Mv)) := Lib.hid (set_at (by rw [HPM.out.1]; omega))
          refine ru_back_late hK (by kernel_rfl) ?_
          clear hK K
          (try simp only [Act.put, List.setIfInBounds_toArray, List.set_cons_zero, List.set_cons_succ])
          refine ru_done (by kernel_rfl) ?_
          obtain ⟨w81, hx82, F84, hxs83⟩ := (show Bus w sb [rown mvEnc 76 4 w10.heap.size (.slice (some ⟨gM, 0, none⟩) b.mvs.length kM) (lM.set j (⟨(gm b.mvs j).fr, (gm b.mvs j).to, ⟨cv.lo, cv.hi⟩⟩ : Mv)), rbox w14.heap.size 126 #[.pointer (some ⟨sb, 0, none⟩)], rbox w.heap.size 25 #[.slice (some ⟨gA, 0, none⟩) b.accs.length kA, .slice (some ⟨gM, 0, none⟩) b.mvs.length kM], rown accEnc 79 6 w10.heap.size (.slice (some ⟨gA, 0, none⟩) b.accs.length kA) lA, rbox (w.heap.size + 2) 25 #[.slice none 0 0, .slice none 0 0], rbox (w.heap.size + 1) 32 #[.slice toa O.length tok, .slice tca C.length tck, .slice (some ⟨x65, o66, none⟩) V.length tvk], rsl intEnc 1 o5 o6 (.slice (some ⟨x65, o66, none⟩) V.length tvk) V, rsl intEnc 1 o3 o4 (.slice tca C.length tck) C, rsl intEnc 1 o1 o2 (.slice toa O.length tok) O, rsl mvEnc 4 l2 h2 (.slice mva b.mvs.length mvk) b.mvs, rsl accEnc 6 l1 h1 (.slice aca b.accs.length ack) b.accs, rseed sb] _ from F79).name
          (try simp at hxs83)
          rw [hx82]
          clear hx82 F79
          go_wp2_with fail
          have F85 : Bus w sb [rbox w14.heap.size 126 #[.pointer (some ⟨sb, 0, none⟩)], rbox w.heap.size 25 #[.slice (some ⟨gA, 0, none⟩) b.accs.length kA, .slice (some ⟨gM, 0, none⟩) b.mvs.length kM], rown accEnc 79 6 w10.heap.size (.slice (some ⟨gA, 0, none⟩) b.accs.length kA) lA, rown mvEnc 76 4 w10.heap.size (.slice (some ⟨gM, 0, none⟩) b.mvs.length kM) (lM.set j (⟨(gm b.mvs j).fr, (gm b.mvs j).to, ⟨cv.lo, cv.hi⟩⟩ : Mv)), rbox (w.heap.size + 2) 25 #[.slice none 0 0, .slice none 0 0], rbox (w.heap.size + 1) 32 #[.slice toa O.length tok, .slice tca C.length tck, .slice (some ⟨x65, o66, none⟩) V.length tvk], rsl intEnc 1 o5 o6 (.slice (some ⟨x65, o66, none⟩) V.length tvk) V, rsl intEnc 1 o3 o4 (.slice tca C.length tck) C, rsl intEnc 1 o1 o2 (.slice toa O.length tok) O, rsl mvEnc 4 l2 h2 (.slice mva b.mvs.length mvk) b.mvs, rsl accEnc 6 l1 h1 (.slice aca b.accs.length ack) b.accs, rseed sb] _ := F84.pick [1, 2, 3, 0, 4, 5, 6, 7, 8, 9, 10, 11] (by decide) rfl
          clear F84
          (first | refine ⟨by kernel_rfl, ?_, ?_⟩ | refine ⟨rfl, ?_, ?_⟩ | refine ⟨?_, ?_⟩)
          · rw [HI59.out]; exact ⟨j + 1, (lM.set j (⟨(gm b.mvs j).fr, (gm b.mvs j).to, ⟨cv.lo, cv.hi⟩⟩ : Mv)), (by first | kernel_rfl | rfl), (by first | kernel_rfl | rfl), (by first | kernel_rfl | rfl), (by first | kernel_rfl | rfl), (by show Value.int .i64 ((j : Int) + 1) = _; simp), (by omega), partM_step HPM.out (by omega) ⟨rfl, rfl⟩ hpv, (by first | rfl | simp), (by first | omega | (simp; done) | (simp; omega)), F85⟩
          · simp [slot, intOf]; omega
        · skip
          have c63H := Lib.hid c63
          have c63a : decide ((j : Int) < (b.mvs.length : Int)) = false := dec_f c63
          have b86 := hF60.bx2 1 rfl
          have b87 := hF60.bx2 4 rfl
          go_wp2_with fail
          clear b86 b87
          have F88 := (hF60.front 4 rfl rfl).pt2 (.slice (some ⟨gA, 0, none⟩) b.accs.length kA) (.slice pM b.mvs.length kM)
          clear hF60
          have kb89 := F88.bx2 0 rfl
          go_wp2_with fail
          exact bodyPost_ret (v := .agg #[.slice (some ⟨gA, 0, none⟩) b.accs.length kA, .slice pM b.mvs.length kM]) (by simp [results, Try.results46, go_sem, kb89]) rfl (⟨⟨lA, lM⟩, _, _, _, _, w.heap.size, _, (by rw [← HPA.out.1, ← HPM.out.1]), ⟨Nat.le_refl _, Nat.le_refl _⟩, ⟨part_sl HPA.out.1 (Sl.wide (Own.sl (F88.at 3 rfl : Own accEnc 79 6 w10.heap.size _ (.slice (some ⟨gA, 0, none⟩) b.accs.length kA) lA) (fun _ => rfl)) (by first | omega | (simp; omega)) (Nat.le_refl _)), part_sl HPM.out.1 (Sl.wide (Own.sl (F88.at 4 rfl : Own mvEnc 76 4 w10.heap.size _ (.slice pM b.mvs.length kM) lM) (fun _ => rfl)) (by first | omega | (simp; omega)) (Nat.le_refl _))⟩, part_r HPA.out HPM.out (by omega) (by omega), (F88.at 11 rfl : SeedAt _ sb), F88.gb⟩)
      case atStart2 =>
        rw [HI59.out]
        exact ⟨0, _, (by first | kernel_rfl | rfl), (by first | kernel_rfl | rfl), (by first | kernel_rfl | rfl), (by first | kernel_rfl | rfl), rfl, Nat.zero_le _, partM_zero _ _, rfl, (by first | exact Nat.le_refl _ | omega | (simp; done) | (simp; omega)), hF22⟩
  case atStart1 =>
    rw [HI21.out]
    exact ⟨0, _, (by first | kernel_rfl | rfl), (by first | kernel_rfl | rfl), (by first | kernel_rfl | rfl), (by first | kernel_rfl | rfl), rfl, Nat.zero_le _, partA_zero _ _ _, rfl, (by first | exact Nat.le_refl _ | omega | (simp; done) | (simp; omega)), F19⟩

end Go.Proofs.Ytfifldbinnkdmaa
