/- fuel: all truths of a small book. -/
import Derived.Test.YtfifldbinnkdmaaKE
import Derived.Test.YtfifldbinnkdmaaKK
import Derived.Test.YtfifldbinnkdmaaKM
import Derived.Test.YtfifldbinnkdmaaLos
import Derived.Test.YtfifldbinnkdmaaNums
import Derived.Test.YtfifldbinnkdmaaJoin2
import Derived.Test.YtfifldbinnkdmaaK1
import Derived.Test.YtfifldbinnkdmaaBal
import Derived.Test.YtfifldbinnkdmaaKitB
import Derived.Lib.SliceRun
set_option linter.unusedVariables false
set_option linter.unusedSimpArgs false
set_option linter.unnecessarySimpa false
namespace Go.Proofs.Ytfifldbinnkdmaa
open Go.RowKit Go.Shelf
set_option maxRecDepth 100000

theorem sA_step {f : Acc → Sp} {l : List Acc} {i : Nat} (X : List Sp) (h : i < l.length) : X ++ spansA f l i ++ [⟨(f (ga l i)).lo, (f (ga l i)).hi⟩] = X ++ spansA f l (i + 1) := by rw [List.append_assoc, spansA_succ h]
theorem sA_zero {f : Acc → Sp} {l : List Acc} (X : List Sp) : X ++ spansA f l 0 = X := by simp [spansA]
theorem sO_step {b : Bok} {i : Nat} (X : List Sp) (h : i < b.accs.length) : X ++ spansA (·.op) b.accs i ++ [⟨(ga b.accs i).op.lo, (ga b.accs i).op.hi⟩] = X ++ spansA (·.op) b.accs (i + 1) := sA_step (f := (·.op)) X h
theorem sC_step {b : Bok} {i : Nat} (X : List Sp) (h : i < b.accs.length) : X ++ spansA (·.cl) b.accs i ++ [⟨(ga b.accs i).cl.lo, (ga b.accs i).cl.hi⟩] = X ++ spansA (·.cl) b.accs (i + 1) := sA_step (f := (·.cl)) X h
theorem sM_step {l : List Mv} {i : Nat} (X : List Sp) (h : i < l.length) : X ++ spansM l i ++ [⟨(gm l i).li.lo, (gm l i).li.hi⟩] = X ++ spansM l (i + 1) := by rw [List.append_assoc, spansM_succ h]
theorem sM_zero {l : List Mv} (X : List Sp) : X ++ spansM l 0 = X := by simp [spansM]
/-- The first numbers begin at their least ones. -/
def nowF (l : List Sp) (i : Nat) : List Int := (List.range l.length).map fun j => if j < i then (gs l j).lo else 0
theorem nowF_len (l : List Sp) (i : Nat) : (nowF l i).length = l.length := by simp [nowF]
theorem nowF_zero (l : List Sp) : nowF l 0 = List.replicate l.length 0 := by
  refine List.ext_getElem (by simp [nowF]) fun j h1 h2 => ?_
  simp [nowF]
theorem nowF_set {l : List Sp} {i : Nat} (h : i < l.length) : (nowF l i).set i (gs l i).lo = nowF l (i + 1) := by
  refine List.ext_getElem (by simp [nowF]) fun j h1 h2 => ?_
  rw [List.getElem_set]
  simp only [nowF, List.getElem_map, List.getElem_range]
  by_cases e : i = j
  · subst e; simp
  · rw [if_neg e]
    have e1 : (j < i) = (j < i + 1) := by apply propext; omega
    simp only [e1]
theorem nowF_all (l : List Sp) : nowF l l.length = loC l := by
  refine List.ext_getElem (by simp [nowF, loC]) fun j h1 h2 => ?_
  have hj : j < l.length := by simpa [nowF] using h1
  simp [nowF, loC, gs, hj]
def rightF (b : Bok) (x : List Int) : Nat → Bool
  | 0 => true
  | k + 1 => rightF b x k && decide (0 ≤ gi (lsM b (oO b x) (oC b x) (oV b x) b.mvs.length) k) && ((gi (lsM b (oO b x) (oC b x) (oV b x) b.mvs.length) k == 0) || ((ga b.accs k).kind == 1))
theorem right_iff {b : Bok} {x : List Int} : rightF b x b.accs.length = true ↔ rightP b x := by
  have key : ∀ n, rightF b x n = true ↔ ∀ k, k < n → 0 ≤ gi (lsM b (oO b x) (oC b x) (oV b x) b.mvs.length) k ∧ (gi (lsM b (oO b x) (oC b x) (oV b x) b.mvs.length) k = 0 ∨ (ga b.accs k).kind = 1) := by
    intro n
    induction n with
    | zero => simp [rightF]
    | succ n ih =>
      simp only [rightF, Bool.and_eq_true, Bool.or_eq_true, decide_eq_true_eq, beq_iff_eq, ih]
      constructor
      · rintro ⟨⟨h1, h2⟩, h3⟩ k hk
        by_cases e : k = n
        · subst e; exact ⟨h2, h3⟩
        · exact h1 k (by omega)
      · intro h
        exact ⟨⟨fun k hk => h k (by omega), (h n (by omega)).1⟩, (h n (by omega)).2⟩
  exact key _
theorem rF_no {b : Bok} {x : List Int} {m : Nat} (h : rightF b x m = false) : false = rightF b x (m + 1) := by simp [rightF, h]
section
variable {b : Bok} {x : List Int} {m : Nat}
theorem rF_neg (h : ¬ 0 ≤ gi (lsM b (oO b x) (oC b x) (oV b x) b.mvs.length) m) : false = rightF b x (m + 1) := by
  have h1 : decide (0 ≤ gi (lsM b (oO b x) (oC b x) (oV b x) b.mvs.length) m) = false := decide_eq_false h
  simp only [rightF, h1, Bool.and_false, Bool.false_and]
theorem rF_zero (h1 : rightF b x m = true) (h2 : 0 ≤ gi (lsM b (oO b x) (oC b x) (oV b x) b.mvs.length) m) (h3 : gi (lsM b (oO b x) (oC b x) (oV b x) b.mvs.length) m = 0) : true = rightF b x (m + 1) := by
  have e1 : decide (0 ≤ gi (lsM b (oO b x) (oC b x) (oV b x) b.mvs.length) m) = true := decide_eq_true h2
  simp only [rightF, h1, e1, beq_t h3, Bool.and_true, Bool.true_or]
theorem rF_kind (h1 : rightF b x m = true) (h2 : 0 ≤ gi (lsM b (oO b x) (oC b x) (oV b x) b.mvs.length) m) (h3 : ¬ gi (lsM b (oO b x) (oC b x) (oV b x) b.mvs.length) m = 0) : ((ga b.accs m).kind == 1) = rightF b x (m + 1) := by
  have e1 : decide (0 ≤ gi (lsM b (oO b x) (oC b x) (oV b x) b.mvs.length) m) = true := decide_eq_true h2
  simp only [rightF, h1, e1, beq_f h3, Bool.true_and, Bool.false_or]
end
theorem hi_step {l : List Sp} {x : List Int} {q : Nat} (h : ∀ j, q + 1 ≤ j → j < l.length → gi x j = (gs l j).hi) (hq : gi x q = (gs l q).hi) : ∀ j, q ≤ j → j < l.length → gi x j = (gs l j).hi := by
  intro j h1 h2
  rcases Nat.lt_or_ge j (q + 1) with h3 | h3
  · have h4 : j = q := by omega
    rw [h4]; exact hq
  · exact h j h3 h2
theorem own_t3 (lo hi : Nat) (v : Value) (l : List Int) (w : World) (h : Ints lo hi w v l) (hb : l.length ≤ 100000000000) : Calls Try.prog 29 #[v] w (fun e w' => ∃ (a : Option Addr) (c lo hi : Nat), e = .returned (.slice a l.length c) ∧ (w.heap.size ≤ lo ∧ hi ≤ w'.heap.size) ∧ Sl intEnc 1 lo hi w' (.slice a l.length c) l ∧ w.grownBy w' none) := by
  refine (own_c lo hi v l w h hb).mono ?_
  rintro e w' ⟨v', rfl, hs, hg⟩
  obtain ⟨a, c, rfl⟩ := hs.any
  exact ⟨a, c, _, _, rfl, ⟨Nat.le_refl _, Nat.le_refl _⟩, hs, hg⟩
def newT (k : Nat) (T : List TrV) : Prop := ∀ t, t ∈ T → k ≤ t.l1 ∧ k ≤ t.l2 ∧ k ≤ t.l3
theorem newT_app {k : Nat} {T : List TrV} {t : TrV} (h : newT k T) (ht : k ≤ t.l1 ∧ k ≤ t.l2 ∧ k ≤ t.l3) : newT k (T ++ [t]) := by
  intro u hu
  rcases List.mem_append.1 hu with hu | hu
  · exact h u hu
  · rw [List.mem_singleton] at hu
    subst hu
    exact ht
theorem nowAtN_own {e : TypeId} {base : Nat} {w : World} {g n cap N : Nat} {l : List Int} (h : Own intEnc e 1 base w (.slice (some ⟨g, 0, none⟩) n cap) l) (hl : l.length = N) : nowAt w g N = l := by
  subst hl
  exact Own.nowAt h
theorem slices3 {b : Bok} {g : Nat} {x : List Int} (hx : x.length = (spansL b).length) : ∃ (s2 s3 : Option Addr) (c2 c3 : Nat),
    (∀ w, (Instr.sliceAt 26 (.slice (some ⟨g, 0, none⟩) (spansL b).length (spansL b).length) none (some (.int .i64 (b.accs.length : Int))) none).run Try.prog w = .ok (.slice (some ⟨g, 0, none⟩) b.accs.length (spansL b).length) w) ∧
    (∀ w, (Instr.sliceAt 26 (.slice (some ⟨g, 0, none⟩) (spansL b).length (spansL b).length) (some (.int .i64 (b.accs.length : Int))) (some (.int .i64 (2 * (b.accs.length : Int)))) none).run Try.prog w = .ok (.slice s2 b.accs.length c2) w) ∧
    (∀ w, (Instr.sliceAt 26 (.slice (some ⟨g, 0, none⟩) (spansL b).length (spansL b).length) (some (.int .i64 (2 * (b.accs.length : Int)))) none none).run Try.prog w = .ok (.slice s3 b.mvs.length c3) w) ∧
    ∀ lo hi w, Sl intEnc 1 lo hi w (.slice (some ⟨g, 0, none⟩) (spansL b).length (spansL b).length) x → Sl intEnc 1 lo hi w (.slice (some ⟨g, 0, none⟩) b.accs.length (spansL b).length) (oO b x) ∧ Sl intEnc 1 lo hi w (.slice s2 b.accs.length c2) (oC b x) ∧ Sl intEnc 1 lo hi w (.slice s3 b.mvs.length c3) (oV b x) := by
  have hl := spansL_len' b
  have e2 : 2 * b.accs.length - b.accs.length = b.accs.length := by omega
  have e3 : (spansL b).length - 2 * b.accs.length = b.mvs.length := by omega
  refine ⟨if (spansL b).length = b.accs.length then some ⟨g, 0, none⟩ else (some ⟨g, 0, none⟩ : Option Addr).map (·.add (b.accs.length * 1)), if (spansL b).length = 2 * b.accs.length then some ⟨g, 0, none⟩ else (some ⟨g, 0, none⟩ : Option Addr).map (·.add (2 * b.accs.length * 1)), (spansL b).length - b.accs.length, b.mvs.length, fun w => slice_pre okInt (by omega) w, fun w => ?_, fun w => ?_, fun lo hi w h => ⟨Sl.take h (by omega), ?_, ?_⟩⟩
  · have h := slice_mid okInt (a := some ⟨g, 0, none⟩) (n := (spansL b).length) (c := (spansL b).length) (l := b.accs.length) (h := 2 * b.accs.length) (by omega) (by omega) w
    rw [e2] at h
    exact h
  · have h := slice_suf okInt (a := some ⟨g, 0, none⟩) (n := (spansL b).length) (c := (spansL b).length) (k := 2 * b.accs.length) (by omega) w
    rw [e3] at h
    exact h
  · have h2 := Sl.mid h (l := b.accs.length) (h := 2 * b.accs.length) (by omega) (by omega) (by omega)
    rw [e2] at h2
    exact h2
  · have h2 := Sl.drop h (k := 2 * b.accs.length) (by omega) (by omega)
    rw [e3] at h2
    exact h2
theorem rng_truths_c (t : Nat → Value) : ((List.range 175).map t).toArray = List.toArray [t 0, t 1, t 2, t 3, t 4, t 5, t 6, t 7, t 8, t 9, t 10, t 11, t 12, t 13, t 14, t 15, t 16, t 17, t 18, t 19, t 20, t 21, t 22, t 23, t 24, t 25, t 26, t 27, t 28, t 29, t 30, t 31, t 32, t 33, t 34, t 35, t 36, t 37, t 38, t 39, t 40, t 41, t 42, t 43, t 44, t 45, t 46, t 47, t 48, t 49, t 50, t 51, t 52, t 53, t 54, t 55, t 56, t 57, t 58, t 59, t 60, t 61, t 62, t 63, t 64, t 65, t 66, t 67, t 68, t 69, t 70, t 71, t 72, t 73, t 74, t 75, t 76, t 77, t 78, t 79, t 80, t 81, t 82, t 83, t 84, t 85, t 86, t 87, t 88, t 89, t 90, t 91, t 92, t 93, t 94, t 95, t 96, t 97, t 98, t 99, t 100, t 101, t 102, t 103, t 104, t 105, t 106, t 107, t 108, t 109, t 110, t 111, t 112, t 113, t 114, t 115, t 116, t 117, t 118, t 119, t 120, t 121, t 122, t 123, t 124, t 125, t 126, t 127, t 128, t 129, t 130, t 131, t 132, t 133, t 134, t 135, t 136, t 137, t 138, t 139, t 140, t 141, t 142, t 143, t 144, t 145, t 146, t 147, t 148, t 149, t 150, t 151, t 152, t 153, t 154, t 155, t 156, t 157, t 158, t 159, t 160, t 161, t 162, t 163, t 164, t 165, t 166, t 167, t 168, t 169, t 170, t 171, t 172, t 173, t 174] := rfl
set_option maxHeartbeats 16000000 in
theorem truths_c (lo hi : Nat) (va vm : Value) (b : Bok) (w : World) (hb : HasB lo hi w va vm b) (hn : nameOk b.accs) (hh : hi ≤ w.heap.size) (hok : BokOk b) (hsz : sizeC (spansL b) ≤ 6000) :
    Calls Try.prog 50 #[.agg #[va, vm], .int .i64 6000] w (fun e w' => ∃ (a : Option Addr) (n c k1 : Nat) (T : List TrV), e = .returned (.slice a n c) ∧ n = T.length ∧ TruS b (sizeC (spansL b)) T ∧ sizeC (spansL b) ≤ 6000 ∧ newT w.heap.size T ∧ Bun w [rown trvEnc 32 3 k1 (.slice a n c) T, rtrs T] w') := by
 have F1 : Bun w [] w := Bun.nil _
 obtain ⟨hba, hbm⟩ := id hb
 clear hb
 have hm_ac := hba.len
 unfold maxLen at hm_ac
 obtain ⟨aa, ak, rfl⟩ := hba.any
 have F2 := F1.sl0 hba hh rfl
 clear F1
 clear hba
 have hm_mv := hbm.len
 unfold maxLen at hm_mv
 obtain ⟨ma, mk, rfl⟩ := hbm.any
 have F3 := F2.sl0 hbm hh rfl
 clear F2
 clear hbm
 have HN := Lib.hid hn
 clear hn
 have HOK := Lib.hid hok
 have hn0 := hok.n0
 have h8_ := hok.n8
 have h30_ := hok.m30
 have HSZ := Lib.hid hsz
 clear hok hsz
 go_enter Try.func50, Try.ntmps50
 go_wp2_with fail
 have F4 := F3.new 25 #[.slice aa b.accs.length ak, .slice ma b.mvs.length mk] (n := w.heap.size) (by simp)
 clear F3
 have F5 := F4.rowN spEnc 40 2
 clear F4
 (skip)
 obtain ⟨HI6_, HI60⟩ : ∃ I : (Nat → Value) → List Deferred → World → Prop, I = (fun t ds wr => ∃ (i : Nat) (vo : Value), t 1 = .int .i64 6000 ∧ t 2 = .pointer (some ⟨w.heap.size, 0, none⟩) ∧ t 5 = .int .i64 (b.accs.length : Int) ∧ t 6 = vo ∧ t 7 = .int .i64 (i : Int) ∧ i ≤ b.accs.length ∧ ds = [] ∧ w.heap.size ≤ wr.heap.size ∧ Bun w [rown spEnc 40 2 w.heap.size vo (([] : List Sp) ++ (spansA (·.op) b.accs i)), rbox w.heap.size 25 #[.slice aa b.accs.length ak, .slice ma b.mvs.length mk], rsl mvEnc 4 lo hi (.slice ma b.mvs.length mk) b.mvs, rsl accEnc 6 lo hi (.slice aa b.accs.length ak) b.accs] wr) := ⟨_, rfl⟩
 have HI6 := Lib.hid HI60
 clear HI60
 refine wp_loopS 175 rfl HI6_ (fun t wr => b.accs.length - (intOf (t 7)).toNat) ?atStart1 ?round1
 case round1 =>
  intro t ds wr hHid
  rw [HI6.out] at hHid
  obtain ⟨i, vo, e1, e2, e5, e6, e7, hrel⟩ := hHid
  have e : ((List.range 175).map t).toArray = #[t 0, t 1, t 2, t 3, t 4, t 5, t 6, t 7, t 8, t 9, t 10, t 11, t 12, t 13, t 14, t 15, t 16, t 17, t 18, t 19, t 20, t 21, t 22, t 23, t 24, t 25, t 26, t 27, t 28, t 29, t 30, t 31, t 32, t 33, t 34, t 35, t 36, t 37, t 38, t 39, t 40, t 41, t 42, t 43, t 44, t 45, t 46, t 47, t 48, t 49, t 50, t 51, t 52, t 53, t 54, t 55, t 56, t 57, t 58, t 59, t 60, t 61, t 62, t 63, t 64, t 65, t 66, t 67, t 68, t 69, t 70, t 71, t 72, t 73, t 74, t 75, t 76, t 77, t 78, t 79, t 80, t 81, t 82, t 83, t 84, t 85, t 86, t 87, t 88, t 89, t 90, t 91, t 92, t 93, t 94, t 95, t 96, t 97, t 98, t 99, t 100, t 101, t 102, t 103, t 104, t 105, t 106, t 107, t 108, t 109, t 110, t 111, t 112, t 113, t 114, t 115, t 116, t 117, t 118, t 119, t 120, t 121, t 122, t 123, t 124, t 125, t 126, t 127, t 128, t 129, t 130, t 131, t 132, t 133, t 134, t 135, t 136, t 137, t 138, t 139, t 140, t 141, t 142, t 143, t 144, t 145, t 146, t 147, t 148, t 149, t 150, t 151, t 152, t 153, t 154, t 155, t 156, t 157, t 158, t 159, t 160, t 161, t 162, t 163, t 164, t 165, t 166, t 167, t 168, t 169, t 170, t 171, t 172, t 173, t 174] := rfl
  (try dsimp only at e)
  rw [e1, e2, e5, e6, e7] at e
  rw [e]
  simp only [e7]
  clear e e1 e2 e5 e6 e7
  obtain ⟨hi0, rfl, hs8, hF7⟩ := hrel
  clear F5
  obtain ⟨w9, rfl⟩ : ∃ x_ : World, x_ = wr := ⟨_, rfl⟩
  by_cases c10 : (i : Int) < (b.accs.length : Int)
  ·
   have c10H := Lib.hid c10
   obtain ⟨x11, o12, e_⟩ := Sl.addr (hF7.at 3 rfl : Sl accEnc 6 lo hi _ (.slice aa b.accs.length ak) b.accs) (by omega)
   subst e_
   have hz13 : Hid (b.accs[i]? = some (ga b.accs i)) := Lib.hid (ga_at (by omega))
   have hib : i < b.accs.length := by omega
   have b14 := hF7.bx2 1 rfl
   have ge15 : World.cell? _ ⟨x11, o12 + i * 6 + 2, none⟩ = some (.int .i64 (ga b.accs i).op.lo) := (((hF7.at 3 rfl : Sl accEnc 6 lo hi _ (.slice (some ⟨x11, o12, none⟩) b.accs.length ak) b.accs)).cells hz13.out 2 _ rfl)
   have gl16 := cell_lt ge15
   have ge17 : World.cell? _ ⟨x11, o12 + i * 6 + 2 + 1, none⟩ = some (.int .i64 (ga b.accs i).op.hi) := (((hF7.at 3 rfl : Sl accEnc 6 lo hi _ (.slice (some ⟨x11, o12, none⟩) b.accs.length ak) b.accs)).cells hz13.out 3 _ rfl)
   go_wp2_with (at_builtin; refine wpList_app _ okSp rfl _ _ rfl w.heap.size vo (([] : List Sp) ++ (spansA (·.op) b.accs i)) [(⟨(ga b.accs i).op.lo, (ga b.accs i).op.hi⟩ : Sp)] rfl (by exact ((hF7.at 0 rfl : Own spEnc 40 2 w.heap.size _ vo (([] : List Sp) ++ (spansA (·.op) b.accs i)))).alloc _) ⟨_, 0, none⟩ 1 1 rfl rfl (by decide) (news_of (Bk.newAt _ _ _ (by simp))) (i + 1) (by rw [List.nil_append, spansA_len (by omega)]) (by omega) (by first | omega | (simp; omega)) _ rfl ?_; intro g18 cap19 w20 hp21; refine Hid.out ?_)
   refine Lib.hid ?_
   have hp21s := hp21.gb.size
   (try simp at hp21s)
   clear b14 ge15 gl16 ge17
   have F22 := ((hF7.alloc (.cells #[.int .i64 ((ga b.accs i).op.lo), .int .i64 ((ga b.accs i).op.hi)] 40)).front 0 rfl rfl).app hp21 (by simp)
   clear hF7
   go_wp2_with fail
   rw [sO_step (b := b) (i := i) ([] : List Sp) (by omega)] at F22
   (first | refine ⟨by kernel_rfl, ?_, ?_⟩ | refine ⟨rfl, ?_, ?_⟩ | refine ⟨?_, ?_⟩)
   · rw [HI6.out]; exact ⟨i + 1, _, (by kernel_rfl), (by kernel_rfl), (by kernel_rfl), (by kernel_rfl), (by show Value.int .i64 ((i : Int) + 1) = _; simp), (by omega), (by first | rfl | simp), (by first | omega | (simp; done) | (simp; omega)), F22⟩
   · simp [slot, intOf]; omega
  ·
   have c10H := Lib.hid c10
   have c10a : decide ((i : Int) < (b.accs.length : Int)) = false := dec_f c10
   go_wp2_with fail
   have hie : i = b.accs.length := by omega
   subst hie
   have hz2 : ([] : List Sp) ++ spansA (·.op) b.accs b.accs.length = spansA (·.op) b.accs b.accs.length ++ spansA (·.cl) b.accs 0 := by simp [spansA]
   rw [hz2] at hF7
   (skip)
   obtain ⟨HI23_, HI230⟩ : ∃ I : (Nat → Value) → List Deferred → World → Prop, I = (fun t ds wr => ∃ (j : Nat) (vo : Value), t 1 = .int .i64 6000 ∧ t 2 = .pointer (some ⟨w.heap.size, 0, none⟩) ∧ t 5 = .int .i64 (b.accs.length : Int) ∧ t 6 = vo ∧ t 8 = .int .i64 (j : Int) ∧ j ≤ b.accs.length ∧ ds = [] ∧ w9.heap.size ≤ wr.heap.size ∧ Bun w [rown spEnc 40 2 w.heap.size vo ((spansA (·.op) b.accs b.accs.length) ++ (spansA (·.cl) b.accs j)), rbox w.heap.size 25 #[.slice aa b.accs.length ak, .slice ma b.mvs.length mk], rsl mvEnc 4 lo hi (.slice ma b.mvs.length mk) b.mvs, rsl accEnc 6 lo hi (.slice aa b.accs.length ak) b.accs] wr) := ⟨_, rfl⟩
   have HI23 := Lib.hid HI230
   clear HI230
   refine wp_loopS 175 rfl HI23_ (fun t wr => b.accs.length - (intOf (t 8)).toNat) ?atStart2 ?round2
   case round2 =>
    intro t ds wr hHid
    rw [HI23.out] at hHid
    obtain ⟨j, vo, e1, e2, e5, e6, e8, hrel⟩ := hHid
    have e : ((List.range 175).map t).toArray = #[t 0, t 1, t 2, t 3, t 4, t 5, t 6, t 7, t 8, t 9, t 10, t 11, t 12, t 13, t 14, t 15, t 16, t 17, t 18, t 19, t 20, t 21, t 22, t 23, t 24, t 25, t 26, t 27, t 28, t 29, t 30, t 31, t 32, t 33, t 34, t 35, t 36, t 37, t 38, t 39, t 40, t 41, t 42, t 43, t 44, t 45, t 46, t 47, t 48, t 49, t 50, t 51, t 52, t 53, t 54, t 55, t 56, t 57, t 58, t 59, t 60, t 61, t 62, t 63, t 64, t 65, t 66, t 67, t 68, t 69, t 70, t 71, t 72, t 73, t 74, t 75, t 76, t 77, t 78, t 79, t 80, t 81, t 82, t 83, t 84, t 85, t 86, t 87, t 88, t 89, t 90, t 91, t 92, t 93, t 94, t 95, t 96, t 97, t 98, t 99, t 100, t 101, t 102, t 103, t 104, t 105, t 106, t 107, t 108, t 109, t 110, t 111, t 112, t 113, t 114, t 115, t 116, t 117, t 118, t 119, t 120, t 121, t 122, t 123, t 124, t 125, t 126, t 127, t 128, t 129, t 130, t 131, t 132, t 133, t 134, t 135, t 136, t 137, t 138, t 139, t 140, t 141, t 142, t 143, t 144, t 145, t 146, t 147, t 148, t 149, t 150, t 151, t 152, t 153, t 154, t 155, t 156, t 157, t 158, t 159, t 160, t 161, t 162, t 163, t 164, t 165, t 166, t 167, t 168, t 169, t 170, t 171, t 172, t 173, t 174] := rfl
    (try dsimp only at e)
    rw [e1, e2, e5, e6, e8] at e
    rw [e]
    simp only [e8]
    clear e e1 e2 e5 e6 e8
    obtain ⟨hj0, rfl, hs25, hF24⟩ := hrel
    clear hF7
    obtain ⟨w26, rfl⟩ : ∃ x_ : World, x_ = wr := ⟨_, rfl⟩
    by_cases c27 : (j : Int) < (b.accs.length : Int)
    ·
     have c27H := Lib.hid c27
     obtain ⟨x28, o29, e_⟩ := Sl.addr (hF24.at 3 rfl : Sl accEnc 6 lo hi _ (.slice aa b.accs.length ak) b.accs) (by omega)
     subst e_
     have hz30 : Hid (b.accs[j]? = some (ga b.accs j)) := Lib.hid (ga_at (by omega))
     have hib : j < b.accs.length := by omega
     have b31 := hF24.bx2 1 rfl
     have ge32 : World.cell? _ ⟨x28, o29 + j * 6 + 4, none⟩ = some (.int .i64 (ga b.accs j).cl.lo) := (((hF24.at 3 rfl : Sl accEnc 6 lo hi _ (.slice (some ⟨x28, o29, none⟩) b.accs.length ak) b.accs)).cells hz30.out 4 _ rfl)
     have gl33 := cell_lt ge32
     have ge34 : World.cell? _ ⟨x28, o29 + j * 6 + 4 + 1, none⟩ = some (.int .i64 (ga b.accs j).cl.hi) := (((hF24.at 3 rfl : Sl accEnc 6 lo hi _ (.slice (some ⟨x28, o29, none⟩) b.accs.length ak) b.accs)).cells hz30.out 5 _ rfl)
     go_wp2_with (at_builtin; refine wpList_app _ okSp rfl _ _ rfl w.heap.size vo ((spansA (·.op) b.accs b.accs.length) ++ (spansA (·.cl) b.accs j)) [(⟨(ga b.accs j).cl.lo, (ga b.accs j).cl.hi⟩ : Sp)] rfl (by exact ((hF24.at 0 rfl : Own spEnc 40 2 w.heap.size _ vo ((spansA (·.op) b.accs b.accs.length) ++ (spansA (·.cl) b.accs j)))).alloc _) ⟨_, 0, none⟩ 1 1 rfl rfl (by decide) (news_of (Bk.newAt _ _ _ (by simp))) (b.accs.length + j + 1) (by rw [List.length_append, spansA_len (Nat.le_refl _), spansA_len (by omega)]) (by omega) (by first | omega | (simp; omega)) _ rfl ?_; intro g35 cap36 w37 hp38; refine Hid.out ?_)
     refine Lib.hid ?_
     have hp38s := hp38.gb.size
     (try simp at hp38s)
     clear b31 ge32 gl33 ge34
     have F39 := ((hF24.alloc (.cells #[.int .i64 ((ga b.accs j).cl.lo), .int .i64 ((ga b.accs j).cl.hi)] 40)).front 0 rfl rfl).app hp38 (by simp)
     clear hF24
     go_wp2_with fail
     rw [sC_step (b := b) (i := j) (spansA (·.op) b.accs b.accs.length) (by omega)] at F39
     (first | refine ⟨by kernel_rfl, ?_, ?_⟩ | refine ⟨rfl, ?_, ?_⟩ | refine ⟨?_, ?_⟩)
     · rw [HI23.out]; exact ⟨j + 1, _, (by kernel_rfl), (by kernel_rfl), (by kernel_rfl), (by kernel_rfl), (by show Value.int .i64 ((j : Int) + 1) = _; simp), (by omega), (by first | rfl | simp), (by first | omega | (simp; done) | (simp; omega)), F39⟩
     · simp [slot, intOf]; omega
    ·
     have c27H := Lib.hid c27
     have c27a : decide ((j : Int) < (b.accs.length : Int)) = false := dec_f c27
     go_wp2_with fail
     have hje : j = b.accs.length := by omega
     subst hje
     have hz4 : (spansA (·.op) b.accs b.accs.length) ++ (spansA (·.cl) b.accs b.accs.length) = ((spansA (·.op) b.accs b.accs.length) ++ (spansA (·.cl) b.accs b.accs.length)) ++ spansM b.mvs 0 := by simp [spansM]
     rw [hz4] at hF24
     (skip)
     obtain ⟨HI40_, HI400⟩ : ∃ I : (Nat → Value) → List Deferred → World → Prop, I = (fun t ds wr => ∃ (k : Nat) (vo : Value), t 1 = .int .i64 6000 ∧ t 2 = .pointer (some ⟨w.heap.size, 0, none⟩) ∧ t 5 = .int .i64 (b.accs.length : Int) ∧ t 6 = vo ∧ t 9 = .int .i64 (k : Int) ∧ k ≤ b.mvs.length ∧ ds = [] ∧ w26.heap.size ≤ wr.heap.size ∧ Bun w [rown spEnc 40 2 w.heap.size vo (((spansA (·.op) b.accs b.accs.length) ++ (spansA (·.cl) b.accs b.accs.length)) ++ (spansM b.mvs k)), rbox w.heap.size 25 #[.slice aa b.accs.length ak, .slice ma b.mvs.length mk], rsl mvEnc 4 lo hi (.slice ma b.mvs.length mk) b.mvs, rsl accEnc 6 lo hi (.slice aa b.accs.length ak) b.accs] wr) := ⟨_, rfl⟩
     have HI40 := Lib.hid HI400
     clear HI400
     refine wp_loopS 175 rfl HI40_ (fun t wr => b.mvs.length - (intOf (t 9)).toNat) ?atStart3 ?round3
     case round3 =>
      intro t ds wr hHid
      rw [HI40.out] at hHid
      obtain ⟨k, vo, e1, e2, e5, e6, e9, hrel⟩ := hHid
      have e : ((List.range 175).map t).toArray = #[t 0, t 1, t 2, t 3, t 4, t 5, t 6, t 7, t 8, t 9, t 10, t 11, t 12, t 13, t 14, t 15, t 16, t 17, t 18, t 19, t 20, t 21, t 22, t 23, t 24, t 25, t 26, t 27, t 28, t 29, t 30, t 31, t 32, t 33, t 34, t 35, t 36, t 37, t 38, t 39, t 40, t 41, t 42, t 43, t 44, t 45, t 46, t 47, t 48, t 49, t 50, t 51, t 52, t 53, t 54, t 55, t 56, t 57, t 58, t 59, t 60, t 61, t 62, t 63, t 64, t 65, t 66, t 67, t 68, t 69, t 70, t 71, t 72, t 73, t 74, t 75, t 76, t 77, t 78, t 79, t 80, t 81, t 82, t 83, t 84, t 85, t 86, t 87, t 88, t 89, t 90, t 91, t 92, t 93, t 94, t 95, t 96, t 97, t 98, t 99, t 100, t 101, t 102, t 103, t 104, t 105, t 106, t 107, t 108, t 109, t 110, t 111, t 112, t 113, t 114, t 115, t 116, t 117, t 118, t 119, t 120, t 121, t 122, t 123, t 124, t 125, t 126, t 127, t 128, t 129, t 130, t 131, t 132, t 133, t 134, t 135, t 136, t 137, t 138, t 139, t 140, t 141, t 142, t 143, t 144, t 145, t 146, t 147, t 148, t 149, t 150, t 151, t 152, t 153, t 154, t 155, t 156, t 157, t 158, t 159, t 160, t 161, t 162, t 163, t 164, t 165, t 166, t 167, t 168, t 169, t 170, t 171, t 172, t 173, t 174] := rfl
      (try dsimp only at e)
      rw [e1, e2, e5, e6, e9] at e
      rw [e]
      simp only [e9]
      clear e e1 e2 e5 e6 e9
      obtain ⟨hk0, rfl, hs42, hF41⟩ := hrel
      clear hF24
      obtain ⟨w43, rfl⟩ : ∃ x_ : World, x_ = wr := ⟨_, rfl⟩
      by_cases c44 : (k : Int) < (b.mvs.length : Int)
      ·
       have c44H := Lib.hid c44
       obtain ⟨x45, o46, e_⟩ := Sl.addr (hF41.at 2 rfl : Sl mvEnc 4 lo hi _ (.slice ma b.mvs.length mk) b.mvs) (by omega)
       subst e_
       have hz47 : Hid (b.mvs[k]? = some (gm b.mvs k)) := Lib.hid (gm_at (by omega))
       have hkb : k < b.mvs.length := by omega
       have b48 := hF41.bx2 1 rfl
       have ge49 : World.cell? _ ⟨x45, o46 + k * 4 + 2, none⟩ = some (.int .i64 (gm b.mvs k).li.lo) := (((hF41.at 2 rfl : Sl mvEnc 4 lo hi _ (.slice (some ⟨x45, o46, none⟩) b.mvs.length mk) b.mvs)).cells hz47.out 2 _ rfl)
       have gl50 := cell_lt ge49
       have ge51 : World.cell? _ ⟨x45, o46 + k * 4 + 2 + 1, none⟩ = some (.int .i64 (gm b.mvs k).li.hi) := (((hF41.at 2 rfl : Sl mvEnc 4 lo hi _ (.slice (some ⟨x45, o46, none⟩) b.mvs.length mk) b.mvs)).cells hz47.out 3 _ rfl)
       go_wp2_with (at_builtin; refine wpList_app _ okSp rfl _ _ rfl w.heap.size vo (((spansA (·.op) b.accs b.accs.length) ++ (spansA (·.cl) b.accs b.accs.length)) ++ (spansM b.mvs k)) [(⟨(gm b.mvs k).li.lo, (gm b.mvs k).li.hi⟩ : Sp)] rfl (by exact ((hF41.at 0 rfl : Own spEnc 40 2 w.heap.size _ vo (((spansA (·.op) b.accs b.accs.length) ++ (spansA (·.cl) b.accs b.accs.length)) ++ (spansM b.mvs k)))).alloc _) ⟨_, 0, none⟩ 1 1 rfl rfl (by decide) (news_of (Bk.newAt _ _ _ (by simp))) (b.accs.length + b.accs.length + k + 1) (by rw [List.length_append, List.length_append, spansA_len (Nat.le_refl _), spansA_len (Nat.le_refl _), spansM_len (by omega)]) (by omega) (by first | omega | (simp; omega)) _ rfl ?_; intro g52 cap53 w54 hp55; refine Hid.out ?_)
       refine Lib.hid ?_
       have hp55s := hp55.gb.size
       (try simp at hp55s)
       clear b48 ge49 gl50 ge51
       have F56 := ((hF41.alloc (.cells #[.int .i64 ((gm b.mvs k).li.lo), .int .i64 ((gm b.mvs k).li.hi)] 40)).front 0 rfl rfl).app hp55 (by simp)
       clear hF41
       go_wp2_with fail
       rw [sM_step (l := b.mvs) (i := k) ((spansA (·.op) b.accs b.accs.length) ++ (spansA (·.cl) b.accs b.accs.length)) (by omega)] at F56
       (first | refine ⟨by kernel_rfl, ?_, ?_⟩ | refine ⟨rfl, ?_, ?_⟩ | refine ⟨?_, ?_⟩)
       · rw [HI40.out]; exact ⟨k + 1, _, (by kernel_rfl), (by kernel_rfl), (by kernel_rfl), (by kernel_rfl), (by show Value.int .i64 ((k : Int) + 1) = _; simp), (by omega), (by first | rfl | simp), (by first | omega | (simp; done) | (simp; omega)), F56⟩
       · simp [slot, intOf]; omega
      ·
       have c44H := Lib.hid c44
       have c44a : decide ((k : Int) < (b.mvs.length : Int)) = false := dec_f c44
       have hke : k = b.mvs.length := by omega
       subst hke
       have hsp : ((spansA (·.op) b.accs b.accs.length) ++ (spansA (·.cl) b.accs b.accs.length)) ++ spansM b.mvs b.mvs.length = spansL b := rfl
       rw [hsp] at hF41
       have hsl : (spansL b).length ≤ b.accs.length + b.accs.length + b.mvs.length ∧ b.accs.length + b.accs.length + b.mvs.length ≤ (spansL b).length := by have := spansL_len' b; omega
       clear hsp
       obtain ⟨ca57, cc58, e_⟩ := Own.opn (hF41.at 0 rfl : Own spEnc 40 2 w.heap.size _ vo (spansL b)) (by omega)
       subst e_
       have ca57l := (hF41.ltAt 0 rfl _ rfl).1
       have b59 := hF41.bx2 1 rfl
       go_wp2_with (at_make; refine wpList_mkInt rfl _ _ rfl ((spansL b).length) rfl rfl hF41 (by omega) w43.heap.size (by first | rfl | simp) ?_; intro w60 hB61 hs62; refine Hid.out ?_)
       refine Lib.hid ?_
       (try simp at hs62)
       clear b59
       have F63 := hB61
       clear hF41
       go_wp2_with fail
       rw [← nowF_zero] at F63
       (skip)
       obtain ⟨HI64_, HI640⟩ : ∃ I : (Nat → Value) → List Deferred → World → Prop, I = (fun t ds wr => ∃ (u : Nat), t 1 = .int .i64 6000 ∧ t 2 = .pointer (some ⟨w.heap.size, 0, none⟩) ∧ t 5 = .int .i64 (b.accs.length : Int) ∧ t 6 = .slice (some ⟨ca57, 0, none⟩) ((spansL b).length) cc58 ∧ t 10 = .slice none 0 0 ∧ t 11 = .slice (some ⟨w43.heap.size, 0, none⟩) ((spansL b).length) ((spansL b).length) ∧ t 12 = .int .i64 (u : Int) ∧ u ≤ (spansL b).length ∧ ds = [] ∧ w60.heap.size ≤ wr.heap.size ∧ Bun w [rown intEnc 3 1 w.heap.size (.slice (some ⟨w43.heap.size, 0, none⟩) ((spansL b).length) ((spansL b).length)) (nowF (spansL b) u), rown spEnc 40 2 w.heap.size (.slice (some ⟨ca57, 0, none⟩) (spansL b).length cc58) (spansL b), rbox w.heap.size 25 #[.slice aa b.accs.length ak, .slice ma b.mvs.length mk], rsl mvEnc 4 lo hi (.slice ma b.mvs.length mk) b.mvs, rsl accEnc 6 lo hi (.slice aa b.accs.length ak) b.accs] wr) := ⟨_, rfl⟩
       have HI64 := Lib.hid HI640
       clear HI640
       refine wp_loopS 175 rfl HI64_ (fun t wr => (spansL b).length - (intOf (t 12)).toNat) ?atStart4 ?round4
       case round4 =>
        intro t ds wr hHid
        rw [HI64.out] at hHid
        obtain ⟨u, e1, e2, e5, e6, e10, e11, e12, hrel⟩ := hHid
        have e : ((List.range 175).map t).toArray = #[t 0, t 1, t 2, t 3, t 4, t 5, t 6, t 7, t 8, t 9, t 10, t 11, t 12, t 13, t 14, t 15, t 16, t 17, t 18, t 19, t 20, t 21, t 22, t 23, t 24, t 25, t 26, t 27, t 28, t 29, t 30, t 31, t 32, t 33, t 34, t 35, t 36, t 37, t 38, t 39, t 40, t 41, t 42, t 43, t 44, t 45, t 46, t 47, t 48, t 49, t 50, t 51, t 52, t 53, t 54, t 55, t 56, t 57, t 58, t 59, t 60, t 61, t 62, t 63, t 64, t 65, t 66, t 67, t 68, t 69, t 70, t 71, t 72, t 73, t 74, t 75, t 76, t 77, t 78, t 79, t 80, t 81, t 82, t 83, t 84, t 85, t 86, t 87, t 88, t 89, t 90, t 91, t 92, t 93, t 94, t 95, t 96, t 97, t 98, t 99, t 100, t 101, t 102, t 103, t 104, t 105, t 106, t 107, t 108, t 109, t 110, t 111, t 112, t 113, t 114, t 115, t 116, t 117, t 118, t 119, t 120, t 121, t 122, t 123, t 124, t 125, t 126, t 127, t 128, t 129, t 130, t 131, t 132, t 133, t 134, t 135, t 136, t 137, t 138, t 139, t 140, t 141, t 142, t 143, t 144, t 145, t 146, t 147, t 148, t 149, t 150, t 151, t 152, t 153, t 154, t 155, t 156, t 157, t 158, t 159, t 160, t 161, t 162, t 163, t 164, t 165, t 166, t 167, t 168, t 169, t 170, t 171, t 172, t 173, t 174] := rfl
        (try dsimp only at e)
        rw [e1, e2, e5, e6, e10, e11, e12] at e
        rw [e]
        simp only [e12]
        clear e e1 e2 e5 e6 e10 e11 e12
        obtain ⟨hu0, rfl, hs66, hF65⟩ := hrel
        clear F63
        obtain ⟨w67, rfl⟩ : ∃ x_ : World, x_ = wr := ⟨_, rfl⟩
        by_cases c68 : (u : Int) < ((spansL b).length : Int)
        ·
         have c68H := Lib.hid c68
         have hz69 : Hid ((spansL b)[u]? = some (gs (spansL b) u)) := Lib.hid (gs_at (by omega))
         have hz70 : Hid ((nowF (spansL b) u)[u]? = some (gi (nowF (spansL b) u) u)) := Lib.hid (gi_at (by rw [nowF_len]; omega))
         have hub : u < (spansL b).length := by omega
         have ge71 : World.cell? _ ⟨ca57, u * 2, none⟩ = some (.int .i64 (gs (spansL b) u).lo) := (by simpa using (Own.sl (hF65.at 1 rfl : Own spEnc 40 2 w.heap.size _ (.slice (some ⟨ca57, 0, none⟩) (spansL b).length cc58) (spansL b)) (fun _ => rfl)).cells hz69.out 0 _ rfl)
         have gl72 := cell_lt ge71
         have ge73 : World.cell? _ ⟨w43.heap.size, u, none⟩ = some (.int .i64 (gi (nowF (spansL b) u) u)) := (by simpa using (Own.sl (hF65.at 0 rfl : Own intEnc 3 1 w.heap.size _ (.slice (some ⟨w43.heap.size, 0, none⟩) ((spansL b).length) ((spansL b).length)) (nowF (spansL b) u)) (fun _ => rfl)).cells hz70.out 0 _ rfl)
         have gl74 := cell_lt ge73
         have ge75 : World.frozen? _ ⟨w43.heap.size, u, none⟩ = false := Own.live (hF65.at 0 rfl : Own intEnc 3 1 w.heap.size _ (.slice (some ⟨w43.heap.size, 0, none⟩) ((spansL b).length) ((spansL b).length)) (nowF (spansL b) u)) _
         go_wp2_with fail
         clear ge71 gl72 ge73 gl74 ge75
         have F76 := Bun.setOwn (sz := 1) (fun _ => rfl) hF65 hz70.out (y := (gs (spansL b) u).lo) (j := 0) (u := (.int .i64 ((gs (spansL b) u).lo))) (k := u) (by decide) rfl (by omega)
         clear hF65
         rw [nowF_set (by omega)] at F76
         (first | refine ⟨by kernel_rfl, ?_, ?_⟩ | refine ⟨rfl, ?_, ?_⟩ | refine ⟨?_, ?_⟩)
         · rw [HI64.out]; exact ⟨u + 1, (by kernel_rfl), (by kernel_rfl), (by kernel_rfl), (by kernel_rfl), (by kernel_rfl), (by kernel_rfl), (by show Value.int .i64 ((u : Int) + 1) = _; simp), (by omega), (by first | rfl | simp), (by first | omega | (simp; done) | (simp; omega)), F76⟩
         · simp [slot, intOf]; omega
        ·
         have c68H := Lib.hid c68
         have c68a : decide ((u : Int) < ((spansL b).length : Int)) = false := dec_f c68
         go_wp2_with fail
         have hue : u = (spansL b).length := by omega
         subst hue
         rw [nowF_all] at hF65
         have F77 := hF65.rowN trvEnc 32 3
         clear hF65
         have F78 := F77.trs0
         clear F77
         have HSP := Lib.hid (spans_le HOK.out)
         have Hlo := Lib.hid (lo_in HSP.out)
         (skip)
         obtain ⟨HI79_, HI790⟩ : ∃ I : (Nat → Value) → List Deferred → World → Prop, I = (fun t ds wr => ∃ (i : Nat) (x : List Int) (T : List TrV) (vt : Value), t 1 = .int .i64 6000 ∧ t 2 = .pointer (some ⟨w.heap.size, 0, none⟩) ∧ t 5 = .int .i64 (b.accs.length : Int) ∧ t 6 = .slice (some ⟨ca57, 0, none⟩) ((spansL b).length) cc58 ∧ t 10 = vt ∧ t 11 = .slice (some ⟨w43.heap.size, 0, none⟩) ((spansL b).length) ((spansL b).length) ∧ Hid (inC (spansL b) x ∧ rankC (spansL b) x = i) ∧ Hid (TruS b i T) ∧ Hid (newT w.heap.size T) ∧ ds = [] ∧ w67.heap.size ≤ wr.heap.size ∧ Bun w [rtrs T, rown trvEnc 32 3 w.heap.size vt T, rown intEnc 3 1 w.heap.size (.slice (some ⟨w43.heap.size, 0, none⟩) ((spansL b).length) ((spansL b).length)) x, rown spEnc 40 2 w.heap.size (.slice (some ⟨ca57, 0, none⟩) (spansL b).length cc58) (spansL b), rbox w.heap.size 25 #[.slice aa b.accs.length ak, .slice ma b.mvs.length mk], rsl mvEnc 4 lo hi (.slice ma b.mvs.length mk) b.mvs, rsl accEnc 6 lo hi (.slice aa b.accs.length ak) b.accs] wr) := ⟨_, rfl⟩
         have HI79 := Lib.hid HI790
         clear HI790
         refine wp_loopS 175 rfl HI79_ (fun t wr => sizeC (spansL b) - rankC (spansL b) (nowAt wr w43.heap.size (spansL b).length)) ?atStart5 ?round5
         case round5 =>
          intro t ds wr hHid
          rw [HI79.out] at hHid
          obtain ⟨i, x, T, vt, e1, e2, e5, e6, e10, e11, hrel⟩ := hHid
          have e : ((List.range 175).map t).toArray = #[t 0, t 1, t 2, t 3, t 4, t 5, t 6, t 7, t 8, t 9, t 10, t 11, t 12, t 13, t 14, t 15, t 16, t 17, t 18, t 19, t 20, t 21, t 22, t 23, t 24, t 25, t 26, t 27, t 28, t 29, t 30, t 31, t 32, t 33, t 34, t 35, t 36, t 37, t 38, t 39, t 40, t 41, t 42, t 43, t 44, t 45, t 46, t 47, t 48, t 49, t 50, t 51, t 52, t 53, t 54, t 55, t 56, t 57, t 58, t 59, t 60, t 61, t 62, t 63, t 64, t 65, t 66, t 67, t 68, t 69, t 70, t 71, t 72, t 73, t 74, t 75, t 76, t 77, t 78, t 79, t 80, t 81, t 82, t 83, t 84, t 85, t 86, t 87, t 88, t 89, t 90, t 91, t 92, t 93, t 94, t 95, t 96, t 97, t 98, t 99, t 100, t 101, t 102, t 103, t 104, t 105, t 106, t 107, t 108, t 109, t 110, t 111, t 112, t 113, t 114, t 115, t 116, t 117, t 118, t 119, t 120, t 121, t 122, t 123, t 124, t 125, t 126, t 127, t 128, t 129, t 130, t 131, t 132, t 133, t 134, t 135, t 136, t 137, t 138, t 139, t 140, t 141, t 142, t 143, t 144, t 145, t 146, t 147, t 148, t 149, t 150, t 151, t 152, t 153, t 154, t 155, t 156, t 157, t 158, t 159, t 160, t 161, t 162, t 163, t 164, t 165, t 166, t 167, t 168, t 169, t 170, t 171, t 172, t 173, t 174] := rfl
          (try dsimp only at e)
          rw [e1, e2, e5, e6, e10, e11] at e
          rw [e]
          clear e e1 e2 e5 e6 e10 e11
          obtain ⟨hX, hT, hN, rfl, hs81, hF80⟩ := hrel
          clear F78
          obtain ⟨w82, rfl⟩ : ∃ x_ : World, x_ = wr := ⟨_, rfl⟩
          have HXL := Lib.hid (inC_len hX.out.1)
          have HNW := Lib.hid (nowAtN_own (hF80.at 2 rfl : Own intEnc 3 1 w.heap.size _ (.slice (some ⟨w43.heap.size, 0, none⟩) ((spansL b).length) ((spansL b).length)) x) HXL.out)
          have HVL := Lib.hid (vec_len hX.out.1)
          have HVT := Lib.hid (vec_tru hX.out.1)
          obtain ⟨ta83, tc84, e_⟩ := (Own.sl (hF80.at 1 rfl : Own trvEnc 32 3 w.heap.size _ vt T) (fun _ => rfl)).any
          subst e_
          have hrk := rank_lt hX.out.1
          have hrk2 := hX.out.2
          have hrk3 := HSZ.out
          have hfw := hT.out.few
          have hT6 : T.length < 6000 := by omega
          have kn85 : (T.length : Int) < 6000 := by omega
          have kn85H := Lib.hid kn85
          have kn85a : decide ((T.length : Int) < 6000) = true := decide_eq_true kn85
          have hlo2 : (oO b x).length ≤ b.accs.length ∧ b.accs.length ≤ (oO b x).length := by have := HVL.out.1; omega
          have hlc2 : (oC b x).length ≤ b.accs.length ∧ b.accs.length ≤ (oC b x).length := by have := HVL.out.2.1; omega
          have hlv2 : (oV b x).length ≤ b.mvs.length ∧ b.mvs.length ≤ (oV b x).length := by have := HVL.out.2.2; omega
          obtain ⟨s2, s3, c2, c3, HS1, HS2, HS3, HSL⟩ := slices3 (b := b) (g := w43.heap.size) (x := x) HXL.out
          have HS1 := Lib.hid HS1
          have HS2 := Lib.hid HS2
          have HS3 := Lib.hid HS3
          have HSL := Lib.hid HSL
          (skip)
          go_wp2_with fail
          have hw86 : IntKind.i64.wrap (2 * (b.accs.length : Int)) = 2 * (b.accs.length : Int) := IntWalk.i64_in _ (by omega)
          have hw87 : IntKind.i64.wrap (2 * (b.accs.length : Int)) = 2 * (b.accs.length : Int) := IntWalk.i64_in _ (by omega)
          have hi88 : ∀ w, (Instr.sliceAt 26 (.slice (some ⟨w43.heap.size, 0, none⟩) ((spansL b).length) ((spansL b).length)) none (some (.int .i64 (b.accs.length : Int))) none).run Try.prog w = .ok (.slice (some ⟨w43.heap.size, 0, none⟩) b.accs.length (spansL b).length) w := HS1.out
          have hi89 : ∀ w, (Instr.sliceAt 26 (.slice (some ⟨w43.heap.size, 0, none⟩) ((spansL b).length) ((spansL b).length)) (some (.int .i64 (b.accs.length : Int))) (some (.int .i64 (2 * (b.accs.length : Int)))) none).run Try.prog w = .ok (.slice s2 b.accs.length c2) w := HS2.out
          have hi90 : ∀ w, (Instr.sliceAt 26 (.slice (some ⟨w43.heap.size, 0, none⟩) ((spansL b).length) ((spansL b).length)) (some (.int .i64 (2 * (b.accs.length : Int)))) none none).run Try.prog w = .ok (.slice s3 b.mvs.length c3) w := HS3.out
          have F91 := hF80.drew
          clear hF80
          refine ru_begin (fun W => True) 17 (by kernel_rfl) ?_ ?_
          · exact trivial
          obtain ⟨wd93, hwd_⟩ : ∃ x : World, w82.drew = x := ⟨_, rfl⟩
          rw [hwd_] at F91 ⊢
          have wd93s : w82.heap.size ≤ wd93.heap.size := by rw [← hwd_]; exact Nat.le_refl _
          clear hwd_
          have hS92 := trivial
          refine ru_t 0 [] ?_
          refine ru_t 1 [] ?_
          refine ru_t 2 [] ?_
          refine ru_t 4 [] ?_
          refine ru_t 5 [] ?_
          refine ru_t 6 [] ?_
          refine ru_t 7 [] ?_
          refine ru_t 8 [] ?_
          refine ru_t 10 [] ?_
          refine ru_t 11 [] ?_
          refine ru_t 12 [] ?_
          refine ru_t 13 [] ?_
          (try simp only [Act.put, List.setIfInBounds_toArray, List.set_cons_zero, List.set_cons_succ])
          clear hS92
          refine ru_state 175 (fun t w_ => ∃ (oa1 : Option Addr) (oc1 : Nat) (ol1 : Nat) (oh1 : Nat) (oa2 : Option Addr) (oc2 : Nat) (ol2 : Nat) (oh2 : Nat) (oa3 : Option Addr) (oc3 : Nat) (ol3 : Nat) (oh3 : Nat) (yg16 : Nat), (oh1 ≤ w_.heap.size) ∧ (w.heap.size ≤ ol1) ∧ (oh2 ≤ w_.heap.size) ∧ (w.heap.size ≤ ol2) ∧ (oh3 ≤ w_.heap.size) ∧ (w.heap.size ≤ ol3) ∧ t 1 = .int .i64 6000 ∧ t 2 = .pointer (some ⟨w.heap.size, 0, none⟩) ∧ t 5 = .int .i64 (b.accs.length : Int) ∧ t 6 = .slice (some ⟨ca57, 0, none⟩) ((spansL b).length) cc58 ∧ t 10 = .slice ta83 T.length tc84 ∧ t 11 = .slice (some ⟨w43.heap.size, 0, none⟩) ((spansL b).length) ((spansL b).length) ∧ t 13 = .pointer (some ⟨yg16, 0, none⟩) ∧ w82.heap.size ≤ w_.heap.size ∧ Bun w [rbox yg16 32 #[.slice oa1 ((oO b x).length) oc1, .slice oa2 ((oC b x).length) oc2, .slice oa3 ((oV b x).length) oc3], rsl intEnc 1 ol3 oh3 (.slice oa3 (oV b x).length oc3) (oV b x), rsl intEnc 1 ol2 oh2 (.slice oa2 (oC b x).length oc2) (oC b x), rsl intEnc 1 ol1 oh1 (.slice oa1 (oO b x).length oc1) (oO b x), rtrs T, rown trvEnc 32 3 w.heap.size (.slice ta83 T.length tc84) T, rown intEnc 3 1 w.heap.size (.slice (some ⟨w43.heap.size, 0, none⟩) ((spansL b).length) ((spansL b).length)) x, rown spEnc 40 2 w.heap.size (.slice (some ⟨ca57, 0, none⟩) (spansL b).length cc58) (spansL b), rbox w.heap.size 25 #[.slice aa b.accs.length ak, .slice ma b.mvs.length mk], rsl mvEnc 4 lo hi (.slice ma b.mvs.length mk) b.mvs, rsl accEnc 6 lo hi (.slice aa b.accs.length ak) b.accs] w_) #[true, true, true, true, true, true, true, true, true, true, true, true, true, true, true, true, true, true] 0 ?st94 ?nx94
          case st94 =>
           rintro t w95 ⟨oa1, oc1, ol1, oh1, oa2, oc2, ol2, oh2, oa3, oc3, ol3, oh3, yg16, oy1, ow1, oy2, ow2, oy3, ow3, e1, e2, e5, e6, e10, e11, e13, hsz94, F96⟩
           clear F91
           rw [rng_truths_c t, e1, e2, e5, e6, e10, e11, e13]
           clear e1 e2 e5 e6 e10 e11 e13
           have hws94 := F96.gb.size
           have yg16l := F96.ltAt 0 rfl yg16 rfl
           have yg16b := yg16l.2 rfl
           refine ru_done (by kernel_rfl) ?_
           (try clear hw86 hw87 hi88 hi89 hi90)
           obtain ⟨w97, hx98, F100, hxs99⟩ := F96.name
           (try simp at hxs99)
           rw [hx98]
           clear hx98 F96
           have b101 := F100.bx3 0 rfl
           have b102 := F100.bx2 8 rfl
           go_wp2_with fail
           clear b101 b102
           obtain ⟨w103, hx104, F106, hxs105⟩ := F100.name
           (try simp at hxs105)
           rw [hx104]
           clear hx104 F100
           refine (losing_q _ _ _ _ b _ _ _ _ _ _ _ _ _ (oO b x) (oC b x) (oV b x) _ ⟨(F106.at 10 rfl : Sl accEnc 6 lo hi _ (.slice aa b.accs.length ak) b.accs), (F106.at 9 rfl : Sl mvEnc 4 lo hi _ (.slice ma b.mvs.length mk) b.mvs)⟩ HN.out (by first | omega | (simp; omega)) (F106.at 3 rfl : Sl intEnc 1 ol1 oh1 _ (.slice oa1 (oO b x).length oc1) (oO b x)) (by first | omega | (simp; omega)) (F106.at 2 rfl : Sl intEnc 1 ol2 oh2 _ (.slice oa2 (oC b x).length oc2) (oC b x)) (by first | omega | (simp; omega)) (F106.at 1 rfl : Sl intEnc 1 ol3 oh3 _ (.slice oa3 (oV b x).length oc3) (oV b x)) (by first | omega | (simp; omega)) HOK.out HVL.out HVT.out.1 HVT.out.2).mono ?_
           rintro e w107 ⟨la_, lc_, rfl, hB108⟩
           have hB108s := hB108.gb.size
           (try simp at hB108s)
           have F109 := F106.joinN (L2 := [rown intEnc 3 1 w103.heap.size (.slice la_ b.accs.length lc_) (lsM b (oO b x) (oC b x) (oV b x) b.mvs.length)]) hB108 rfl
           clear F106
           clear hB108
           (try dsimp only [List.cons_append, List.nil_append] at F109)
           have hll_ : (lsM b (oO b x) (oC b x) (oV b x) b.mvs.length).length ≤ b.accs.length ∧ b.accs.length ≤ (lsM b (oO b x) (oC b x) (oV b x) b.mvs.length).length := by have := lsM_len b (oO b x) (oC b x) (oV b x) b.mvs.length; omega
           go_wp2_with fail
           obtain ⟨HI110_, HI1100⟩ : ∃ I : (Nat → Value) → List Deferred → World → Prop, I = (fun t ds wr => ∃ (m : Nat), t 1 = .int .i64 6000 ∧ t 2 = .pointer (some ⟨w.heap.size, 0, none⟩) ∧ t 5 = .int .i64 (b.accs.length : Int) ∧ t 6 = .slice (some ⟨ca57, 0, none⟩) ((spansL b).length) cc58 ∧ t 10 = .slice ta83 T.length tc84 ∧ t 11 = .slice (some ⟨w43.heap.size, 0, none⟩) ((spansL b).length) ((spansL b).length) ∧ t 13 = .pointer (some ⟨yg16, 0, none⟩) ∧ t 14 = .slice la_ b.accs.length lc_ ∧ t 15 = .bool (rightF b x m) ∧ t 16 = .int .i64 (m : Int) ∧ m ≤ b.accs.length ∧ ds = [] ∧ w107.heap.size ≤ wr.heap.size ∧ Bun w [rown intEnc 3 1 w103.heap.size (.slice la_ b.accs.length lc_) (lsM b (oO b x) (oC b x) (oV b x) b.mvs.length), rbox yg16 32 #[.slice oa1 ((oO b x).length) oc1, .slice oa2 ((oC b x).length) oc2, .slice oa3 ((oV b x).length) oc3], rsl intEnc 1 ol3 oh3 (.slice oa3 (oV b x).length oc3) (oV b x), rsl intEnc 1 ol2 oh2 (.slice oa2 (oC b x).length oc2) (oC b x), rsl intEnc 1 ol1 oh1 (.slice oa1 (oO b x).length oc1) (oO b x), rtrs T, rown trvEnc 32 3 w.heap.size (.slice ta83 T.length tc84) T, rown intEnc 3 1 w.heap.size (.slice (some ⟨w43.heap.size, 0, none⟩) ((spansL b).length) ((spansL b).length)) x, rown spEnc 40 2 w.heap.size (.slice (some ⟨ca57, 0, none⟩) (spansL b).length cc58) (spansL b), rbox w.heap.size 25 #[.slice aa b.accs.length ak, .slice ma b.mvs.length mk], rsl mvEnc 4 lo hi (.slice ma b.mvs.length mk) b.mvs, rsl accEnc 6 lo hi (.slice aa b.accs.length ak) b.accs] wr) := ⟨_, rfl⟩
           have HI110 := Lib.hid HI1100
           clear HI1100
           refine wp_loopS 175 rfl HI110_ (fun t wr => b.accs.length - (intOf (t 16)).toNat) ?atStart6 ?round6
           case round6 =>
            intro t ds wr hHid
            rw [HI110.out] at hHid
            obtain ⟨m, e1, e2, e5, e6, e10, e11, e13, e14, e15, e16, hrel⟩ := hHid
            have e : ((List.range 175).map t).toArray = #[t 0, t 1, t 2, t 3, t 4, t 5, t 6, t 7, t 8, t 9, t 10, t 11, t 12, t 13, t 14, t 15, t 16, t 17, t 18, t 19, t 20, t 21, t 22, t 23, t 24, t 25, t 26, t 27, t 28, t 29, t 30, t 31, t 32, t 33, t 34, t 35, t 36, t 37, t 38, t 39, t 40, t 41, t 42, t 43, t 44, t 45, t 46, t 47, t 48, t 49, t 50, t 51, t 52, t 53, t 54, t 55, t 56, t 57, t 58, t 59, t 60, t 61, t 62, t 63, t 64, t 65, t 66, t 67, t 68, t 69, t 70, t 71, t 72, t 73, t 74, t 75, t 76, t 77, t 78, t 79, t 80, t 81, t 82, t 83, t 84, t 85, t 86, t 87, t 88, t 89, t 90, t 91, t 92, t 93, t 94, t 95, t 96, t 97, t 98, t 99, t 100, t 101, t 102, t 103, t 104, t 105, t 106, t 107, t 108, t 109, t 110, t 111, t 112, t 113, t 114, t 115, t 116, t 117, t 118, t 119, t 120, t 121, t 122, t 123, t 124, t 125, t 126, t 127, t 128, t 129, t 130, t 131, t 132, t 133, t 134, t 135, t 136, t 137, t 138, t 139, t 140, t 141, t 142, t 143, t 144, t 145, t 146, t 147, t 148, t 149, t 150, t 151, t 152, t 153, t 154, t 155, t 156, t 157, t 158, t 159, t 160, t 161, t 162, t 163, t 164, t 165, t 166, t 167, t 168, t 169, t 170, t 171, t 172, t 173, t 174] := rfl
            (try dsimp only at e)
            rw [e1, e2, e5, e6, e10, e11, e13, e14, e15, e16] at e
            rw [e]
            simp only [e16]
            clear e e1 e2 e5 e6 e10 e11 e13 e14 e15 e16
            obtain ⟨hm0, rfl, hs112, hF111⟩ := hrel
            clear F109
            obtain ⟨w113, rfl⟩ : ∃ x_ : World, x_ = wr := ⟨_, rfl⟩
            by_cases c114 : (m : Int) < (b.accs.length : Int)
            ·
             have c114H := Lib.hid c114
             obtain ⟨g115, cc116, e_⟩ := Own.opn (hF111.at 0 rfl : Own intEnc 3 1 w103.heap.size _ (.slice la_ b.accs.length lc_) (lsM b (oO b x) (oC b x) (oV b x) b.mvs.length)) (by omega)
             injection e_ with e1_ e2_ e3_
             subst e1_
             clear e2_ e3_
             have hz117 : Hid ((lsM b (oO b x) (oC b x) (oV b x) b.mvs.length)[m]? = some (gi (lsM b (oO b x) (oC b x) (oV b x) b.mvs.length) m)) := Lib.hid (gi_at (by omega))
             obtain ⟨x118, o119, e_⟩ := Sl.addr (hF111.at 11 rfl : Sl accEnc 6 lo hi _ (.slice aa b.accs.length ak) b.accs) (by omega)
             subst e_
             have hz120 : Hid (b.accs[m]? = some (ga b.accs m)) := Lib.hid (ga_at (by omega))
             have hmb : m < b.accs.length := by omega
             cases c121 : (rightF b x m)
             ·
              have c121H := Lib.hid c121
              go_wp2_with fail
              (first | refine ⟨by kernel_rfl, ?_, ?_⟩ | refine ⟨rfl, ?_, ?_⟩ | refine ⟨?_, ?_⟩)
              · rw [HI110.out]; exact ⟨m + 1, (by kernel_rfl), (by kernel_rfl), (by kernel_rfl), (by kernel_rfl), (by kernel_rfl), (by kernel_rfl), (by kernel_rfl), (by kernel_rfl), (congrArg Value.bool (rF_no c121)), (by show Value.int .i64 ((m : Int) + 1) = _; simp), (by omega), (by first | rfl | simp), (by first | omega | (simp; done) | (simp; omega)), hF111⟩
              · simp [slot, intOf]; omega
             ·
              have c121H := Lib.hid c121
              by_cases c122 : 0 ≤ gi (lsM b (oO b x) (oC b x) (oV b x) b.mvs.length) m
              ·
               have c122H := Lib.hid c122
               by_cases c123 : gi (lsM b (oO b x) (oC b x) (oV b x) b.mvs.length) m = 0
               ·
                have c123a : ((gi (lsM b (oO b x) (oC b x) (oV b x) b.mvs.length) m) == 0) = true := beq_t c123
                have c123b : ((gi (lsM b (oO b x) (oC b x) (oV b x) b.mvs.length) m) != 0) = false := bne_f c123
                have c123H := Lib.hid c123
                clear c123
                have ge124 : World.cell? _ ⟨g115, m, none⟩ = some (.int .i64 (gi (lsM b (oO b x) (oC b x) (oV b x) b.mvs.length) m)) := (by simpa using (Own.sl (hF111.at 0 rfl : Own intEnc 3 1 w103.heap.size _ (.slice (some ⟨g115, 0, none⟩) b.accs.length lc_) (lsM b (oO b x) (oC b x) (oV b x) b.mvs.length)) (fun _ => rfl)).cells hz117.out 0 _ rfl)
                have gl125 := cell_lt ge124
                go_wp2_with fail
                clear ge124 gl125
                (first | refine ⟨by kernel_rfl, ?_, ?_⟩ | refine ⟨rfl, ?_, ?_⟩ | refine ⟨?_, ?_⟩)
                · rw [HI110.out]; exact ⟨m + 1, (by kernel_rfl), (by kernel_rfl), (by kernel_rfl), (by kernel_rfl), (by kernel_rfl), (by kernel_rfl), (by kernel_rfl), (by kernel_rfl), (congrArg Value.bool (rF_zero c121 c122H.out c123H.out)), (by show Value.int .i64 ((m : Int) + 1) = _; simp), (by omega), (by first | rfl | simp), (by first | omega | (simp; done) | (simp; omega)), hF111⟩
                · simp [slot, intOf]; omega
               ·
                have c123a : ((gi (lsM b (oO b x) (oC b x) (oV b x) b.mvs.length) m) == 0) = false := beq_f c123
                have c123b : ((gi (lsM b (oO b x) (oC b x) (oV b x) b.mvs.length) m) != 0) = true := bne_t c123
                have c123H := Lib.hid c123
                clear c123
                have b126 := hF111.bx2 9 rfl
                have ge127 : World.cell? _ ⟨g115, m, none⟩ = some (.int .i64 (gi (lsM b (oO b x) (oC b x) (oV b x) b.mvs.length) m)) := (by simpa using (Own.sl (hF111.at 0 rfl : Own intEnc 3 1 w103.heap.size _ (.slice (some ⟨g115, 0, none⟩) b.accs.length lc_) (lsM b (oO b x) (oC b x) (oV b x) b.mvs.length)) (fun _ => rfl)).cells hz117.out 0 _ rfl)
                have gl128 := cell_lt ge127
                have ge129 : World.cell? _ ⟨x118, o119 + m * 6 + 1, none⟩ = some (.int .i64 (ga b.accs m).kind) := (((hF111.at 11 rfl : Sl accEnc 6 lo hi _ (.slice (some ⟨x118, o119, none⟩) b.accs.length ak) b.accs)).cells hz120.out 1 _ rfl)
                go_wp2_with fail
                clear b126 ge127 gl128 ge129
                (first | refine ⟨by kernel_rfl, ?_, ?_⟩ | refine ⟨rfl, ?_, ?_⟩ | refine ⟨?_, ?_⟩)
                · rw [HI110.out]; exact ⟨m + 1, (by kernel_rfl), (by kernel_rfl), (by kernel_rfl), (by kernel_rfl), (by kernel_rfl), (by kernel_rfl), (by kernel_rfl), (by kernel_rfl), (congrArg Value.bool (rF_kind c121 c122H.out c123H.out)), (by show Value.int .i64 ((m : Int) + 1) = _; simp), (by omega), (by first | rfl | simp), (by first | omega | (simp; done) | (simp; omega)), hF111⟩
                · simp [slot, intOf]; omega
              ·
               have c122H := Lib.hid c122
               have c122a : decide (0 ≤ gi (lsM b (oO b x) (oC b x) (oV b x) b.mvs.length) m) = false := dec_f c122
               have ge130 : World.cell? _ ⟨g115, m, none⟩ = some (.int .i64 (gi (lsM b (oO b x) (oC b x) (oV b x) b.mvs.length) m)) := (by simpa using (Own.sl (hF111.at 0 rfl : Own intEnc 3 1 w103.heap.size _ (.slice (some ⟨g115, 0, none⟩) b.accs.length lc_) (lsM b (oO b x) (oC b x) (oV b x) b.mvs.length)) (fun _ => rfl)).cells hz117.out 0 _ rfl)
               have gl131 := cell_lt ge130
               go_wp2_with fail
               clear ge130 gl131
               (first | refine ⟨by kernel_rfl, ?_, ?_⟩ | refine ⟨rfl, ?_, ?_⟩ | refine ⟨?_, ?_⟩)
               · rw [HI110.out]; exact ⟨m + 1, (by kernel_rfl), (by kernel_rfl), (by kernel_rfl), (by kernel_rfl), (by kernel_rfl), (by kernel_rfl), (by kernel_rfl), (by kernel_rfl), (congrArg Value.bool (rF_neg (by have h_ := c122H.out; omega))), (by show Value.int .i64 ((m : Int) + 1) = _; simp), (by omega), (by first | rfl | simp), (by first | omega | (simp; done) | (simp; omega)), hF111⟩
               · simp [slot, intOf]; omega
            ·
             have c114H := Lib.hid c114
             have c114a : decide ((m : Int) < (b.accs.length : Int)) = false := dec_f c114
             have hme : m = b.accs.length := by omega
             subst hme
             cases c132 : (rightF b x b.accs.length)
             ·
              have c132H := Lib.hid c132
              go_wp2_with fail
              have HTS := Lib.hid (TruS.skip HOK.out hT.out hX.out.1 hX.out.2 (fun h_ => by have h2_ := right_iff.2 h_; rw [c132] at h2_; cases h2_))
              have HNT := hN
              have F133 := ((((hF111.drop 4 rfl).drop 3 rfl).drop 2 rfl).drop 0 rfl)
              clear hF111
              go_wp2_with fail
              have hns : 0 < (spansL b).length := by omega
              have F134 : Bun w [rbox yg16 32 #[.slice oa1 ((oO b x).length) oc1, .slice oa2 ((oC b x).length) oc2, .slice oa3 ((oV b x).length) oc3], rtrs T, rown trvEnc 32 3 w.heap.size (.slice ta83 T.length tc84) T, rown intEnc 3 1 w.heap.size (.slice (some ⟨w43.heap.size, 0, none⟩) ((spansL b).length) ((spansL b).length)) (nowM (spansL b) x (spansL b).length), rown spEnc 40 2 w.heap.size (.slice (some ⟨ca57, 0, none⟩) (spansL b).length cc58) (spansL b), rbox w.heap.size 25 #[.slice aa b.accs.length ak, .slice ma b.mvs.length mk], rsl mvEnc 4 lo hi (.slice ma b.mvs.length mk) b.mvs, rsl accEnc 6 lo hi (.slice aa b.accs.length ak) b.accs] _ := (by rw [nowM_all HXL.out]; exact F133)
              clear F133
              (skip)
              obtain ⟨HI135_, HI1350⟩ : ∃ I : (Nat → Value) → List Deferred → World → Prop, I = (fun t ds wr => ∃ (p : Int) (kk : Nat), t 1 = .int .i64 6000 ∧ t 2 = .pointer (some ⟨w.heap.size, 0, none⟩) ∧ t 5 = .int .i64 (b.accs.length : Int) ∧ t 6 = .slice (some ⟨ca57, 0, none⟩) ((spansL b).length) cc58 ∧ t 10 = .slice ta83 T.length tc84 ∧ t 11 = .slice (some ⟨w43.heap.size, 0, none⟩) ((spansL b).length) ((spansL b).length) ∧ t 17 = .int .i64 p ∧ p + 1 = (kk : Int) ∧ kk ≤ (spansL b).length ∧ Hid (∀ j, kk ≤ j → j < (spansL b).length → gi x j = (gs (spansL b) j).hi) ∧ ds = [] ∧ w113.heap.size ≤ wr.heap.size ∧ Bun w [rtrs T, rown trvEnc 32 3 w.heap.size (.slice ta83 T.length tc84) T, rown intEnc 3 1 w.heap.size (.slice (some ⟨w43.heap.size, 0, none⟩) ((spansL b).length) ((spansL b).length)) (nowM (spansL b) x kk), rown spEnc 40 2 w.heap.size (.slice (some ⟨ca57, 0, none⟩) (spansL b).length cc58) (spansL b), rbox w.heap.size 25 #[.slice aa b.accs.length ak, .slice ma b.mvs.length mk], rsl mvEnc 4 lo hi (.slice ma b.mvs.length mk) b.mvs, rsl accEnc 6 lo hi (.slice aa b.accs.length ak) b.accs] wr) := ⟨_, rfl⟩
              have HI135 := Lib.hid HI1350
              clear HI1350
              refine wp_loopS 175 rfl HI135_ (fun t wr => (intOf (t 17) + 1).toNat) ?atStart7 ?round7
              case round7 =>
               intro t ds wr hHid
               rw [HI135.out] at hHid
               obtain ⟨p, kk, e1, e2, e5, e6, e10, e11, e17, hrel⟩ := hHid
               have e : ((List.range 175).map t).toArray = #[t 0, t 1, t 2, t 3, t 4, t 5, t 6, t 7, t 8, t 9, t 10, t 11, t 12, t 13, t 14, t 15, t 16, t 17, t 18, t 19, t 20, t 21, t 22, t 23, t 24, t 25, t 26, t 27, t 28, t 29, t 30, t 31, t 32, t 33, t 34, t 35, t 36, t 37, t 38, t 39, t 40, t 41, t 42, t 43, t 44, t 45, t 46, t 47, t 48, t 49, t 50, t 51, t 52, t 53, t 54, t 55, t 56, t 57, t 58, t 59, t 60, t 61, t 62, t 63, t 64, t 65, t 66, t 67, t 68, t 69, t 70, t 71, t 72, t 73, t 74, t 75, t 76, t 77, t 78, t 79, t 80, t 81, t 82, t 83, t 84, t 85, t 86, t 87, t 88, t 89, t 90, t 91, t 92, t 93, t 94, t 95, t 96, t 97, t 98, t 99, t 100, t 101, t 102, t 103, t 104, t 105, t 106, t 107, t 108, t 109, t 110, t 111, t 112, t 113, t 114, t 115, t 116, t 117, t 118, t 119, t 120, t 121, t 122, t 123, t 124, t 125, t 126, t 127, t 128, t 129, t 130, t 131, t 132, t 133, t 134, t 135, t 136, t 137, t 138, t 139, t 140, t 141, t 142, t 143, t 144, t 145, t 146, t 147, t 148, t 149, t 150, t 151, t 152, t 153, t 154, t 155, t 156, t 157, t 158, t 159, t 160, t 161, t 162, t 163, t 164, t 165, t 166, t 167, t 168, t 169, t 170, t 171, t 172, t 173, t 174] := rfl
               (try dsimp only at e)
               rw [e1, e2, e5, e6, e10, e11, e17] at e
               rw [e]
               simp only [e17]
               clear e e1 e2 e5 e6 e10 e11 e17
               obtain ⟨hp0, hk1, hH, rfl, hs137, hF136⟩ := hrel
               clear F134
               obtain ⟨w138, rfl⟩ : ∃ x_ : World, x_ = wr := ⟨_, rfl⟩
               by_cases c139 : 0 ≤ p
               ·
                have c139H := Lib.hid c139
                obtain ⟨q, rfl⟩ : ∃ q : Nat, p = (q : Int) := ⟨p.toNat, by omega⟩
                obtain rfl : kk = q + 1 := by omega
                have hqa : decide ((0 : Int) ≤ (q : Int)) = true := decide_eq_true (by omega)
                have hz140 : Hid ((nowM (spansL b) x (q + 1))[q]? = some (gi x q)) := Lib.hid (nowM_at (by omega))
                have hz141 : Hid ((spansL b)[q]? = some (gs (spansL b) q)) := Lib.hid (gs_at (by omega))
                have hqb : q < (spansL b).length := by omega
                have hqx := inC_at hX.out.1 q _ (gs_at hqb)
                have hqy := spans_bd HOK.out hqb
                have kn142 : ¬ ((q : Int) < 0) := by omega
                have kn142H := Lib.hid kn142
                have kn142a : decide ((q : Int) < 0) = false := dec_f kn142
                go_wp2_with fail
                have ge143 : World.cell? _ ⟨w43.heap.size, q, none⟩ = some (.int .i64 (gi x q)) := (by simpa using (Own.sl (hF136.at 2 rfl : Own intEnc 3 1 w.heap.size _ (.slice (some ⟨w43.heap.size, 0, none⟩) ((spansL b).length) ((spansL b).length)) (nowM (spansL b) x (q + 1))) (fun _ => rfl)).cells hz140.out 0 _ rfl)
                have ge144 : World.cell? _ ⟨ca57, q * 2 + 1, none⟩ = some (.int .i64 (gs (spansL b) q).hi) := (by simpa using (Own.sl (hF136.at 3 rfl : Own spEnc 40 2 w.heap.size _ (.slice (some ⟨ca57, 0, none⟩) (spansL b).length cc58) (spansL b)) (fun _ => rfl)).cells hz141.out 1 _ rfl)
                go_quiet (fail)
                clear ge143 ge144
                have F145 := hF136.drewN nq
                clear hF136
                have Fn_ := F145
                (try dsimp only [List.eraseIdx_cons_succ, List.eraseIdx_cons_zero] at Fn_)
                obtain ⟨w146, hx147, F149, hxs148⟩ := Fn_.name
                (try simp at hxs148)
                rw [hx147]
                clear hx147 F145 Fn_
                by_cases c150 : gi x q = (gs (spansL b) q).hi
                ·
                 have c150a : ((gi x q) == ((gs (spansL b) q).hi)) = true := beq_t c150
                 have c150b : ((gi x q) != ((gs (spansL b) q).hi)) = false := bne_f c150
                 have c150H := Lib.hid c150
                 clear c150
                 have ge151 : World.cell? _ ⟨ca57, q * 2, none⟩ = some (.int .i64 (gs (spansL b) q).lo) := (by simpa using (Own.sl (F149.at 3 rfl : Own spEnc 40 2 w.heap.size _ (.slice (some ⟨ca57, 0, none⟩) (spansL b).length cc58) (spansL b)) (fun _ => rfl)).cells hz141.out 0 _ rfl)
                 have gl152 := cell_lt ge151
                 have ge153 : World.cell? _ ⟨w43.heap.size, q, none⟩ = some (.int .i64 (gi x q)) := (by simpa using (Own.sl (F149.at 2 rfl : Own intEnc 3 1 w.heap.size _ (.slice (some ⟨w43.heap.size, 0, none⟩) ((spansL b).length) ((spansL b).length)) (nowM (spansL b) x (q + 1))) (fun _ => rfl)).cells hz140.out 0 _ rfl)
                 have gl154 := cell_lt ge153
                 have ge155 : World.frozen? _ ⟨w43.heap.size, q, none⟩ = false := Own.live (F149.at 2 rfl : Own intEnc 3 1 w.heap.size _ (.slice (some ⟨w43.heap.size, 0, none⟩) ((spansL b).length) ((spansL b).length)) (nowM (spansL b) x (q + 1))) _
                 go_wp2_with fail
                 clear ge151 gl152 ge153 gl154 ge155
                 have F156 := Bun.setOwn (sz := 1) (fun _ => rfl) (F149.front 2 rfl rfl) hz140.out (y := (gs (spansL b) q).lo) (j := 0) (u := (.int .i64 ((gs (spansL b) q).lo))) (k := q) (by decide) rfl (by omega)
                 clear F149
                 rw [nowM_set (by omega)] at F156
                 have F157 : Bun w [rtrs T, rown trvEnc 32 3 w.heap.size (.slice ta83 T.length tc84) T, rown intEnc 3 1 w.heap.size (.slice (some ⟨w43.heap.size, 0, none⟩) ((spansL b).length) ((spansL b).length)) (nowM (spansL b) x q), rown spEnc 40 2 w.heap.size (.slice (some ⟨ca57, 0, none⟩) (spansL b).length cc58) (spansL b), rbox w.heap.size 25 #[.slice aa b.accs.length ak, .slice ma b.mvs.length mk], rsl mvEnc 4 lo hi (.slice ma b.mvs.length mk) b.mvs, rsl accEnc 6 lo hi (.slice aa b.accs.length ak) b.accs] _ := F156.pick [1, 2, 0, 3, 4, 5, 6] (by decide) rfl
                 clear F156
                 (first | refine ⟨by kernel_rfl, ?_, ?_⟩ | refine ⟨rfl, ?_, ?_⟩ | refine ⟨?_, ?_⟩)
                 · rw [HI135.out]; exact ⟨(q : Int) - 1, q, (by kernel_rfl), (by kernel_rfl), (by kernel_rfl), (by kernel_rfl), (by kernel_rfl), (by kernel_rfl), rfl, (by omega), (by omega), Lib.hid (hi_step hH.out c150H.out), (by first | rfl | simp), (by first | omega | (simp; done) | (simp; omega)), F157⟩
                 · simp [slot, intOf] <;> omega
                ·
                 have c150a : ((gi x q) == ((gs (spansL b) q).hi)) = false := beq_f c150
                 have c150b : ((gi x q) != ((gs (spansL b) q).hi)) = true := bne_t c150
                 have c150H := Lib.hid c150
                 clear c150
                 have ge158 : World.cell? _ ⟨w43.heap.size, q, none⟩ = some (.int .i64 (gi x q)) := (by simpa using (Own.sl (F149.at 2 rfl : Own intEnc 3 1 w.heap.size _ (.slice (some ⟨w43.heap.size, 0, none⟩) ((spansL b).length) ((spansL b).length)) (nowM (spansL b) x (q + 1))) (fun _ => rfl)).cells hz140.out 0 _ rfl)
                 have gl159 := cell_lt ge158
                 have ge160 : World.cell? _ ⟨w43.heap.size, q, none⟩ = some (.int .i64 (gi x q)) := (by simpa using (Own.sl (F149.at 2 rfl : Own intEnc 3 1 w.heap.size _ (.slice (some ⟨w43.heap.size, 0, none⟩) ((spansL b).length) ((spansL b).length)) (nowM (spansL b) x (q + 1))) (fun _ => rfl)).cells hz140.out 0 _ rfl)
                 have gl161 := cell_lt ge160
                 have ge162 : World.frozen? _ ⟨w43.heap.size, q, none⟩ = false := Own.live (F149.at 2 rfl : Own intEnc 3 1 w.heap.size _ (.slice (some ⟨w43.heap.size, 0, none⟩) ((spansL b).length) ((spansL b).length)) (nowM (spansL b) x (q + 1))) _
                 go_wp2_with fail
                 clear ge158 gl159 ge160 gl161 ge162
                 have F163 := Bun.setOwn (sz := 1) (fun _ => rfl) (F149.front 2 rfl rfl) hz140.out (y := gi x q + 1) (j := 0) (u := (.int .i64 (gi x q + 1))) (k := q) (by decide) rfl (by omega)
                 clear F149
                 have HNI := Lib.hid (next_in HSP.out hX.out.1 hqb hH.out c150H.out)
                 have F164 : Bun w [rown intEnc 3 1 w.heap.size (.slice (some ⟨w43.heap.size, 0, none⟩) ((spansL b).length) ((spansL b).length)) (nextC (spansL b) x q), rtrs T, rown trvEnc 32 3 w.heap.size (.slice ta83 T.length tc84) T, rown spEnc 40 2 w.heap.size (.slice (some ⟨ca57, 0, none⟩) (spansL b).length cc58) (spansL b), rbox w.heap.size 25 #[.slice aa b.accs.length ak, .slice ma b.mvs.length mk], rsl mvEnc 4 lo hi (.slice ma b.mvs.length mk) b.mvs, rsl accEnc 6 lo hi (.slice aa b.accs.length ak) b.accs] _ := F163
                 clear F163
                 have F165 : Bun w [rtrs T, rown trvEnc 32 3 w.heap.size (.slice ta83 T.length tc84) T, rown intEnc 3 1 w.heap.size (.slice (some ⟨w43.heap.size, 0, none⟩) ((spansL b).length) ((spansL b).length)) (nextC (spansL b) x q), rown spEnc 40 2 w.heap.size (.slice (some ⟨ca57, 0, none⟩) (spansL b).length cc58) (spansL b), rbox w.heap.size 25 #[.slice aa b.accs.length ak, .slice ma b.mvs.length mk], rsl mvEnc 4 lo hi (.slice ma b.mvs.length mk) b.mvs, rsl accEnc 6 lo hi (.slice aa b.accs.length ak) b.accs] _ := F164.pick [1, 2, 0, 3, 4, 5, 6] (by decide) rfl
                 clear F164
                 (first | refine ⟨by kernel_rfl, ?_, ?_⟩ | refine ⟨rfl, ?_, ?_⟩ | refine ⟨?_, ?_⟩)
                 · rw [HI79.out]; exact ⟨i + 1, (nextC (spansL b) x q), T, (.slice ta83 T.length tc84), (by kernel_rfl), (by kernel_rfl), (by kernel_rfl), (by kernel_rfl), (by kernel_rfl), (by kernel_rfl), Lib.hid ⟨HNI.out.1, by rw [HNI.out.2, hX.out.2]⟩, HTS, HNT, (by first | rfl | simp), (by first | omega | (simp; done) | (simp; omega)), F165⟩
                 · have hq_ := nowAtN_own (F165.at 2 rfl : Own intEnc 3 1 w.heap.size _ (.slice (some ⟨w43.heap.size, 0, none⟩) ((spansL b).length) ((spansL b).length)) (nextC (spansL b) x q)) (nextC_len (spansL b) x q); have hr_ := HNI.out.2; show sizeC (spansL b) - rankC (spansL b) (nowAt _ _ _) < sizeC (spansL b) - rankC (spansL b) (nowAt _ _ _); rw [hq_, HNW.out]; omega
               ·
                have c139H := Lib.hid c139
                have c139a : decide (0 ≤ p) = false := dec_f c139
                have kn166 : p < 0 := by omega
                have kn166H := Lib.hid kn166
                have kn166a : decide (p < 0) = true := decide_eq_true kn166
                go_wp2_with fail
                go_quiet (fail)
                have F167 := hF136.drewN nq
                clear hF136
                have Fn_ := F167
                (try dsimp only [List.eraseIdx_cons_succ, List.eraseIdx_cons_zero] at Fn_)
                obtain ⟨w168, hx169, F171, hxs170⟩ := Fn_.name
                (try simp at hxs170)
                rw [hx169]
                clear hx169 F167 Fn_
                go_wp2_with fail
                exact bodyPost_ret (v := .slice ta83 T.length tc84) (by simp [results, Try.results50, go_sem]) rfl (⟨_, _, _, _, _, rfl, (by simp), (by have h_ := last_size HSP.out hX.out.1 (fun j _ h2_ => hH.out j (by omega) h2_); have h2_ := hX.out.2; have h3_ := HTS.out; rw [h2_] at h_; rw [h_] at h3_; exact h3_), HSZ.out, HNT.out, F171.pick [1, 0] (by decide) rfl⟩)
              case atStart7 =>
               rw [HI135.out]
               exact ⟨((spansL b).length : Int) - 1, (spansL b).length, (by kernel_rfl), (by kernel_rfl), (by kernel_rfl), (by kernel_rfl), (by kernel_rfl), (by kernel_rfl), rfl, (by omega), Nat.le_refl _, Lib.hid (fun j h1_ h2_ => absurd h2_ (by omega)), rfl, (by first | exact Nat.le_refl _ | omega | (simp; done) | (simp; omega)), (F134.drop 0 rfl)⟩
             ·
              have c132H := Lib.hid c132
              have b172 := hF111.bx3 1 rfl
              go_wp2_with (at_builtin; refine wpList_app _ okTr rfl _ _ rfl w.heap.size (.slice ta83 T.length tc84) T [(⟨oa1, oc1, oa2, oc2, oa3, oc3, (oO b x), (oC b x), (oV b x), ol1, oh1, ol2, oh2, ol3, oh3⟩ : TrV)] rfl (by exact ((hF111.at 6 rfl : Own trvEnc 32 3 w.heap.size _ (.slice ta83 T.length tc84) T)).alloc _) ⟨_, 0, none⟩ 1 1 rfl rfl (by decide) (news_of (Bk.newAt _ _ _ (by simp))) (T.length + 1) (rfl) (by omega) (by first | omega | (simp; omega)) _ rfl ?_; intro g173 cap174 w175 hp176; refine Hid.out ?_)
              refine Lib.hid ?_
              have hp176s := hp176.gb.size
              (try simp at hp176s)
              clear b172
              have F177 := ((hF111.alloc (.cells #[.slice oa1 ((oO b x).length) oc1, .slice oa2 ((oC b x).length) oc2, .slice oa3 ((oV b x).length) oc3] 32)).front 6 rfl rfl).app hp176 (by simp)
              clear hF111
              go_wp2_with fail
              have F178 : Bun w [rsl intEnc 1 ol1 oh1 (.slice oa1 (oO b x).length oc1) (oO b x), rsl intEnc 1 ol2 oh2 (.slice oa2 (oC b x).length oc2) (oC b x), rsl intEnc 1 ol3 oh3 (.slice oa3 (oV b x).length oc3) (oV b x), rtrs T, rown trvEnc 32 3 w.heap.size (.slice (some ⟨g173, 0, none⟩) (T.length + 1) cap174) (T ++ [(⟨oa1, oc1, oa2, oc2, oa3, oc3, (oO b x), (oC b x), (oV b x), ol1, oh1, ol2, oh2, ol3, oh3⟩ : TrV)]), rown intEnc 3 1 w103.heap.size (.slice la_ b.accs.length lc_) (lsM b (oO b x) (oC b x) (oV b x) b.mvs.length), rbox yg16 32 #[.slice oa1 ((oO b x).length) oc1, .slice oa2 ((oC b x).length) oc2, .slice oa3 ((oV b x).length) oc3], rown intEnc 3 1 w.heap.size (.slice (some ⟨w43.heap.size, 0, none⟩) ((spansL b).length) ((spansL b).length)) x, rown spEnc 40 2 w.heap.size (.slice (some ⟨ca57, 0, none⟩) (spansL b).length cc58) (spansL b), rbox w.heap.size 25 #[.slice aa b.accs.length ak, .slice ma b.mvs.length mk], rsl mvEnc 4 lo hi (.slice ma b.mvs.length mk) b.mvs, rsl accEnc 6 lo hi (.slice aa b.accs.length ak) b.accs] _ := F177.pick [5, 4, 3, 6, 0, 1, 2, 7, 8, 9, 10, 11] (by decide) rfl
              clear F177
              have F179 := F178.trsS
              clear F178
              have HTS := Lib.hid (TruS.more (t := (⟨oa1, oc1, oa2, oc2, oa3, oc3, (oO b x), (oC b x), (oV b x), ol1, oh1, ol2, oh2, ol3, oh3⟩ : TrV)) HOK.out hT.out hX.out.1 hX.out.2 (right_iff.1 c132) ⟨rfl, rfl, rfl⟩)
              have HNT := Lib.hid (newT_app (t := (⟨oa1, oc1, oa2, oc2, oa3, oc3, (oO b x), (oC b x), (oV b x), ol1, oh1, ol2, oh2, ol3, oh3⟩ : TrV)) hN.out ⟨ow1, ow2, ow3⟩)
              have F180 := (F179.drop 2 rfl)
              clear F179
              go_wp2_with fail
              have hns : 0 < (spansL b).length := by omega
              have F181 : Bun w [rtrs (T ++ [(⟨oa1, oc1, oa2, oc2, oa3, oc3, (oO b x), (oC b x), (oV b x), ol1, oh1, ol2, oh2, ol3, oh3⟩ : TrV)]), rown trvEnc 32 3 w.heap.size (.slice (some ⟨g173, 0, none⟩) (T.length + 1) cap174) (T ++ [(⟨oa1, oc1, oa2, oc2, oa3, oc3, (oO b x), (oC b x), (oV b x), ol1, oh1, ol2, oh2, ol3, oh3⟩ : TrV)]), rbox yg16 32 #[.slice oa1 ((oO b x).length) oc1, .slice oa2 ((oC b x).length) oc2, .slice oa3 ((oV b x).length) oc3], rown intEnc 3 1 w.heap.size (.slice (some ⟨w43.heap.size, 0, none⟩) ((spansL b).length) ((spansL b).length)) (nowM (spansL b) x (spansL b).length), rown spEnc 40 2 w.heap.size (.slice (some ⟨ca57, 0, none⟩) (spansL b).length cc58) (spansL b), rbox w.heap.size 25 #[.slice aa b.accs.length ak, .slice ma b.mvs.length mk], rsl mvEnc 4 lo hi (.slice ma b.mvs.length mk) b.mvs, rsl accEnc 6 lo hi (.slice aa b.accs.length ak) b.accs] _ := (by rw [nowM_all HXL.out]; exact F180)
              clear F180
              (skip)
              obtain ⟨HI182_, HI1820⟩ : ∃ I : (Nat → Value) → List Deferred → World → Prop, I = (fun t ds wr => ∃ (p : Int) (kk : Nat), t 1 = .int .i64 6000 ∧ t 2 = .pointer (some ⟨w.heap.size, 0, none⟩) ∧ t 5 = .int .i64 (b.accs.length : Int) ∧ t 6 = .slice (some ⟨ca57, 0, none⟩) ((spansL b).length) cc58 ∧ t 10 = .slice (some ⟨g173, 0, none⟩) (T.length + 1) cap174 ∧ t 11 = .slice (some ⟨w43.heap.size, 0, none⟩) ((spansL b).length) ((spansL b).length) ∧ t 17 = .int .i64 p ∧ p + 1 = (kk : Int) ∧ kk ≤ (spansL b).length ∧ Hid (∀ j, kk ≤ j → j < (spansL b).length → gi x j = (gs (spansL b) j).hi) ∧ ds = [] ∧ w175.heap.size ≤ wr.heap.size ∧ Bun w [rtrs (T ++ [(⟨oa1, oc1, oa2, oc2, oa3, oc3, (oO b x), (oC b x), (oV b x), ol1, oh1, ol2, oh2, ol3, oh3⟩ : TrV)]), rown trvEnc 32 3 w.heap.size (.slice (some ⟨g173, 0, none⟩) (T.length + 1) cap174) (T ++ [(⟨oa1, oc1, oa2, oc2, oa3, oc3, (oO b x), (oC b x), (oV b x), ol1, oh1, ol2, oh2, ol3, oh3⟩ : TrV)]), rown intEnc 3 1 w.heap.size (.slice (some ⟨w43.heap.size, 0, none⟩) ((spansL b).length) ((spansL b).length)) (nowM (spansL b) x kk), rown spEnc 40 2 w.heap.size (.slice (some ⟨ca57, 0, none⟩) (spansL b).length cc58) (spansL b), rbox w.heap.size 25 #[.slice aa b.accs.length ak, .slice ma b.mvs.length mk], rsl mvEnc 4 lo hi (.slice ma b.mvs.length mk) b.mvs, rsl accEnc 6 lo hi (.slice aa b.accs.length ak) b.accs] wr) := ⟨_, rfl⟩
              have HI182 := Lib.hid HI1820
              clear HI1820
              refine wp_loopS 175 rfl HI182_ (fun t wr => (intOf (t 17) + 1).toNat) ?atStart8 ?round8
              case round8 =>
               intro t ds wr hHid
               rw [HI182.out] at hHid
               obtain ⟨p, kk, e1, e2, e5, e6, e10, e11, e17, hrel⟩ := hHid
               have e : ((List.range 175).map t).toArray = #[t 0, t 1, t 2, t 3, t 4, t 5, t 6, t 7, t 8, t 9, t 10, t 11, t 12, t 13, t 14, t 15, t 16, t 17, t 18, t 19, t 20, t 21, t 22, t 23, t 24, t 25, t 26, t 27, t 28, t 29, t 30, t 31, t 32, t 33, t 34, t 35, t 36, t 37, t 38, t 39, t 40, t 41, t 42, t 43, t 44, t 45, t 46, t 47, t 48, t 49, t 50, t 51, t 52, t 53, t 54, t 55, t 56, t 57, t 58, t 59, t 60, t 61, t 62, t 63, t 64, t 65, t 66, t 67, t 68, t 69, t 70, t 71, t 72, t 73, t 74, t 75, t 76, t 77, t 78, t 79, t 80, t 81, t 82, t 83, t 84, t 85, t 86, t 87, t 88, t 89, t 90, t 91, t 92, t 93, t 94, t 95, t 96, t 97, t 98, t 99, t 100, t 101, t 102, t 103, t 104, t 105, t 106, t 107, t 108, t 109, t 110, t 111, t 112, t 113, t 114, t 115, t 116, t 117, t 118, t 119, t 120, t 121, t 122, t 123, t 124, t 125, t 126, t 127, t 128, t 129, t 130, t 131, t 132, t 133, t 134, t 135, t 136, t 137, t 138, t 139, t 140, t 141, t 142, t 143, t 144, t 145, t 146, t 147, t 148, t 149, t 150, t 151, t 152, t 153, t 154, t 155, t 156, t 157, t 158, t 159, t 160, t 161, t 162, t 163, t 164, t 165, t 166, t 167, t 168, t 169, t 170, t 171, t 172, t 173, t 174] := rfl
               (try dsimp only at e)
               rw [e1, e2, e5, e6, e10, e11, e17] at e
               rw [e]
               simp only [e17]
               clear e e1 e2 e5 e6 e10 e11 e17
               obtain ⟨hp0, hk1, hH, rfl, hs184, hF183⟩ := hrel
               clear F181
               obtain ⟨w185, rfl⟩ : ∃ x_ : World, x_ = wr := ⟨_, rfl⟩
               by_cases c186 : 0 ≤ p
               ·
                have c186H := Lib.hid c186
                obtain ⟨q, rfl⟩ : ∃ q : Nat, p = (q : Int) := ⟨p.toNat, by omega⟩
                obtain rfl : kk = q + 1 := by omega
                have hqa : decide ((0 : Int) ≤ (q : Int)) = true := decide_eq_true (by omega)
                have hz187 : Hid ((nowM (spansL b) x (q + 1))[q]? = some (gi x q)) := Lib.hid (nowM_at (by omega))
                have hz188 : Hid ((spansL b)[q]? = some (gs (spansL b) q)) := Lib.hid (gs_at (by omega))
                have hqb : q < (spansL b).length := by omega
                have hqx := inC_at hX.out.1 q _ (gs_at hqb)
                have hqy := spans_bd HOK.out hqb
                have kn189 : ¬ ((q : Int) < 0) := by omega
                have kn189H := Lib.hid kn189
                have kn189a : decide ((q : Int) < 0) = false := dec_f kn189
                go_wp2_with fail
                have ge190 : World.cell? _ ⟨w43.heap.size, q, none⟩ = some (.int .i64 (gi x q)) := (by simpa using (Own.sl (hF183.at 2 rfl : Own intEnc 3 1 w.heap.size _ (.slice (some ⟨w43.heap.size, 0, none⟩) ((spansL b).length) ((spansL b).length)) (nowM (spansL b) x (q + 1))) (fun _ => rfl)).cells hz187.out 0 _ rfl)
                have ge191 : World.cell? _ ⟨ca57, q * 2 + 1, none⟩ = some (.int .i64 (gs (spansL b) q).hi) := (by simpa using (Own.sl (hF183.at 3 rfl : Own spEnc 40 2 w.heap.size _ (.slice (some ⟨ca57, 0, none⟩) (spansL b).length cc58) (spansL b)) (fun _ => rfl)).cells hz188.out 1 _ rfl)
                go_quiet (fail)
                clear ge190 ge191
                have F192 := hF183.drewN nq
                clear hF183
                have Fn_ := F192
                (try dsimp only [List.eraseIdx_cons_succ, List.eraseIdx_cons_zero] at Fn_)
                obtain ⟨w193, hx194, F196, hxs195⟩ := Fn_.name
                (try simp at hxs195)
                rw [hx194]
                clear hx194 F192 Fn_
                by_cases c197 : gi x q = (gs (spansL b) q).hi
                ·
                 have c197a : ((gi x q) == ((gs (spansL b) q).hi)) = true := beq_t c197
                 have c197b : ((gi x q) != ((gs (spansL b) q).hi)) = false := bne_f c197
                 have c197H := Lib.hid c197
                 clear c197
                 have ge198 : World.cell? _ ⟨ca57, q * 2, none⟩ = some (.int .i64 (gs (spansL b) q).lo) := (by simpa using (Own.sl (F196.at 3 rfl : Own spEnc 40 2 w.heap.size _ (.slice (some ⟨ca57, 0, none⟩) (spansL b).length cc58) (spansL b)) (fun _ => rfl)).cells hz188.out 0 _ rfl)
                 have gl199 := cell_lt ge198
                 have ge200 : World.cell? _ ⟨w43.heap.size, q, none⟩ = some (.int .i64 (gi x q)) := (by simpa using (Own.sl (F196.at 2 rfl : Own intEnc 3 1 w.heap.size _ (.slice (some ⟨w43.heap.size, 0, none⟩) ((spansL b).length) ((spansL b).length)) (nowM (spansL b) x (q + 1))) (fun _ => rfl)).cells hz187.out 0 _ rfl)
                 have gl201 := cell_lt ge200
                 have ge202 : World.frozen? _ ⟨w43.heap.size, q, none⟩ = false := Own.live (F196.at 2 rfl : Own intEnc 3 1 w.heap.size _ (.slice (some ⟨w43.heap.size, 0, none⟩) ((spansL b).length) ((spansL b).length)) (nowM (spansL b) x (q + 1))) _
                 go_wp2_with fail
                 clear ge198 gl199 ge200 gl201 ge202
                 have F203 := Bun.setOwn (sz := 1) (fun _ => rfl) (F196.front 2 rfl rfl) hz187.out (y := (gs (spansL b) q).lo) (j := 0) (u := (.int .i64 ((gs (spansL b) q).lo))) (k := q) (by decide) rfl (by omega)
                 clear F196
                 rw [nowM_set (by omega)] at F203
                 have F204 : Bun w [rtrs (T ++ [(⟨oa1, oc1, oa2, oc2, oa3, oc3, (oO b x), (oC b x), (oV b x), ol1, oh1, ol2, oh2, ol3, oh3⟩ : TrV)]), rown trvEnc 32 3 w.heap.size (.slice (some ⟨g173, 0, none⟩) (T.length + 1) cap174) (T ++ [(⟨oa1, oc1, oa2, oc2, oa3, oc3, (oO b x), (oC b x), (oV b x), ol1, oh1, ol2, oh2, ol3, oh3⟩ : TrV)]), rown intEnc 3 1 w.heap.size (.slice (some ⟨w43.heap.size, 0, none⟩) ((spansL b).length) ((spansL b).length)) (nowM (spansL b) x q), rown spEnc 40 2 w.heap.size (.slice (some ⟨ca57, 0, none⟩) (spansL b).length cc58) (spansL b), rbox w.heap.size 25 #[.slice aa b.accs.length ak, .slice ma b.mvs.length mk], rsl mvEnc 4 lo hi (.slice ma b.mvs.length mk) b.mvs, rsl accEnc 6 lo hi (.slice aa b.accs.length ak) b.accs] _ := F203.pick [1, 2, 0, 3, 4, 5, 6] (by decide) rfl
                 clear F203
                 (first | refine ⟨by kernel_rfl, ?_, ?_⟩ | refine ⟨rfl, ?_, ?_⟩ | refine ⟨?_, ?_⟩)
                 · rw [HI182.out]; exact ⟨(q : Int) - 1, q, (by kernel_rfl), (by kernel_rfl), (by kernel_rfl), (by kernel_rfl), (by kernel_rfl), (by kernel_rfl), rfl, (by omega), (by omega), Lib.hid (hi_step hH.out c197H.out), (by first | rfl | simp), (by first | omega | (simp; done) | (simp; omega)), F204⟩
                 · simp [slot, intOf] <;> omega
                ·
                 have c197a : ((gi x q) == ((gs (spansL b) q).hi)) = false := beq_f c197
                 have c197b : ((gi x q) != ((gs (spansL b) q).hi)) = true := bne_t c197
                 have c197H := Lib.hid c197
                 clear c197
                 have ge205 : World.cell? _ ⟨w43.heap.size, q, none⟩ = some (.int .i64 (gi x q)) := (by simpa using (Own.sl (F196.at 2 rfl : Own intEnc 3 1 w.heap.size _ (.slice (some ⟨w43.heap.size, 0, none⟩) ((spansL b).length) ((spansL b).length)) (nowM (spansL b) x (q + 1))) (fun _ => rfl)).cells hz187.out 0 _ rfl)
                 have gl206 := cell_lt ge205
                 have ge207 : World.cell? _ ⟨w43.heap.size, q, none⟩ = some (.int .i64 (gi x q)) := (by simpa using (Own.sl (F196.at 2 rfl : Own intEnc 3 1 w.heap.size _ (.slice (some ⟨w43.heap.size, 0, none⟩) ((spansL b).length) ((spansL b).length)) (nowM (spansL b) x (q + 1))) (fun _ => rfl)).cells hz187.out 0 _ rfl)
                 have gl208 := cell_lt ge207
                 have ge209 : World.frozen? _ ⟨w43.heap.size, q, none⟩ = false := Own.live (F196.at 2 rfl : Own intEnc 3 1 w.heap.size _ (.slice (some ⟨w43.heap.size, 0, none⟩) ((spansL b).length) ((spansL b).length)) (nowM (spansL b) x (q + 1))) _
                 go_wp2_with fail
                 clear ge205 gl206 ge207 gl208 ge209
                 have F210 := Bun.setOwn (sz := 1) (fun _ => rfl) (F196.front 2 rfl rfl) hz187.out (y := gi x q + 1) (j := 0) (u := (.int .i64 (gi x q + 1))) (k := q) (by decide) rfl (by omega)
                 clear F196
                 have HNI := Lib.hid (next_in HSP.out hX.out.1 hqb hH.out c197H.out)
                 have F211 : Bun w [rown intEnc 3 1 w.heap.size (.slice (some ⟨w43.heap.size, 0, none⟩) ((spansL b).length) ((spansL b).length)) (nextC (spansL b) x q), rtrs (T ++ [(⟨oa1, oc1, oa2, oc2, oa3, oc3, (oO b x), (oC b x), (oV b x), ol1, oh1, ol2, oh2, ol3, oh3⟩ : TrV)]), rown trvEnc 32 3 w.heap.size (.slice (some ⟨g173, 0, none⟩) (T.length + 1) cap174) (T ++ [(⟨oa1, oc1, oa2, oc2, oa3, oc3, (oO b x), (oC b x), (oV b x), ol1, oh1, ol2, oh2, ol3, oh3⟩ : TrV)]), rown spEnc 40 2 w.heap.size (.slice (some ⟨ca57, 0, none⟩) (spansL b).length cc58) (spansL b), rbox w.heap.size 25 #[.slice aa b.accs.length ak, .slice ma b.mvs.length mk], rsl mvEnc 4 lo hi (.slice ma b.mvs.length mk) b.mvs, rsl accEnc 6 lo hi (.slice aa b.accs.length ak) b.accs] _ := F210
                 clear F210
                 have F212 : Bun w [rtrs (T ++ [(⟨oa1, oc1, oa2, oc2, oa3, oc3, (oO b x), (oC b x), (oV b x), ol1, oh1, ol2, oh2, ol3, oh3⟩ : TrV)]), rown trvEnc 32 3 w.heap.size (.slice (some ⟨g173, 0, none⟩) (T.length + 1) cap174) (T ++ [(⟨oa1, oc1, oa2, oc2, oa3, oc3, (oO b x), (oC b x), (oV b x), ol1, oh1, ol2, oh2, ol3, oh3⟩ : TrV)]), rown intEnc 3 1 w.heap.size (.slice (some ⟨w43.heap.size, 0, none⟩) ((spansL b).length) ((spansL b).length)) (nextC (spansL b) x q), rown spEnc 40 2 w.heap.size (.slice (some ⟨ca57, 0, none⟩) (spansL b).length cc58) (spansL b), rbox w.heap.size 25 #[.slice aa b.accs.length ak, .slice ma b.mvs.length mk], rsl mvEnc 4 lo hi (.slice ma b.mvs.length mk) b.mvs, rsl accEnc 6 lo hi (.slice aa b.accs.length ak) b.accs] _ := F211.pick [1, 2, 0, 3, 4, 5, 6] (by decide) rfl
                 clear F211
                 (first | refine ⟨by kernel_rfl, ?_, ?_⟩ | refine ⟨rfl, ?_, ?_⟩ | refine ⟨?_, ?_⟩)
                 · rw [HI79.out]; exact ⟨i + 1, (nextC (spansL b) x q), (T ++ [(⟨oa1, oc1, oa2, oc2, oa3, oc3, (oO b x), (oC b x), (oV b x), ol1, oh1, ol2, oh2, ol3, oh3⟩ : TrV)]), (.slice (some ⟨g173, 0, none⟩) (T.length + 1) cap174), (by kernel_rfl), (by kernel_rfl), (by kernel_rfl), (by kernel_rfl), (by kernel_rfl), (by kernel_rfl), Lib.hid ⟨HNI.out.1, by rw [HNI.out.2, hX.out.2]⟩, HTS, HNT, (by first | rfl | simp), (by first | omega | (simp; done) | (simp; omega)), F212⟩
                 · have hq_ := nowAtN_own (F212.at 2 rfl : Own intEnc 3 1 w.heap.size _ (.slice (some ⟨w43.heap.size, 0, none⟩) ((spansL b).length) ((spansL b).length)) (nextC (spansL b) x q)) (nextC_len (spansL b) x q); have hr_ := HNI.out.2; show sizeC (spansL b) - rankC (spansL b) (nowAt _ _ _) < sizeC (spansL b) - rankC (spansL b) (nowAt _ _ _); rw [hq_, HNW.out]; omega
               ·
                have c186H := Lib.hid c186
                have c186a : decide (0 ≤ p) = false := dec_f c186
                have kn213 : p < 0 := by omega
                have kn213H := Lib.hid kn213
                have kn213a : decide (p < 0) = true := decide_eq_true kn213
                go_wp2_with fail
                go_quiet (fail)
                have F214 := hF183.drewN nq
                clear hF183
                have Fn_ := F214
                (try dsimp only [List.eraseIdx_cons_succ, List.eraseIdx_cons_zero] at Fn_)
                obtain ⟨w215, hx216, F218, hxs217⟩ := Fn_.name
                (try simp at hxs217)
                rw [hx216]
                clear hx216 F214 Fn_
                go_wp2_with fail
                exact bodyPost_ret (v := .slice (some ⟨g173, 0, none⟩) (T.length + 1) cap174) (by simp [results, Try.results50, go_sem]) rfl (⟨_, _, _, _, _, rfl, (by simp), (by have h_ := last_size HSP.out hX.out.1 (fun j _ h2_ => hH.out j (by omega) h2_); have h2_ := hX.out.2; have h3_ := HTS.out; rw [h2_] at h_; rw [h_] at h3_; exact h3_), HSZ.out, HNT.out, F218.pick [1, 0] (by decide) rfl⟩)
              case atStart8 =>
               rw [HI182.out]
               exact ⟨((spansL b).length : Int) - 1, (spansL b).length, (by kernel_rfl), (by kernel_rfl), (by kernel_rfl), (by kernel_rfl), (by kernel_rfl), (by kernel_rfl), rfl, (by omega), Nat.le_refl _, Lib.hid (fun j h1_ h2_ => absurd h2_ (by omega)), rfl, (by first | exact Nat.le_refl _ | omega | (simp; done) | (simp; omega)), (F181.drop 2 rfl)⟩
           case atStart6 =>
            rw [HI110.out]
            exact ⟨0, (by kernel_rfl), (by kernel_rfl), (by kernel_rfl), (by kernel_rfl), (by kernel_rfl), (by kernel_rfl), (by kernel_rfl), (by kernel_rfl), rfl, rfl, Nat.zero_le _, rfl, (by first | exact Nat.le_refl _ | omega | (simp; done) | (simp; omega)), F109⟩
          intro hZ94
          refine ru_state 175 (fun t w_ => ∃ (oa1 : Option Addr) (oc1 : Nat) (ol1 : Nat) (oh1 : Nat) (oa2 : Option Addr) (oc2 : Nat) (ol2 : Nat) (oh2 : Nat) (oa3 : Option Addr) (oc3 : Nat) (ol3 : Nat) (oh3 : Nat) (yg16 : Nat), (oh1 ≤ w_.heap.size) ∧ (w.heap.size ≤ ol1) ∧ (oh2 ≤ w_.heap.size) ∧ (w.heap.size ≤ ol2) ∧ (oh3 ≤ w_.heap.size) ∧ (w.heap.size ≤ ol3) ∧ t 1 = .int .i64 6000 ∧ t 2 = .pointer (some ⟨w.heap.size, 0, none⟩) ∧ t 5 = .int .i64 (b.accs.length : Int) ∧ t 6 = .slice (some ⟨ca57, 0, none⟩) ((spansL b).length) cc58 ∧ t 10 = .slice ta83 T.length tc84 ∧ t 11 = .slice (some ⟨w43.heap.size, 0, none⟩) ((spansL b).length) ((spansL b).length) ∧ t 13 = .pointer (some ⟨yg16, 0, none⟩) ∧ t 101 = .agg #[.slice oa1 ((oO b x).length) oc1, .slice oa2 ((oC b x).length) oc2, .slice oa3 ((oV b x).length) oc3] ∧ w82.heap.size ≤ w_.heap.size ∧ Bun w [rbox yg16 32 #[.slice none 0 0, .slice none 0 0, .slice none 0 0], rsl intEnc 1 ol3 oh3 (.slice oa3 (oV b x).length oc3) (oV b x), rsl intEnc 1 ol2 oh2 (.slice oa2 (oC b x).length oc2) (oC b x), rsl intEnc 1 ol1 oh1 (.slice oa1 (oO b x).length oc1) (oO b x), rtrs T, rown trvEnc 32 3 w.heap.size (.slice ta83 T.length tc84) T, rown intEnc 3 1 w.heap.size (.slice (some ⟨w43.heap.size, 0, none⟩) ((spansL b).length) ((spansL b).length)) x, rown spEnc 40 2 w.heap.size (.slice (some ⟨ca57, 0, none⟩) (spansL b).length cc58) (spansL b), rbox w.heap.size 25 #[.slice aa b.accs.length ak, .slice ma b.mvs.length mk], rsl mvEnc 4 lo hi (.slice ma b.mvs.length mk) b.mvs, rsl accEnc 6 lo hi (.slice aa b.accs.length ak) b.accs] w_) #[true, true, true, true, true, true, true, true, true, true, true, true, true, true, true, true, true, false] 1 ?st219 ?nx219
          case st219 =>
           rintro t w220 ⟨oa1, oc1, ol1, oh1, oa2, oc2, ol2, oh2, oa3, oc3, ol3, oh3, yg16, oy1, ow1, oy2, ow2, oy3, ow3, e1, e2, e5, e6, e10, e11, e13, e101, hsz219, F221⟩
           clear F91
           rw [rng_truths_c t, e1, e2, e5, e6, e10, e11, e13, e101]
           clear e1 e2 e5 e6 e10 e11 e13 e101
           have hws219 := F221.gb.size
           have yg16l := F221.ltAt 0 rfl yg16 rfl
           have yg16b := yg16l.2 rfl
           refine ru_one 17 rfl (by kernel_rfl) (fun K hK => ?_)
           have kb_ := F221.bx3 0 rfl
           go_simp
           clear kb_
           have F222 := F221.pt3 (.slice oa1 ((oO b x).length) oc1) (.slice oa2 ((oC b x).length) oc2) (.slice oa3 ((oV b x).length) oc3)
           clear F221
           refine ru_back_late hK (by kernel_rfl) ?_
           exact hZ94.out _ _ _ (by kernel_rfl) (by kernel_rfl) rfl ⟨oa1, oc1, ol1, oh1, oa2, oc2, ol2, oh2, oa3, oc3, ol3, oh3, yg16, (by first | omega | (simp; omega)), (by first | omega | (simp; omega)), (by first | omega | (simp; omega)), (by first | omega | (simp; omega)), (by first | omega | (simp; omega)), (by first | omega | (simp; omega)), (by kernel_rfl), (by kernel_rfl), (by kernel_rfl), (by kernel_rfl), (by kernel_rfl), (by kernel_rfl), (by kernel_rfl), (by first | omega | (simp; done) | (simp; omega)), F222⟩
          intro hZ219
          refine ru_state 175 (fun t w_ => ∃ (oa1 : Option Addr) (oc1 : Nat) (ol1 : Nat) (oh1 : Nat) (oa2 : Option Addr) (oc2 : Nat) (ol2 : Nat) (oh2 : Nat) (oa3 : Option Addr) (oc3 : Nat) (ol3 : Nat) (oh3 : Nat), (oh1 ≤ w_.heap.size) ∧ (w.heap.size ≤ ol1) ∧ (oh2 ≤ w_.heap.size) ∧ (w.heap.size ≤ ol2) ∧ (oh3 ≤ w_.heap.size) ∧ (w.heap.size ≤ ol3) ∧ t 1 = .int .i64 6000 ∧ t 2 = .pointer (some ⟨w.heap.size, 0, none⟩) ∧ t 5 = .int .i64 (b.accs.length : Int) ∧ t 6 = .slice (some ⟨ca57, 0, none⟩) ((spansL b).length) cc58 ∧ t 10 = .slice ta83 T.length tc84 ∧ t 11 = .slice (some ⟨w43.heap.size, 0, none⟩) ((spansL b).length) ((spansL b).length) ∧ t 101 = .agg #[.slice oa1 ((oO b x).length) oc1, .slice oa2 ((oC b x).length) oc2, .slice oa3 ((oV b x).length) oc3] ∧ w82.heap.size ≤ w_.heap.size ∧ Bun w [rsl intEnc 1 ol3 oh3 (.slice oa3 (oV b x).length oc3) (oV b x), rsl intEnc 1 ol2 oh2 (.slice oa2 (oC b x).length oc2) (oC b x), rsl intEnc 1 ol1 oh1 (.slice oa1 (oO b x).length oc1) (oO b x), rtrs T, rown trvEnc 32 3 w.heap.size (.slice ta83 T.length tc84) T, rown intEnc 3 1 w.heap.size (.slice (some ⟨w43.heap.size, 0, none⟩) ((spansL b).length) ((spansL b).length)) x, rown spEnc 40 2 w.heap.size (.slice (some ⟨ca57, 0, none⟩) (spansL b).length cc58) (spansL b), rbox w.heap.size 25 #[.slice aa b.accs.length ak, .slice ma b.mvs.length mk], rsl mvEnc 4 lo hi (.slice ma b.mvs.length mk) b.mvs, rsl accEnc 6 lo hi (.slice aa b.accs.length ak) b.accs] w_) #[true, true, true, true, true, true, true, true, true, true, true, true, true, true, true, true, false, false] 2 ?st223 ?nx223
          case st223 =>
           rintro t w224 ⟨oa1, oc1, ol1, oh1, oa2, oc2, ol2, oh2, oa3, oc3, ol3, oh3, oy1, ow1, oy2, ow2, oy3, ow3, e1, e2, e5, e6, e10, e11, e101, hsz223, F225⟩
           clear F91
           rw [rng_truths_c t, e1, e2, e5, e6, e10, e11, e101]
           clear e1 e2 e5 e6 e10 e11 e101
           have hws223 := F225.gb.size
           refine ru_one 16 rfl (by kernel_rfl) (fun K hK => ?_)
           go_simp
           have F226 := F225.new 32 #[.slice none 0 0, .slice none 0 0, .slice none 0 0] (n := w224.heap.size) (by simp)
           clear F225
           refine ru_back hK (by exact trivial) (fun _ => ?_)
           exact hZ219.out _ _ _ (by kernel_rfl) (by kernel_rfl) rfl ⟨oa1, oc1, ol1, oh1, oa2, oc2, ol2, oh2, oa3, oc3, ol3, oh3, w224.heap.size, (by first | omega | (simp; omega)), (by first | omega | (simp; omega)), (by first | omega | (simp; omega)), (by first | omega | (simp; omega)), (by first | omega | (simp; omega)), (by first | omega | (simp; omega)), (by kernel_rfl), (by kernel_rfl), (by kernel_rfl), (by kernel_rfl), (by kernel_rfl), (by kernel_rfl), (by kernel_rfl), (by kernel_rfl), (by first | omega | (simp; done) | (simp; omega)), F226⟩
          intro hZ223
          refine ru_state 175 (fun t w_ => ∃ (oa1 : Option Addr) (oc1 : Nat) (ol1 : Nat) (oh1 : Nat) (oa2 : Option Addr) (oc2 : Nat) (ol2 : Nat) (oh2 : Nat) (yg16 : Nat), (oh1 ≤ w_.heap.size) ∧ (w.heap.size ≤ ol1) ∧ (oh2 ≤ w_.heap.size) ∧ (w.heap.size ≤ ol2) ∧ t 1 = .int .i64 6000 ∧ t 2 = .pointer (some ⟨w.heap.size, 0, none⟩) ∧ t 5 = .int .i64 (b.accs.length : Int) ∧ t 6 = .slice (some ⟨ca57, 0, none⟩) ((spansL b).length) cc58 ∧ t 10 = .slice ta83 T.length tc84 ∧ t 11 = .slice (some ⟨w43.heap.size, 0, none⟩) ((spansL b).length) ((spansL b).length) ∧ t 13 = .pointer (some ⟨yg16, 0, none⟩) ∧ t 89 = .slice oa1 ((oO b x).length) oc1 ∧ t 95 = .slice oa2 ((oC b x).length) oc2 ∧ t 99 = .slice s3 b.mvs.length c3 ∧ w82.heap.size ≤ w_.heap.size ∧ Bun w [rbox yg16 32 #[.slice none 0 0, .slice none 0 0, .slice none 0 0], rsl intEnc 1 ol2 oh2 (.slice oa2 (oC b x).length oc2) (oC b x), rsl intEnc 1 ol1 oh1 (.slice oa1 (oO b x).length oc1) (oO b x), rtrs T, rown trvEnc 32 3 w.heap.size (.slice ta83 T.length tc84) T, rown intEnc 3 1 w.heap.size (.slice (some ⟨w43.heap.size, 0, none⟩) ((spansL b).length) ((spansL b).length)) x, rown spEnc 40 2 w.heap.size (.slice (some ⟨ca57, 0, none⟩) (spansL b).length cc58) (spansL b), rbox w.heap.size 25 #[.slice aa b.accs.length ak, .slice ma b.mvs.length mk], rsl mvEnc 4 lo hi (.slice ma b.mvs.length mk) b.mvs, rsl accEnc 6 lo hi (.slice aa b.accs.length ak) b.accs] w_) #[true, true, true, true, true, true, true, true, true, true, true, true, true, true, false, false, true, false] 3 ?st227 ?nx227
          case st227 =>
           rintro t w228 ⟨oa1, oc1, ol1, oh1, oa2, oc2, ol2, oh2, yg16, oy1, ow1, oy2, ow2, e1, e2, e5, e6, e10, e11, e13, e89, e95, e99, hsz227, F229⟩
           clear F91
           rw [rng_truths_c t, e1, e2, e5, e6, e10, e11, e13, e89, e95, e99]
           clear e1 e2 e5 e6 e10 e11 e13 e89 e95 e99
           have hws227 := F229.gb.size
           have yg16l := F229.ltAt 0 rfl yg16 rfl
           have yg16b := yg16l.2 rfl
           refine ru_one 14 rfl (by kernel_rfl) (fun K hK => ?_)
           go_simp
           refine (own_t3 _ _ _ (oV b x) _ (HSL.out _ _ _ (Own.slG (F229.at 5 rfl : Own intEnc 3 1 w.heap.size _ (.slice (some ⟨w43.heap.size, 0, none⟩) ((spansL b).length) ((spansL b).length)) x) (fun _ => rfl))).2.2 (by omega)).mono ?_
           rintro e w232 ⟨oa3, oc3, ol3, oh3, rfl, ⟨ox3, oy3⟩, oz3, hg230⟩
           have hg230s := hg230.size
           (try simp at hg230s)
           have F233 := F229.add (rsl intEnc 1 ol3 oh3 (.slice oa3 (oV b x).length oc3) (oV b x)) hg230 (oz3) (fun g e => ⟨Nat.le_trans ox3 e.1, Nat.lt_of_lt_of_le e.2 oy3⟩)
           clear F229
           refine ru_back hK (by exact trivial) (fun hHeld => ?_)
           clear hK K
           (try simp only [Act.put, List.setIfInBounds_toArray, List.set_cons_zero, List.set_cons_succ])
           refine ru_p 15 ?_
           (try simp only [Act.put, List.setIfInBounds_toArray, List.set_cons_zero, List.set_cons_succ])
           exact hZ219.out _ _ _ (by kernel_rfl) (by kernel_rfl) rfl ⟨oa1, oc1, ol1, oh1, oa2, oc2, ol2, oh2, oa3, oc3, ol3, oh3, yg16, (by first | omega | (simp; omega)), (by first | omega | (simp; omega)), (by first | omega | (simp; omega)), (by first | omega | (simp; omega)), (by first | omega | (simp; omega)), (by first | omega | (simp; omega)), (by kernel_rfl), (by kernel_rfl), (by kernel_rfl), (by kernel_rfl), (by kernel_rfl), (by kernel_rfl), (by kernel_rfl), (by kernel_rfl), (by first | omega | (simp; done) | (simp; omega)), (F233.pick [1, 0, 2, 3, 4, 5, 6, 7, 8, 9, 10] (by decide) rfl)⟩
          intro hZ227
          refine ru_state 175 (fun t w_ => ∃ (oa1 : Option Addr) (oc1 : Nat) (ol1 : Nat) (oh1 : Nat) (oa2 : Option Addr) (oc2 : Nat) (ol2 : Nat) (oh2 : Nat), (oh1 ≤ w_.heap.size) ∧ (w.heap.size ≤ ol1) ∧ (oh2 ≤ w_.heap.size) ∧ (w.heap.size ≤ ol2) ∧ t 1 = .int .i64 6000 ∧ t 2 = .pointer (some ⟨w.heap.size, 0, none⟩) ∧ t 5 = .int .i64 (b.accs.length : Int) ∧ t 6 = .slice (some ⟨ca57, 0, none⟩) ((spansL b).length) cc58 ∧ t 10 = .slice ta83 T.length tc84 ∧ t 11 = .slice (some ⟨w43.heap.size, 0, none⟩) ((spansL b).length) ((spansL b).length) ∧ t 89 = .slice oa1 ((oO b x).length) oc1 ∧ t 95 = .slice oa2 ((oC b x).length) oc2 ∧ t 99 = .slice s3 b.mvs.length c3 ∧ w82.heap.size ≤ w_.heap.size ∧ Bun w [rsl intEnc 1 ol2 oh2 (.slice oa2 (oC b x).length oc2) (oC b x), rsl intEnc 1 ol1 oh1 (.slice oa1 (oO b x).length oc1) (oO b x), rtrs T, rown trvEnc 32 3 w.heap.size (.slice ta83 T.length tc84) T, rown intEnc 3 1 w.heap.size (.slice (some ⟨w43.heap.size, 0, none⟩) ((spansL b).length) ((spansL b).length)) x, rown spEnc 40 2 w.heap.size (.slice (some ⟨ca57, 0, none⟩) (spansL b).length cc58) (spansL b), rbox w.heap.size 25 #[.slice aa b.accs.length ak, .slice ma b.mvs.length mk], rsl mvEnc 4 lo hi (.slice ma b.mvs.length mk) b.mvs, rsl accEnc 6 lo hi (.slice aa b.accs.length ak) b.accs] w_) #[true, true, true, true, true, true, true, true, true, true, true, true, true, true, false, false, false, false] 4 ?st234 ?nx234
          case st234 =>
           rintro t w235 ⟨oa1, oc1, ol1, oh1, oa2, oc2, ol2, oh2, oy1, ow1, oy2, ow2, e1, e2, e5, e6, e10, e11, e89, e95, e99, hsz234, F236⟩
           clear F91
           rw [rng_truths_c t, e1, e2, e5, e6, e10, e11, e89, e95, e99]
           clear e1 e2 e5 e6 e10 e11 e89 e95 e99
           have hws234 := F236.gb.size
           refine ru_two 14 16 rfl rfl (by kernel_rfl) ?_ ?_
           ·
            intro K hK
            go_simp
            refine (own_t3 _ _ _ (oV b x) _ (HSL.out _ _ _ (Own.slG (F236.at 4 rfl : Own intEnc 3 1 w.heap.size _ (.slice (some ⟨w43.heap.size, 0, none⟩) ((spansL b).length) ((spansL b).length)) x) (fun _ => rfl))).2.2 (by omega)).mono ?_
            rintro e w239 ⟨oa3, oc3, ol3, oh3, rfl, ⟨ox3, oy3⟩, oz3, hg237⟩
            have hg237s := hg237.size
            (try simp at hg237s)
            have F240 := F236.add (rsl intEnc 1 ol3 oh3 (.slice oa3 (oV b x).length oc3) (oV b x)) hg237 (oz3) (fun g e => ⟨Nat.le_trans ox3 e.1, Nat.lt_of_lt_of_le e.2 oy3⟩)
            clear F236
            refine ru_back hK (by exact trivial) (fun hHeld => ?_)
            clear hK K
            (try simp only [Act.put, List.setIfInBounds_toArray, List.set_cons_zero, List.set_cons_succ])
            refine ru_p 15 ?_
            (try simp only [Act.put, List.setIfInBounds_toArray, List.set_cons_zero, List.set_cons_succ])
            exact hZ223.out _ _ _ (by kernel_rfl) (by kernel_rfl) rfl ⟨oa1, oc1, ol1, oh1, oa2, oc2, ol2, oh2, oa3, oc3, ol3, oh3, (by first | omega | (simp; omega)), (by first | omega | (simp; omega)), (by first | omega | (simp; omega)), (by first | omega | (simp; omega)), (by first | omega | (simp; omega)), (by first | omega | (simp; omega)), (by kernel_rfl), (by kernel_rfl), (by kernel_rfl), (by kernel_rfl), (by kernel_rfl), (by kernel_rfl), (by kernel_rfl), (by first | omega | (simp; done) | (simp; omega)), F240⟩
           ·
            intro K hK
            go_simp
            have F241 := F236.new 32 #[.slice none 0 0, .slice none 0 0, .slice none 0 0] (n := w235.heap.size) (by simp)
            clear F236
            refine ru_back hK (by exact trivial) (fun _ => ?_)
            exact hZ227.out _ _ _ (by kernel_rfl) (by kernel_rfl) rfl ⟨oa1, oc1, ol1, oh1, oa2, oc2, ol2, oh2, w235.heap.size, (by first | omega | (simp; omega)), (by first | omega | (simp; omega)), (by first | omega | (simp; omega)), (by first | omega | (simp; omega)), (by kernel_rfl), (by kernel_rfl), (by kernel_rfl), (by kernel_rfl), (by kernel_rfl), (by kernel_rfl), (by kernel_rfl), (by kernel_rfl), (by kernel_rfl), (by kernel_rfl), (by first | omega | (simp; done) | (simp; omega)), F241⟩
          intro hZ234
          refine ru_state 175 (fun t w_ => ∃ (oa1 : Option Addr) (oc1 : Nat) (ol1 : Nat) (oh1 : Nat) (yg16 : Nat), (oh1 ≤ w_.heap.size) ∧ (w.heap.size ≤ ol1) ∧ t 1 = .int .i64 6000 ∧ t 2 = .pointer (some ⟨w.heap.size, 0, none⟩) ∧ t 5 = .int .i64 (b.accs.length : Int) ∧ t 6 = .slice (some ⟨ca57, 0, none⟩) ((spansL b).length) cc58 ∧ t 10 = .slice ta83 T.length tc84 ∧ t 11 = .slice (some ⟨w43.heap.size, 0, none⟩) ((spansL b).length) ((spansL b).length) ∧ t 13 = .pointer (some ⟨yg16, 0, none⟩) ∧ t 89 = .slice oa1 ((oO b x).length) oc1 ∧ t 94 = .slice s2 b.accs.length c2 ∧ t 99 = .slice s3 b.mvs.length c3 ∧ w82.heap.size ≤ w_.heap.size ∧ Bun w [rbox yg16 32 #[.slice none 0 0, .slice none 0 0, .slice none 0 0], rsl intEnc 1 ol1 oh1 (.slice oa1 (oO b x).length oc1) (oO b x), rtrs T, rown trvEnc 32 3 w.heap.size (.slice ta83 T.length tc84) T, rown intEnc 3 1 w.heap.size (.slice (some ⟨w43.heap.size, 0, none⟩) ((spansL b).length) ((spansL b).length)) x, rown spEnc 40 2 w.heap.size (.slice (some ⟨ca57, 0, none⟩) (spansL b).length cc58) (spansL b), rbox w.heap.size 25 #[.slice aa b.accs.length ak, .slice ma b.mvs.length mk], rsl mvEnc 4 lo hi (.slice ma b.mvs.length mk) b.mvs, rsl accEnc 6 lo hi (.slice aa b.accs.length ak) b.accs] w_) #[true, true, true, true, true, true, true, true, true, false, true, true, true, true, false, false, true, false] 4 ?st242 ?nx242
          case st242 =>
           rintro t w243 ⟨oa1, oc1, ol1, oh1, yg16, oy1, ow1, e1, e2, e5, e6, e10, e11, e13, e89, e94, e99, hsz242, F244⟩
           clear F91
           rw [rng_truths_c t, e1, e2, e5, e6, e10, e11, e13, e89, e94, e99]
           clear e1 e2 e5 e6 e10 e11 e13 e89 e94 e99
           have hws242 := F244.gb.size
           have yg16l := F244.ltAt 0 rfl yg16 rfl
           have yg16b := yg16l.2 rfl
           refine ru_one 9 rfl (by kernel_rfl) (fun K hK => ?_)
           go_simp
           refine (own_t3 _ _ _ (oC b x) _ (HSL.out _ _ _ (Own.slG (F244.at 4 rfl : Own intEnc 3 1 w.heap.size _ (.slice (some ⟨w43.heap.size, 0, none⟩) ((spansL b).length) ((spansL b).length)) x) (fun _ => rfl))).2.1 (by omega)).mono ?_
           rintro e w247 ⟨oa2, oc2, ol2, oh2, rfl, ⟨ox2, oy2⟩, oz2, hg245⟩
           have hg245s := hg245.size
           (try simp at hg245s)
           have F248 := F244.add (rsl intEnc 1 ol2 oh2 (.slice oa2 (oC b x).length oc2) (oC b x)) hg245 (oz2) (fun g e => ⟨Nat.le_trans ox2 e.1, Nat.lt_of_lt_of_le e.2 oy2⟩)
           clear F244
           refine ru_back hK (by exact trivial) (fun _ => ?_)
           exact hZ227.out _ _ _ (by kernel_rfl) (by kernel_rfl) rfl ⟨oa1, oc1, ol1, oh1, oa2, oc2, ol2, oh2, yg16, (by first | omega | (simp; omega)), (by first | omega | (simp; omega)), (by first | omega | (simp; omega)), (by first | omega | (simp; omega)), (by kernel_rfl), (by kernel_rfl), (by kernel_rfl), (by kernel_rfl), (by kernel_rfl), (by kernel_rfl), (by kernel_rfl), (by kernel_rfl), (by kernel_rfl), (by kernel_rfl), (by first | omega | (simp; done) | (simp; omega)), (F248.pick [1, 0, 2, 3, 4, 5, 6, 7, 8, 9] (by decide) rfl)⟩
          intro hZ242
          refine ru_state 175 (fun t w_ => ∃ (oa1 : Option Addr) (oc1 : Nat) (ol1 : Nat) (oh1 : Nat), (oh1 ≤ w_.heap.size) ∧ (w.heap.size ≤ ol1) ∧ t 1 = .int .i64 6000 ∧ t 2 = .pointer (some ⟨w.heap.size, 0, none⟩) ∧ t 5 = .int .i64 (b.accs.length : Int) ∧ t 6 = .slice (some ⟨ca57, 0, none⟩) ((spansL b).length) cc58 ∧ t 10 = .slice ta83 T.length tc84 ∧ t 11 = .slice (some ⟨w43.heap.size, 0, none⟩) ((spansL b).length) ((spansL b).length) ∧ t 89 = .slice oa1 ((oO b x).length) oc1 ∧ t 94 = .slice s2 b.accs.length c2 ∧ t 99 = .slice s3 b.mvs.length c3 ∧ w82.heap.size ≤ w_.heap.size ∧ Bun w [rsl intEnc 1 ol1 oh1 (.slice oa1 (oO b x).length oc1) (oO b x), rtrs T, rown trvEnc 32 3 w.heap.size (.slice ta83 T.length tc84) T, rown intEnc 3 1 w.heap.size (.slice (some ⟨w43.heap.size, 0, none⟩) ((spansL b).length) ((spansL b).length)) x, rown spEnc 40 2 w.heap.size (.slice (some ⟨ca57, 0, none⟩) (spansL b).length cc58) (spansL b), rbox w.heap.size 25 #[.slice aa b.accs.length ak, .slice ma b.mvs.length mk], rsl mvEnc 4 lo hi (.slice ma b.mvs.length mk) b.mvs, rsl accEnc 6 lo hi (.slice aa b.accs.length ak) b.accs] w_) #[true, true, true, true, true, true, true, true, true, false, true, true, true, true, false, false, false, false] 5 ?st249 ?nx249
          case st249 =>
           rintro t w250 ⟨oa1, oc1, ol1, oh1, oy1, ow1, e1, e2, e5, e6, e10, e11, e89, e94, e99, hsz249, F251⟩
           clear F91
           rw [rng_truths_c t, e1, e2, e5, e6, e10, e11, e89, e94, e99]
           clear e1 e2 e5 e6 e10 e11 e89 e94 e99
           have hws249 := F251.gb.size
           refine ru_two 9 16 rfl rfl (by kernel_rfl) ?_ ?_
           ·
            intro K hK
            go_simp
            refine (own_t3 _ _ _ (oC b x) _ (HSL.out _ _ _ (Own.slG (F251.at 3 rfl : Own intEnc 3 1 w.heap.size _ (.slice (some ⟨w43.heap.size, 0, none⟩) ((spansL b).length) ((spansL b).length)) x) (fun _ => rfl))).2.1 (by omega)).mono ?_
            rintro e w254 ⟨oa2, oc2, ol2, oh2, rfl, ⟨ox2, oy2⟩, oz2, hg252⟩
            have hg252s := hg252.size
            (try simp at hg252s)
            have F255 := F251.add (rsl intEnc 1 ol2 oh2 (.slice oa2 (oC b x).length oc2) (oC b x)) hg252 (oz2) (fun g e => ⟨Nat.le_trans ox2 e.1, Nat.lt_of_lt_of_le e.2 oy2⟩)
            clear F251
            refine ru_back hK (by exact trivial) (fun _ => ?_)
            exact hZ234.out _ _ _ (by kernel_rfl) (by kernel_rfl) rfl ⟨oa1, oc1, ol1, oh1, oa2, oc2, ol2, oh2, (by first | omega | (simp; omega)), (by first | omega | (simp; omega)), (by first | omega | (simp; omega)), (by first | omega | (simp; omega)), (by kernel_rfl), (by kernel_rfl), (by kernel_rfl), (by kernel_rfl), (by kernel_rfl), (by kernel_rfl), (by kernel_rfl), (by kernel_rfl), (by kernel_rfl), (by first | omega | (simp; done) | (simp; omega)), F255⟩
           ·
            intro K hK
            go_simp
            have F256 := F251.new 32 #[.slice none 0 0, .slice none 0 0, .slice none 0 0] (n := w250.heap.size) (by simp)
            clear F251
            refine ru_back hK (by exact trivial) (fun _ => ?_)
            exact hZ242.out _ _ _ (by kernel_rfl) (by kernel_rfl) rfl ⟨oa1, oc1, ol1, oh1, w250.heap.size, (by first | omega | (simp; omega)), (by first | omega | (simp; omega)), (by kernel_rfl), (by kernel_rfl), (by kernel_rfl), (by kernel_rfl), (by kernel_rfl), (by kernel_rfl), (by kernel_rfl), (by kernel_rfl), (by kernel_rfl), (by kernel_rfl), (by first | omega | (simp; done) | (simp; omega)), F256⟩
          intro hZ249
          refine ru_state 175 (fun t w_ => ∃ (yg16 : Nat), t 1 = .int .i64 6000 ∧ t 2 = .pointer (some ⟨w.heap.size, 0, none⟩) ∧ t 5 = .int .i64 (b.accs.length : Int) ∧ t 6 = .slice (some ⟨ca57, 0, none⟩) ((spansL b).length) cc58 ∧ t 10 = .slice ta83 T.length tc84 ∧ t 11 = .slice (some ⟨w43.heap.size, 0, none⟩) ((spansL b).length) ((spansL b).length) ∧ t 13 = .pointer (some ⟨yg16, 0, none⟩) ∧ t 88 = .slice (some ⟨w43.heap.size, 0, none⟩) b.accs.length ((spansL b).length) ∧ t 94 = .slice s2 b.accs.length c2 ∧ t 99 = .slice s3 b.mvs.length c3 ∧ w82.heap.size ≤ w_.heap.size ∧ Bun w [rbox yg16 32 #[.slice none 0 0, .slice none 0 0, .slice none 0 0], rtrs T, rown trvEnc 32 3 w.heap.size (.slice ta83 T.length tc84) T, rown intEnc 3 1 w.heap.size (.slice (some ⟨w43.heap.size, 0, none⟩) ((spansL b).length) ((spansL b).length)) x, rown spEnc 40 2 w.heap.size (.slice (some ⟨ca57, 0, none⟩) (spansL b).length cc58) (spansL b), rbox w.heap.size 25 #[.slice aa b.accs.length ak, .slice ma b.mvs.length mk], rsl mvEnc 4 lo hi (.slice ma b.mvs.length mk) b.mvs, rsl accEnc 6 lo hi (.slice aa b.accs.length ak) b.accs] w_) #[true, true, true, false, true, true, true, true, true, false, true, true, true, true, false, false, true, false] 5 ?st257 ?nx257
          case st257 =>
           rintro t w258 ⟨yg16, e1, e2, e5, e6, e10, e11, e13, e88, e94, e99, hsz257, F259⟩
           clear F91
           rw [rng_truths_c t, e1, e2, e5, e6, e10, e11, e13, e88, e94, e99]
           clear e1 e2 e5 e6 e10 e11 e13 e88 e94 e99
           have hws257 := F259.gb.size
           have yg16l := F259.ltAt 0 rfl yg16 rfl
           have yg16b := yg16l.2 rfl
           refine ru_one 3 rfl (by kernel_rfl) (fun K hK => ?_)
           go_simp
           refine (own_t3 _ _ _ (oO b x) _ (HSL.out _ _ _ (Own.slG (F259.at 3 rfl : Own intEnc 3 1 w.heap.size _ (.slice (some ⟨w43.heap.size, 0, none⟩) ((spansL b).length) ((spansL b).length)) x) (fun _ => rfl))).1 (by omega)).mono ?_
           rintro e w262 ⟨oa1, oc1, ol1, oh1, rfl, ⟨ox1, oy1⟩, oz1, hg260⟩
           have hg260s := hg260.size
           (try simp at hg260s)
           have F263 := F259.add (rsl intEnc 1 ol1 oh1 (.slice oa1 (oO b x).length oc1) (oO b x)) hg260 (oz1) (fun g e => ⟨Nat.le_trans ox1 e.1, Nat.lt_of_lt_of_le e.2 oy1⟩)
           clear F259
           refine ru_back hK (by exact trivial) (fun _ => ?_)
           exact hZ242.out _ _ _ (by kernel_rfl) (by kernel_rfl) rfl ⟨oa1, oc1, ol1, oh1, yg16, (by first | omega | (simp; omega)), (by first | omega | (simp; omega)), (by kernel_rfl), (by kernel_rfl), (by kernel_rfl), (by kernel_rfl), (by kernel_rfl), (by kernel_rfl), (by kernel_rfl), (by kernel_rfl), (by kernel_rfl), (by kernel_rfl), (by first | omega | (simp; done) | (simp; omega)), (F263.pick [1, 0, 2, 3, 4, 5, 6, 7, 8] (by decide) rfl)⟩
          intro hZ257
          refine ru_two 3 16 rfl rfl (by kernel_rfl) ?_ ?_
          ·
           intro K hK
           go_simp
           refine (own_t3 _ _ _ (oO b x) _ (HSL.out _ _ _ (Own.slG (F91.at 2 rfl : Own intEnc 3 1 w.heap.size _ (.slice (some ⟨w43.heap.size, 0, none⟩) ((spansL b).length) ((spansL b).length)) x) (fun _ => rfl))).1 (by omega)).mono ?_
           rintro e w266 ⟨oa1, oc1, ol1, oh1, rfl, ⟨ox1, oy1⟩, oz1, hg264⟩
           have hg264s := hg264.size
           (try simp at hg264s)
           have F267 := F91.add (rsl intEnc 1 ol1 oh1 (.slice oa1 (oO b x).length oc1) (oO b x)) hg264 (oz1) (fun g e => ⟨Nat.le_trans ox1 e.1, Nat.lt_of_lt_of_le e.2 oy1⟩)
           clear F91
           refine ru_back hK (by exact trivial) (fun _ => ?_)
           exact hZ249.out _ _ _ (by kernel_rfl) (by kernel_rfl) rfl ⟨oa1, oc1, ol1, oh1, (by first | omega | (simp; omega)), (by first | omega | (simp; omega)), (by kernel_rfl), (by kernel_rfl), (by kernel_rfl), (by kernel_rfl), (by kernel_rfl), (by kernel_rfl), (by kernel_rfl), (by kernel_rfl), (by kernel_rfl), (by first | omega | (simp; done) | (simp; omega)), F267⟩
          ·
           intro K hK
           go_simp
           have F268 := F91.new 32 #[.slice none 0 0, .slice none 0 0, .slice none 0 0] (n := wd93.heap.size) (by simp)
           clear F91
           refine ru_back hK (by exact trivial) (fun _ => ?_)
           exact hZ257.out _ _ _ (by kernel_rfl) (by kernel_rfl) rfl ⟨wd93.heap.size, (by kernel_rfl), (by kernel_rfl), (by kernel_rfl), (by kernel_rfl), (by kernel_rfl), (by kernel_rfl), (by kernel_rfl), (by kernel_rfl), (by kernel_rfl), (by kernel_rfl), (by first | omega | (simp; done) | (simp; omega)), F268⟩
         case atStart5 =>
          rw [HI79.out]
          exact ⟨0, loC (spansL b), [], .slice none 0 0, (by kernel_rfl), (by kernel_rfl), (by kernel_rfl), (by kernel_rfl), rfl, (by kernel_rfl), Lib.hid ⟨Hlo.out, rank_lo _⟩, Lib.hid (TruS.zero b), Lib.hid (fun t h => by cases h), rfl, (by first | exact Nat.le_refl _ | omega | (simp; done) | (simp; omega)), F78⟩
       case atStart4 =>
        rw [HI64.out]
        exact ⟨0, (by kernel_rfl), (by kernel_rfl), (by kernel_rfl), (by kernel_rfl), (by kernel_rfl), (by kernel_rfl), rfl, Nat.zero_le _, rfl, (by first | exact Nat.le_refl _ | omega | (simp; done) | (simp; omega)), F63⟩
     case atStart3 =>
      rw [HI40.out]
      exact ⟨0, _, (by kernel_rfl), (by kernel_rfl), (by kernel_rfl), rfl, rfl, Nat.zero_le _, rfl, (by first | exact Nat.le_refl _ | omega | (simp; done) | (simp; omega)), hF24⟩
   case atStart2 =>
    rw [HI23.out]
    exact ⟨0, _, (by kernel_rfl), (by kernel_rfl), (by kernel_rfl), rfl, rfl, Nat.zero_le _, rfl, (by first | exact Nat.le_refl _ | omega | (simp; done) | (simp; omega)), hF7⟩
 case atStart1 =>
  rw [HI6.out]
  exact ⟨0, _, (by kernel_rfl), (by kernel_rfl), (by kernel_rfl), rfl, rfl, Nat.zero_le _, rfl, (by first | exact Nat.le_refl _ | omega | (simp; done) | (simp; omega)), F5⟩


end Go.Proofs.Ytfifldbinnkdmaa
