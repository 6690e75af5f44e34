/- fuel: FuelTruth walked. -/
import Derived.Test.YtfifldbinnkdmaaRefi
import Derived.Test.YtfifldbinnkdmaaLos
import Derived.Test.YtfifldbinnkdmaaKP
import Derived.Test.YtfifldbinnkdmaaBookOf
import Derived.Test.YtfifldbinnkdmaaBal1
import Derived.Test.YtfifldbinnkdmaaWake
import Derived.Test.YtfifldbinnkdmaaMiss
import Derived.Test.YtfifldbinnkdmaaKit1
import Derived.Test.YtfifldbinnkdmaaKit2
import Derived.Test.YtfifldbinnkdmaaK1
import Derived.Test.YtfifldbinnkdmaaNewS
set_option linter.unusedVariables false
set_option linter.unusedSimpArgs false
set_option linter.unnecessarySimpa false
namespace Go.Proofs.Ytfifldbinnkdmaa
open Go.RowKit Go.Shelf
set_option maxRecDepth 100000

theorem bt_names' {accounts moves : Nat} {L W : Int} {b : Bok} {O C V : List Int} (h : BookTruth accounts moves L W b O C V) (h8 : accounts ≤ 8) : nameOk b.accs := by
  have key : ∀ k, k < 8 → (nmAt k).size ≤ maxLen := by decide +kernel
  intro a ha
  obtain ⟨i, hi, rfl⟩ := List.getElem_of_mem ha
  have h1 := (h.acc i hi).name
  rw [ga_get hi] at h1
  rw [h1]
  exact key i (by have := h.n8; omega)
theorem verdL_len (b : Bok) : (verdL b).length = b.accs.length := by simp [verdL, lossL]
theorem lossL_at' {b : Bok} {i : Nat} (h : i < b.accs.length) : (lossL b)[i]? = some (lossA b i) := by simp [lossL, h]
theorem verdL_at {b : Bok} {i : Nat} (h : i < b.accs.length) : (verdL b)[i]? = some (verd (lossA b i)) := by simp [verdL, lossL, h]
theorem verd_bd (s : Sp) : 1 ≤ verd s ∧ verd s ≤ 3 := by unfold verd; split <;> (try split) <;> omega
def LossS (l : List Sp) (t : Sp) (w : World) : Ending → World → Prop := fun e w' => ∃ (a : Option Addr) (c lo hi : Nat), e = .returned (.tuple #[.slice a l.length c, .agg #[.int .i64 t.lo, .int .i64 t.hi], .int .i64 0]) ∧ (w.heap.size ≤ lo ∧ hi ≤ w'.heap.size) ∧ Sl spEnc 2 lo hi w' (.slice a l.length c) l ∧ w.grownBy w' none
theorem losses_ok (l1 h1 l2 h2 : Nat) (va vm : Value) (b : Bok) (w : World) (ha : Accs l1 h1 w va b.accs) (hm : Mvs l2 h2 w vm b.mvs) (hn : nameOk b.accs) (b1 : h1 ≤ w.heap.size) (b2 : h2 ≤ w.heap.size) (h0 : checkE b = 0) (l : List Sp) (t : Sp) (hl : lossL b = l) (ht : lossT b = t) :
    Calls Try.prog 20 #[.agg #[va, vm]] w (LossS l t w) := by
  subst hl ht
  refine (fLosses_c l1 h1 l2 h2 va vm b w ha hm hn b1 b2).mono ?_
  rintro e w' (⟨h, _⟩ | ⟨_, v, rfl, ho, hg⟩)
  · exact absurd h0 h
  · obtain ⟨a, c, rfl⟩ := (ho.sl (fun _ => rfl)).any
    exact ⟨a, c, _, _, rfl, ⟨Nat.le_refl _, Nat.le_refl _⟩, ho.sl (fun _ => rfl), hg⟩
def SlInts' (l : List Int) (w : World) : Ending → World → Prop := fun e w' => ∃ (a : Option Addr) (c lo hi : Nat), e = .returned (.slice a l.length c) ∧ (w.heap.size ≤ lo ∧ hi ≤ w'.heap.size) ∧ Sl intEnc 1 lo hi w' (.slice a l.length c) l ∧ w.grownBy w' none
section
variable (l1 h1 l2 h2 : Nat) (va vm : Value) (b : Bok) (w : World) (ha : Accs l1 h1 w va b.accs) (hm : Mvs l2 h2 w vm b.mvs) (b1 : h1 ≤ w.heap.size) (b2 : h2 ≤ w.heap.size)
include ha hm b1 b2
variable (hn : nameOk b.accs) (o1 o2 o3 o4 o5 o6 : Nat) (vo vc vv : Value) (O C V LL : List Int) (ho : Ints o1 o2 w vo O) (q1 : o2 ≤ w.heap.size) (hc : Ints o3 o4 w vc C) (q2 : o4 ≤ w.heap.size) (hv : Ints o5 o6 w vv V) (q3 : o6 ≤ w.heap.size)
include hn ho q1 hc q2 hv q3
theorem balance_z (h0 : balE b O C V = 0) (hLL : lsM b O C V b.mvs.length = LL) : Calls Try.prog 42 #[.agg #[va, vm], .agg #[vo, vc, vv]] w
    (fun e w' => ∃ (a : Option Addr) (c lo hi : Nat), e = .returned (.tuple #[.slice a LL.length c, .int .i64 0]) ∧ (w.heap.size ≤ lo ∧ hi ≤ w'.heap.size) ∧ Sl intEnc 1 lo hi w' (.slice a LL.length c) LL ∧ w.grownBy w' none) := by
  refine (balance_c 0 w.heap.size va vm b o1 o2 o3 o4 o5 o6 vo vc vv O C V w ⟨Sl.wide ha (Nat.zero_le _) b1, Sl.wide hm (Nat.zero_le _) b2⟩ hn (Nat.le_refl _) ho q1 hc q2 hv q3).mono ?_
  rintro e w' ⟨v, rfl, hs, hg⟩
  rw [balL_ok h0, hLL] at hs
  obtain ⟨a, c, rfl⟩ := hs.any
  exact ⟨a, c, _, _, by rw [h0], ⟨Nat.le_refl _, Nat.le_refl _⟩, hs, hg⟩
theorem losing_z (hok : BokOk b) (hl : O.length = b.accs.length ∧ C.length = b.accs.length ∧ V.length = b.mvs.length) (ht : TruthIn b O C V) (hLL : lsM b O C V b.mvs.length = LL) : Calls Try.prog 63 #[.agg #[va, vm], .agg #[vo, vc, vv]] w (SlInts' LL w) := by
  refine (losing_c 0 w.heap.size va vm b o1 o2 o3 o4 o5 o6 vo vc vv O C V w ⟨Sl.wide ha (Nat.zero_le _) b1, Sl.wide hm (Nat.zero_le _) b2⟩ hn (Nat.le_refl _) ho q1 hc q2 hv q3 hok hl ht.acc ht.mv).mono ?_
  rintro e w' ⟨a, c, lo, hi, rfl, h1, h2, h3⟩
  have hlen : LL.length = b.accs.length := by rw [← hLL, lsM_len]
  rw [hLL] at h2
  exact ⟨a, c, lo, hi, by rw [hlen], h1, by rw [hlen]; exact h2, h3⟩
end
theorem ref_names {b : Bok} (hn : nameOk b.accs) : nameOk (refB b).accs := by
  intro a ha
  obtain ⟨i, hi, rfl⟩ := List.getElem_of_mem ha
  have hb : i < b.accs.length := by rw [← refAL_len b (2 * b.accs.length + b.mvs.length)]; exact hi
  have h1 := ga_ref hb
  rw [ga_get hi] at h1
  rw [h1]
  exact hn.at hb
theorem inside_r (l1 h1 l2 h2 : Nat) (va vm : Value) (b : Bok) (w : World) (ha : Accs l1 h1 w va (refB b).accs) (hm : Mvs l2 h2 w vm (refB b).mvs) (b1 : h1 ≤ w.heap.size) (b2 : h2 ≤ w.heap.size) (hn : nameOk b.accs)
    (o1 o2 o3 o4 o5 o6 : Nat) (vo vc vv : Value) (O C V : List Int) (ho : Ints o1 o2 w vo O) (q1 : o2 ≤ w.heap.size) (hc : Ints o3 o4 w vc C) (q2 : o4 ≤ w.heap.size) (hv : Ints o5 o6 w vv V) (q3 : o6 ≤ w.heap.size)
    (hl : O.length = b.accs.length ∧ C.length = b.accs.length ∧ V.length = b.mvs.length) (ht : TruthIn b O C V) : Calls Try.prog 65 #[.agg #[va, vm], .agg #[vo, vc, vv]] w (Ret (.bool true) w) := by
  have e1 : (refB b).accs.length = b.accs.length := refAL_len _ _
  have e2 : (refB b).mvs.length = b.mvs.length := refML_len _ _
  exact insideT_c 0 w.heap.size va vm (refB b) o1 o2 o3 o4 o5 o6 vo vc vv O C V w ⟨Sl.wide ha (Nat.zero_le _) b1, Sl.wide hm (Nat.zero_le _) b2⟩ (ref_names hn) (Nat.le_refl _) ho q1 hc q2 hv q3 (by rw [e1, e2]; exact hl) (fun q hq => ref_truA ht (by rw [e1] at hq; exact hq)) (fun q hq => ref_truM ht (by rw [e2] at hq; exact hq))
theorem sum_z (lo hi : Nat) (v : Value) (l : List Int) (w : World) (hl : Ints lo hi w v l) (h2 : hi ≤ w.heap.size) (hbd : ∀ k, k < l.length → 0 ≤ gi l k ∧ gi l k ≤ 10000000000) (hc : l.length ≤ 100) (s : Int) (hs : sumN (fun k => gi l k) l.length = s) :
    Calls Try.prog 64 #[v] w (Ret (.int .i64 s) w) := by
  subst hs
  exact sum_c lo hi v l w hl h2 (fun k hk => by have := hbd k hk; omega) hc
theorem tru_bdO {b : Bok} {O C V : List Int} (hok : BokOk b) (h : TruthIn b O C V) (hl : O.length = b.accs.length) : ∀ k, k < O.length → 0 ≤ gi O k ∧ gi O k ≤ 10000000000 := fun k hk => by
  have h1 := (h.acc k (by omega)).1
  have h2 := (hok.acc k (by omega)).op
  omega
theorem tru_bdC {b : Bok} {O C V : List Int} (hok : BokOk b) (h : TruthIn b O C V) (hl : C.length = b.accs.length) : ∀ k, k < C.length → 0 ≤ gi C k ∧ gi C k ≤ 10000000000 := fun k hk => by
  have h1 := (h.acc k (by omega)).2
  have h2 := (hok.acc k (by omega)).cl
  omega
theorem same_t' (lo hi lo' hi' : Nat) (v v' : Value) (l : List Int) (w : World) (hx : Ints lo hi w v l) (hy : Ints lo' hi' w v' l) : Calls Try.prog 25 #[v, v'] w (Ret (.bool true) w) := by
  have h := same_c lo hi lo' hi' v v' l l w hx hy
  rw [sameB_self] at h
  exact h
set_option maxHeartbeats 16000000 in
theorem truth_walk (vn : Value) (zs : List Int) (w : World) (hz : Ints 0 w.heap.size w vn zs) :
    Calls Try.prog 13 #[vn] w (Ret (.bool true) w) := by
  have F1 : Bun w [] w := Bun.nil _
  obtain ⟨na, nc, rfl⟩ := hz.any
  have hm_nums := hz.len
  unfold maxLen at hm_nums
  have F2 := F1.sl0 hz (Nat.le_refl _) rfl
  clear F1
  clear hz
  go_enter Try.func13, Try.ntmps13
  go_wp2_with fail
  refine (newSeed_c 0 w.heap.size _ zs _ (F2.at 0 rfl : Sl intEnc 1 0 w.heap.size _ (.slice na zs.length nc) zs)).mono ?_
  rintro e w5 ⟨sb, rfl, hsb, hsbs, hg3⟩
  have hsbl := hsbs.lt
  have hg3s := hg3.size
  (try simp at hg3s)
  have F6 := F2.add (rseed sb) hg3 (hsbs) (fun g e => by cases e; exact ⟨hsb, hsbs.lt⟩)
  clear F2
  clear hg3
  go_wp2_with fail
  have F9 := F6.new 3 #[.int .i64 20, .int .i64 1000, .int .i64 1000000] (n := w5.heap.size) (by simp)
  clear F6
  refine (of3_c sb _ w5.heap.size 3 20 1000 1000000 (F9.at 1 rfl : SeedAt _ sb) (by omega) (F9.cl 0 0 rfl rfl) (F9.cl 0 1 rfl rfl) (F9.cl 0 2 rfl rfl)).mono ?_
  rintro e w12 ⟨r7, rfl, hr8, hs11, hg10⟩
  have hg10s := hg10.size
  (try simp at hg10s)
  have F13 := F9.seedAt 1 rfl hg10 hs11
  clear F9
  clear hg10
  go_wp2_with fail
  have F16 := F13.new 3 #[.int .i64 0, .int .i64 3, .int .i64 50] (n := w12.heap.size) (by simp)
  clear F13
  refine (of3_c sb _ w12.heap.size 3 0 3 50 (F16.at 2 rfl : SeedAt _ sb) (by omega) (F16.cl 0 0 rfl rfl) (F16.cl 0 1 rfl rfl) (F16.cl 0 2 rfl rfl)).mono ?_
  rintro e w19 ⟨r14, rfl, hr15, hs18, hg17⟩
  have hg17s := hg17.size
  (try simp at hg17s)
  have F20 := F16.seedAt 2 rfl hg17 hs18
  clear F16
  clear hg17
  go_wp2_with fail
  refine (bookOf_b sb 8 10 r7 r14 _ ((F20.front 2 rfl rfl).at 0 rfl : SeedAt _ sb) (by omega) (by omega) (by omega) (by omega)).mono ?_
  rintro e w22 ⟨va_, vm_, bb, vo_, vc_, vv_, OO, CC, VV, rfl, hT, hB23⟩
  have hB23s := hB23.gb.size
  (try simp at hB23s)
  have F24 := (F20.front 2 rfl rfl).join (L2 := [rown accEnc 79 6 w19.heap.size va_ bb.accs, rown mvEnc 76 4 w19.heap.size vm_ bb.mvs, rown intEnc 3 1 w19.heap.size vo_ OO, rown intEnc 3 1 w19.heap.size vc_ CC, rown intEnc 3 1 w19.heap.size vv_ VV]) hB23 rfl
  clear F20
  clear hB23
  (try dsimp only [List.cons_append, List.nil_append] at F24)
  have HNB := Lib.hid (bt_names' hT (by omega))
  have hb8 := hT.n8
  have hb1 := hT.n0
  have hb10 := hT.m
  have hol := hT.olen
  have hcl := hT.clen
  have hvl := hT.vlen
  have hll : ((OO.length ≤ bb.accs.length ∧ bb.accs.length ≤ OO.length) ∧ CC.length ≤ bb.accs.length ∧ bb.accs.length ≤ CC.length) ∧ VV.length ≤ bb.mvs.length ∧ bb.mvs.length ≤ VV.length := by omega
  have HTB := Lib.hid hT
  clear hT hol hcl hvl
  obtain ⟨pa25, pc26, e_⟩ := (Own.sl (F24.at 0 rfl : Own accEnc 79 6 w19.heap.size _ va_ bb.accs) (fun _ => rfl)).any
  subst e_
  obtain ⟨pa27, pc28, e_⟩ := (Own.sl (F24.at 1 rfl : Own mvEnc 76 4 w19.heap.size _ vm_ bb.mvs) (fun _ => rfl)).any
  subst e_
  obtain ⟨pa29, pc30, e_⟩ := (Own.sl (F24.at 2 rfl : Own intEnc 3 1 w19.heap.size _ vo_ OO) (fun _ => rfl)).any
  subst e_
  obtain ⟨pa31, pc32, e_⟩ := (Own.sl (F24.at 3 rfl : Own intEnc 3 1 w19.heap.size _ vc_ CC) (fun _ => rfl)).any
  subst e_
  obtain ⟨pa33, pc34, e_⟩ := (Own.sl (F24.at 4 rfl : Own intEnc 3 1 w19.heap.size _ vv_ VV) (fun _ => rfl)).any
  subst e_
  have HBG := Lib.hid (bt_g HTB.out (by omega) (by omega) (by omega) (by omega))
  have HTI := Lib.hid (bt_tru HTB.out)
  have HCB := Lib.hid (HBG.out.check HTI.out)
  have HLB : Hid (OO.length = bb.accs.length ∧ CC.length = bb.accs.length ∧ VV.length = bb.mvs.length) := Lib.hid (by omega)
  have HOK := Lib.hid HBG.out.ok
  obtain ⟨LL, hLL_⟩ : ∃ z_, lsM bb OO CC VV bb.mvs.length = z_ := ⟨_, rfl⟩
  obtain ⟨sO, hsO_⟩ : ∃ z_, sumN (fun k => gi OO k) OO.length = z_ := ⟨_, rfl⟩
  obtain ⟨sC, hsC_⟩ : ∃ z_, sumN (fun k => gi CC k) CC.length = z_ := ⟨_, rfl⟩
  obtain ⟨sL, hsL_⟩ : ∃ z_, sumN (fun k => gi LL k) LL.length = z_ := ⟨_, rfl⟩
  have HTN := Lib.hid (truth_nums HLB.out HOK.out HTI.out hLL_ hsO_ hsC_ hsL_)
  have hlz : LL.length ≤ bb.accs.length ∧ bb.accs.length ≤ LL.length := by have := HTN.out.len; omega
  have hsbz := HTN.out.sb
  have HLL := Lib.hid hLL_
  have HSO := Lib.hid hsO_
  have HSC := Lib.hid hsC_
  have HSL := Lib.hid hsL_
  clear hLL_ hsO_ hsC_ hsL_
  go_wp2_with fail
  have F35 := F24.new 25 #[.slice pa25 bb.accs.length pc26, .slice pa27 bb.mvs.length pc28] (n := w22.heap.size) (by simp)
  clear F24
  have F36 := F35.new 32 #[.slice pa29 OO.length pc30, .slice pa31 CC.length pc32, .slice pa33 VV.length pc34] (n := (w22.heap.size + 1)) (by simp)
  clear F35
  refine (losses_ok _ _ _ _ _ _ bb _ (Own.sl (F36.at 2 rfl : Own accEnc 79 6 w19.heap.size _ (.slice pa25 bb.accs.length pc26) bb.accs) (fun _ => rfl)) (Own.sl (F36.at 3 rfl : Own mvEnc 76 4 w19.heap.size _ (.slice pa27 bb.mvs.length pc28) bb.mvs) (fun _ => rfl)) HNB.out (Nat.le_refl _) (Nat.le_refl _) HCB.out (lossL bb) (lossT bb) rfl rfl).mono ?_
  rintro e w39 ⟨la29, lc29, ll29, lh29, rfl, ⟨lx29, ly29⟩, lz29, hg37⟩
  have hg37s := hg37.size
  (try simp at hg37s)
  have F40 := F36.add (rsl spEnc 2 ll29 lh29 (.slice la29 (lossL bb).length lc29) (lossL bb)) hg37 (lz29) (fun g e => ⟨Nat.le_trans lx29 e.1, Nat.lt_of_lt_of_le e.2 ly29⟩)
  clear F36
  clear hg37
  have b41 := F40.bx2 2 rfl
  go_wp2_with fail
  clear b41
  have F42 := F40.new 40 #[.int .i64 ((lossT bb).lo), .int .i64 ((lossT bb).hi)] (n := w39.heap.size) (by simp)
  clear F40
  refine (fref_c _ _ _ _ _ _ bb _ (Own.sl (F42.at 4 rfl : Own accEnc 79 6 w19.heap.size _ (.slice pa25 bb.accs.length pc26) bb.accs) (fun _ => rfl)) (Own.sl (F42.at 5 rfl : Own mvEnc 76 4 w19.heap.size _ (.slice pa27 bb.mvs.length pc28) bb.mvs) (fun _ => rfl)) (Nat.le_refl _) (Nat.le_refl _) HNB.out HCB.out).mono ?_
  rintro e w45 ⟨fa1, fc1, fa2, fc2, fl_, fh_, rfl, ⟨fx_, fy_⟩, fz_, hg43⟩
  have hg43s := hg43.size
  (try simp at hg43s)
  have F46 := F42.add (rbook fl_ fh_ (.slice fa1 bb.accs.length fc1) (.slice fa2 bb.mvs.length fc2) (refB bb)) hg43 (fz_) (fun g e => ⟨Nat.le_trans fx_ e.1, Nat.lt_of_lt_of_le e.2 fy_⟩)
  clear F42
  clear hg43
  have b47 := F46.bx3 3 rfl
  have b48 := F46.bx2 4 rfl
  go_wp2_with fail
  clear b47 b48
  have F49 := F46.new 25 #[.slice fa1 bb.accs.length fc1, .slice fa2 bb.mvs.length fc2] (n := w45.heap.size) (by simp)
  clear F46
  refine (balance_z _ _ _ _ _ _ bb _ (Own.sl (F49.at 6 rfl : Own accEnc 79 6 w19.heap.size _ (.slice pa25 bb.accs.length pc26) bb.accs) (fun _ => rfl)) (Own.sl (F49.at 7 rfl : Own mvEnc 76 4 w19.heap.size _ (.slice pa27 bb.mvs.length pc28) bb.mvs) (fun _ => rfl)) (Nat.le_refl _) (Nat.le_refl _) HNB.out _ _ _ _ _ _ _ _ _ OO CC VV _ (Own.sl (F49.at 8 rfl : Own intEnc 3 1 w19.heap.size _ (.slice pa29 OO.length pc30) OO) (fun _ => rfl)) (Nat.le_refl _) (Own.sl (F49.at 9 rfl : Own intEnc 3 1 w19.heap.size _ (.slice pa31 CC.length pc32) CC) (fun _ => rfl)) (Nat.le_refl _) (Own.sl (F49.at 10 rfl : Own intEnc 3 1 w19.heap.size _ (.slice pa33 VV.length pc34) VV) (fun _ => rfl)) (Nat.le_refl _) (bal_tru HCB.out HLB.out HOK.out HTI.out) HLL.out).mono ?_
  rintro e w52 ⟨za, zc, zl_, zh_, rfl, ⟨zx_, zy_⟩, zz_, hg50⟩
  have hg50s := hg50.size
  (try simp at hg50s)
  have F53 := F49.add (rsl intEnc 1 zl_ zh_ (.slice za LL.length zc) LL) hg50 (zz_) (fun g e => ⟨Nat.le_trans zx_ e.1, Nat.lt_of_lt_of_le e.2 zy_⟩)
  clear F49
  clear hg50
  have kn54 : ((lossL bb).length : Int) = (bb.accs.length : Int) := (by rw [lossL_len])
  have kn54H := Lib.hid kn54
  have kn54a : (((lossL bb).length : Int) == (bb.accs.length : Int)) = true := beq_t kn54
  have kn54b : (((lossL bb).length : Int) != (bb.accs.length : Int)) = false := bne_f kn54
  clear kn54
  have b55 := F53.bx2 1 rfl
  have b56 := F53.bx2 6 rfl
  go_wp2_with fail
  clear b55 b56
  refine (shaped_t _ _ _ _ _ _ _ _ _ _ _).mono ?_
  rintro e w59 ⟨rfl, hg57⟩
  have hg57s := hg57.size
  (try simp at hg57s)
  have F60 := F53.gn hg57
  clear F53
  clear hg57
  have b61 := F60.bx3 5 rfl
  have b62 := F60.bx2 6 rfl
  go_wp2_with fail
  clear b61 b62
  refine (losing_z _ _ _ _ _ _ bb _ (Own.sl (F60.at 7 rfl : Own accEnc 79 6 w19.heap.size _ (.slice pa25 bb.accs.length pc26) bb.accs) (fun _ => rfl)) (Own.sl (F60.at 8 rfl : Own mvEnc 76 4 w19.heap.size _ (.slice pa27 bb.mvs.length pc28) bb.mvs) (fun _ => rfl)) (Nat.le_refl _) (Nat.le_refl _) HNB.out _ _ _ _ _ _ _ _ _ OO CC VV _ (Own.sl (F60.at 9 rfl : Own intEnc 3 1 w19.heap.size _ (.slice pa29 OO.length pc30) OO) (fun _ => rfl)) (Nat.le_refl _) (Own.sl (F60.at 10 rfl : Own intEnc 3 1 w19.heap.size _ (.slice pa31 CC.length pc32) CC) (fun _ => rfl)) (Nat.le_refl _) (Own.sl (F60.at 11 rfl : Own intEnc 3 1 w19.heap.size _ (.slice pa33 VV.length pc34) VV) (fun _ => rfl)) (Nat.le_refl _) HOK.out HLB.out HTI.out HLL.out).mono ?_
  rintro e w65 ⟨ya, yc, yl_, yh_, rfl, ⟨yx_, yy_⟩, yz_, hg63⟩
  have hg63s := hg63.size
  (try simp at hg63s)
  have F66 := F60.add (rsl intEnc 1 yl_ yh_ (.slice ya LL.length yc) LL) hg63 (yz_) (fun g e => ⟨Nat.le_trans yx_ e.1, Nat.lt_of_lt_of_le e.2 yy_⟩)
  clear F60
  clear hg63
  go_wp2_with fail
  refine (same_t' _ _ _ _ _ _ LL _ (F66.at 1 rfl : Sl intEnc 1 zl_ zh_ _ (.slice za LL.length zc) LL) (F66.at 0 rfl : Sl intEnc 1 yl_ yh_ _ (.slice ya LL.length yc) LL)).mono ?_
  rintro e w69 ⟨rfl, hg67⟩
  have hg67s := hg67.size
  (try simp at hg67s)
  have F70 := F66.gn hg67
  clear F66
  clear hg67
  go_wp2_with fail
  obtain ⟨HI71_, HI710⟩ : ∃ I : (Nat → Value) → List Deferred → World → Prop, I = (fun t ds wr => ∃ (i : Nat), t 5 = .pointer (some ⟨w22.heap.size + 1, 0, none⟩) ∧ t 6 = .slice la29 ((lossL bb).length) lc29 ∧ t 7 = .pointer (some ⟨w39.heap.size, 0, none⟩) ∧ t 9 = .pointer (some ⟨w45.heap.size, 0, none⟩) ∧ t 11 = .slice za LL.length zc ∧ t 13 = .int .i64 (i : Int) ∧ i ≤ (lossL bb).length ∧ ds = [] ∧ w69.heap.size ≤ wr.heap.size ∧ Bun w [rsl intEnc 1 yl_ yh_ (.slice ya LL.length yc) LL, rsl intEnc 1 zl_ zh_ (.slice za LL.length zc) LL, rbox w45.heap.size 25 #[.slice fa1 bb.accs.length fc1, .slice fa2 bb.mvs.length fc2], rbook fl_ fh_ (.slice fa1 bb.accs.length fc1) (.slice fa2 bb.mvs.length fc2) (refB bb), rbox w39.heap.size 40 #[.int .i64 ((lossT bb).lo), .int .i64 ((lossT bb).hi)], rsl spEnc 2 ll29 lh29 (.slice la29 (lossL bb).length lc29) (lossL bb), rbox (w22.heap.size + 1) 32 #[.slice pa29 OO.length pc30, .slice pa31 CC.length pc32, .slice pa33 VV.length pc34], rown accEnc 79 6 w19.heap.size (.slice pa25 bb.accs.length pc26) bb.accs, rown mvEnc 76 4 w19.heap.size (.slice pa27 bb.mvs.length pc28) bb.mvs, rown intEnc 3 1 w19.heap.size (.slice pa29 OO.length pc30) OO, rown intEnc 3 1 w19.heap.size (.slice pa31 CC.length pc32) CC, rown intEnc 3 1 w19.heap.size (.slice pa33 VV.length pc34) VV, rseed sb, rsl intEnc 1 0 w.heap.size (.slice na zs.length nc) zs] wr) := ⟨_, rfl⟩
  have HI71 := Lib.hid HI710
  clear HI710
  refine wp_loopS 116 rfl HI71_ (fun t wr => (lossL bb).length - (intOf (t 13)).toNat) ?atStart1 ?round1
  case round1 =>
    intro t ds wr hHid
    rw [HI71.out] at hHid
    obtain ⟨i, e5, e6, e7, e9, e11, e13, hrel⟩ := hHid
    have e : ((List.range 116).map t).toArray = #[t 0, t 1, t 2, t 3, t 4, t 5, t 6, t 7, t 8, t 9, t 10, t 11, t 12, t 13, t 14, t 15, t 16, t 17, t 18, t 19, t 20, t 21, t 22, t 23, t 24, t 25, t 26, t 27, t 28, t 29, t 30, t 31, t 32, t 33, t 34, t 35, t 36, t 37, t 38, t 39, t 40, t 41, t 42, t 43, t 44, t 45, t 46, t 47, t 48, t 49, t 50, t 51, t 52, t 53, t 54, t 55, t 56, t 57, t 58, t 59, t 60, t 61, t 62, t 63, t 64, t 65, t 66, t 67, t 68, t 69, t 70, t 71, t 72, t 73, t 74, t 75, t 76, t 77, t 78, t 79, t 80, t 81, t 82, t 83, t 84, t 85, t 86, t 87, t 88, t 89, t 90, t 91, t 92, t 93, t 94, t 95, t 96, t 97, t 98, t 99, t 100, t 101, t 102, t 103, t 104, t 105, t 106, t 107, t 108, t 109, t 110, t 111, t 112, t 113, t 114, t 115] := rfl
    (try dsimp only at e)
    rw [e5, e6, e7, e9, e11, e13] at e
    rw [e]
    simp only [e13]
    clear e e5 e6 e7 e9 e11 e13
    obtain ⟨hi0, rfl, hs73, hF72⟩ := hrel
    clear F70
    obtain ⟨w74, rfl⟩ : ∃ x_ : World, x_ = wr := ⟨_, rfl⟩
    by_cases c75 : (i : Int) < ((lossL bb).length : Int)
    · skip
      have c75H := Lib.hid c75
      have hi_b : i < bb.accs.length := by have := lossL_len bb; omega
      have hi_l : i < (lossL bb).length := by omega
      have hi_z : i < LL.length := by omega
      obtain ⟨x76, o77, e_⟩ := Sl.addr (hF72.at 5 rfl : Sl spEnc 2 ll29 lh29 _ (.slice la29 (lossL bb).length lc29) (lossL bb)) (by omega)
      subst e_
      obtain ⟨x78, o79, e_⟩ := Sl.addr (hF72.at 1 rfl : Sl intEnc 1 zl_ zh_ _ (.slice za LL.length zc) LL) (by omega)
      subst e_
      have hz80 : Hid ((lossL bb)[i]? = some (lossA bb i)) := Lib.hid (lossL_at' (by omega))
      have hz81 : Hid (LL[i]? = some (gi LL i)) := Lib.hid (gi_at (by omega))
      go_wp2_with fail
      have F82 := hF72.drew
      clear hF72
      refine ru_begin (fun W => W.cell? ⟨x76, o77 + i * 2, none⟩ = some (.int .i64 (lossA bb i).lo) ∧ W.cell? ⟨x76, o77 + i * 2 + 1, none⟩ = some (.int .i64 (lossA bb i).hi) ∧ W.cell? ⟨x78, o79 + i, none⟩ = some (.int .i64 (gi LL i))) 9 (by kernel_rfl) ?_ ?_
      · exact ⟨(((F82.at 5 rfl : Sl spEnc 2 ll29 lh29 _ (.slice (some ⟨x76, o77, none⟩) (lossL bb).length lc29) (lossL bb))).cells hz80.out 0 _ rfl), (((F82.at 5 rfl : Sl spEnc 2 ll29 lh29 _ (.slice (some ⟨x76, o77, none⟩) (lossL bb).length lc29) (lossL bb))).cells hz80.out 1 _ rfl), (by have h_ := ((F82.at 1 rfl : Sl intEnc 1 zl_ zh_ _ (.slice (some ⟨x78, o79, none⟩) LL.length zc) LL)).cells hz81.out 0 _ rfl; simpa using h_)⟩
      obtain ⟨wd84, hwd_⟩ : ∃ x : World, w74.drew = x := ⟨_, rfl⟩
      rw [hwd_] at F82 ⊢
      have wd84s : w74.heap.size ≤ wd84.heap.size := by rw [← hwd_]; exact Nat.le_refl _
      clear hwd_
      have hS83 := (And.intro ((((F82.at 5 rfl : Sl spEnc 2 ll29 lh29 _ (.slice (some ⟨x76, o77, none⟩) (lossL bb).length lc29) (lossL bb))).cells hz80.out 0 _ rfl)) (And.intro ((((F82.at 5 rfl : Sl spEnc 2 ll29 lh29 _ (.slice (some ⟨x76, o77, none⟩) (lossL bb).length lc29) (lossL bb))).cells hz80.out 1 _ rfl)) ((by have h_ := ((F82.at 1 rfl : Sl intEnc 1 zl_ zh_ _ (.slice (some ⟨x78, o79, none⟩) LL.length zc) LL)).cells hz81.out 0 _ rfl; simpa using h_))))
      refine ru_t 0 [8, 3, 2] ?_
      refine ru_t 1 [8, 3, 2] ?_
      refine ru_t 2 [8, 3] ?_
      refine ru_t 3 [8] ?_
      refine ru_t 4 [8, 7, 6] ?_
      refine ru_t 5 [8, 7, 6] ?_
      refine ru_t 6 [8, 7] ?_
      refine ru_t 7 [8] ?_
      (try simp only [Act.put, List.setIfInBounds_toArray, List.set_cons_zero, List.set_cons_succ])
      clear hS83
      refine ru_one 8 rfl (by kernel_rfl) (fun K hK => ?_)
      go_simp
      refine (has_t _ _ _ _ (HTN.out.los i (by omega))).mono ?_
      rintro e w87 ⟨rfl, hg85⟩
      have hg85s := hg85.size
      (try simp at hg85s)
      have F88 := F82.gn hg85
      clear F82
      refine ru_back hK (by exact ⟨(((F88.at 5 rfl : Sl spEnc 2 ll29 lh29 _ (.slice (some ⟨x76, o77, none⟩) (lossL bb).length lc29) (lossL bb))).cells hz80.out 0 _ rfl), (((F88.at 5 rfl : Sl spEnc 2 ll29 lh29 _ (.slice (some ⟨x76, o77, none⟩) (lossL bb).length lc29) (lossL bb))).cells hz80.out 1 _ rfl), (by have h_ := ((F88.at 1 rfl : Sl intEnc 1 zl_ zh_ _ (.slice (some ⟨x78, o79, none⟩) LL.length zc) LL)).cells hz81.out 0 _ rfl; simpa using h_)⟩) (fun hHeld => ?_)
      clear hK K
      (try simp only [Act.put, List.setIfInBounds_toArray, List.set_cons_zero, List.set_cons_succ])
      refine ru_one 9 rfl (by kernel_rfl) (fun K hK => ?_)
      go_simp
      refine ru_back_late hK (by kernel_rfl) ?_
      clear hK K
      (try simp only [Act.put, List.setIfInBounds_toArray, List.set_cons_zero, List.set_cons_succ])
      refine ru_done (by kernel_rfl) ?_
      have Fn_ := F88
      (try dsimp only [List.eraseIdx_cons_succ, List.eraseIdx_cons_zero] at Fn_)
      obtain ⟨w89, hx90, F92, hxs91⟩ := Fn_.name
      (try simp at hxs91)
      rw [hx90]
      clear hx90 F88 Fn_
      go_wp2_with fail
      (first | refine ⟨by kernel_rfl, ?_, ?_⟩ | refine ⟨rfl, ?_, ?_⟩ | refine ⟨?_, ?_⟩)
      · rw [HI71.out]; exact ⟨i + 1, (by first | kernel_rfl | rfl), (by first | kernel_rfl | rfl), (by first | kernel_rfl | rfl), (by first | kernel_rfl | rfl), (by first | kernel_rfl | rfl), (by show Value.int .i64 ((i : Int) + 1) = _; simp), (by omega), (by first | rfl | simp), (by first | omega | (simp; done) | (simp; omega)), F92⟩
      · simp [slot, intOf]; omega
    · skip
      have c75H := Lib.hid c75
      have c75a : decide ((i : Int) < ((lossL bb).length : Int)) = false := dec_f c75
      have kn93 : sO = sC + sL := HTN.out.sum
      have kn93H := Lib.hid kn93
      have kn93a : (sO == (sC + sL)) = true := beq_t kn93
      have kn93b : (sO != (sC + sL)) = false := bne_f kn93
      clear kn93
      go_wp2_with fail
      have F94 := hF72.drew
      clear hF72
      refine ru_begin (fun W => W.cell? ⟨w39.heap.size, 0, none⟩ = some (.int .i64 ((lossT bb).lo)) ∧ W.cell? ⟨w39.heap.size, 1, none⟩ = some (.int .i64 ((lossT bb).hi)) ∧ W.cell? ⟨w45.heap.size, 0, none⟩ = some (.slice fa1 bb.accs.length fc1) ∧ W.cell? ⟨w45.heap.size, 1, none⟩ = some (.slice fa2 bb.mvs.length fc2) ∧ W.cell? ⟨(w22.heap.size + 1), 0, none⟩ = some (.slice pa29 OO.length pc30) ∧ W.cell? ⟨(w22.heap.size + 1), 1, none⟩ = some (.slice pa31 CC.length pc32) ∧ W.cell? ⟨(w22.heap.size + 1), 2, none⟩ = some (.slice pa33 VV.length pc34)) 24 (by kernel_rfl) ?_ ?_
      · exact ⟨F94.cl 4 0 rfl rfl, F94.cl 4 1 rfl rfl, F94.cl 2 0 rfl rfl, F94.cl 2 1 rfl rfl, F94.cl 6 0 rfl rfl, F94.cl 6 1 rfl rfl, F94.cl 6 2 rfl rfl⟩
      obtain ⟨wd96, hwd_⟩ : ∃ x : World, w74.drew = x := ⟨_, rfl⟩
      rw [hwd_] at F94 ⊢
      have wd96s : w74.heap.size ≤ wd96.heap.size := by rw [← hwd_]; exact Nat.le_refl _
      clear hwd_
      have hS95 := (And.intro (F94.cl 4 0 rfl rfl) (And.intro (F94.cl 4 1 rfl rfl) (And.intro (F94.cl 2 0 rfl rfl) (And.intro (F94.cl 2 1 rfl rfl) (And.intro (F94.cl 6 0 rfl rfl) (And.intro (F94.cl 6 1 rfl rfl) (F94.cl 6 2 rfl rfl)))))))
      refine ru_t 0 [] ?_
      refine ru_t 1 [] ?_
      (try simp only [Act.put, List.setIfInBounds_toArray, List.set_cons_zero, List.set_cons_succ])
      clear hS95
      refine ru_one 2 rfl (by kernel_rfl) (fun K hK => ?_)
      go_simp
      refine (sum_z _ _ _ LL _ (F94.at 1 rfl : Sl intEnc 1 zl_ zh_ _ (.slice za LL.length zc) LL) (by first | omega | (simp; omega)) HTN.out.bd (by omega) _ HSL.out).mono ?_
      rintro e w99 ⟨rfl, hg97⟩
      have hg97s := hg97.size
      (try simp at hg97s)
      have F100 := F94.gn hg97
      clear F94
      refine ru_back hK (by exact ⟨F100.cl 4 0 rfl rfl, F100.cl 4 1 rfl rfl, F100.cl 2 0 rfl rfl, F100.cl 2 1 rfl rfl, F100.cl 6 0 rfl rfl, F100.cl 6 1 rfl rfl, F100.cl 6 2 rfl rfl⟩) (fun hHeld => ?_)
      clear hK K
      (try simp only [Act.put, List.setIfInBounds_toArray, List.set_cons_zero, List.set_cons_succ])
      refine ru_one 3 rfl (by kernel_rfl) (fun K hK => ?_)
      go_simp
      refine (has_t _ _ _ _ HTN.out.tot).mono ?_
      rintro e w103 ⟨rfl, hg101⟩
      have hg101s := hg101.size
      (try simp at hg101s)
      have F104 := F100.gn hg101
      clear F100
      refine ru_back hK (by exact ⟨F104.cl 4 0 rfl rfl, F104.cl 4 1 rfl rfl, F104.cl 2 0 rfl rfl, F104.cl 2 1 rfl rfl, F104.cl 6 0 rfl rfl, F104.cl 6 1 rfl rfl, F104.cl 6 2 rfl rfl⟩) (fun hHeld => ?_)
      clear hK K
      (try simp only [Act.put, List.setIfInBounds_toArray, List.set_cons_zero, List.set_cons_succ])
      refine ru_p 4 ?_
      (try simp only [Act.put, List.setIfInBounds_toArray, List.set_cons_zero, List.set_cons_succ])
      refine ru_t 5 [] ?_
      refine ru_t 6 [] ?_
      (try simp only [Act.put, List.setIfInBounds_toArray, List.set_cons_zero, List.set_cons_succ])
      refine ru_one 7 rfl (by kernel_rfl) (fun K hK => ?_)
      go_simp
      refine (inside_r _ _ _ _ _ _ bb _ ((F104.at 3 rfl : HasB fl_ fh_ _ (.slice fa1 bb.accs.length fc1) (.slice fa2 bb.mvs.length fc2) (refB bb))).1 ((F104.at 3 rfl : HasB fl_ fh_ _ (.slice fa1 bb.accs.length fc1) (.slice fa2 bb.mvs.length fc2) (refB bb))).2 (by first | omega | (simp; omega)) (by first | omega | (simp; omega)) HNB.out _ _ _ _ _ _ _ _ _ OO CC VV (Own.sl (F104.at 9 rfl : Own intEnc 3 1 w19.heap.size _ (.slice pa29 OO.length pc30) OO) (fun _ => rfl)) (Nat.le_refl _) (Own.sl (F104.at 10 rfl : Own intEnc 3 1 w19.heap.size _ (.slice pa31 CC.length pc32) CC) (fun _ => rfl)) (Nat.le_refl _) (Own.sl (F104.at 11 rfl : Own intEnc 3 1 w19.heap.size _ (.slice pa33 VV.length pc34) VV) (fun _ => rfl)) (Nat.le_refl _) HLB.out HTI.out).mono ?_
      rintro e w107 ⟨rfl, hg105⟩
      have hg105s := hg105.size
      (try simp at hg105s)
      have F108 := F104.gn hg105
      clear F104
      refine ru_back hK (by exact ⟨F108.cl 4 0 rfl rfl, F108.cl 4 1 rfl rfl, F108.cl 2 0 rfl rfl, F108.cl 2 1 rfl rfl, F108.cl 6 0 rfl rfl, F108.cl 6 1 rfl rfl, F108.cl 6 2 rfl rfl⟩) (fun hHeld => ?_)
      clear hK K
      (try simp only [Act.put, List.setIfInBounds_toArray, List.set_cons_zero, List.set_cons_succ])
      refine ru_p 8 ?_
      (try simp only [Act.put, List.setIfInBounds_toArray, List.set_cons_zero, List.set_cons_succ])
      refine ru_p 9 ?_
      (try simp only [Act.put, List.setIfInBounds_toArray, List.set_cons_zero, List.set_cons_succ])
      refine ru_p 10 ?_
      refine ru_p 13 ?_
      refine ru_p 16 ?_
      (try simp only [Act.put, List.setIfInBounds_toArray, List.set_cons_zero, List.set_cons_succ])
      refine ru_t 11 [] ?_
      refine ru_t 14 [] ?_
      (try simp only [Act.put, List.setIfInBounds_toArray, List.set_cons_zero, List.set_cons_succ])
      refine ru_one 12 rfl (by kernel_rfl) (fun K hK => ?_)
      go_simp
      refine (sum_z _ _ _ OO _ (Own.sl (F108.at 9 rfl : Own intEnc 3 1 w19.heap.size _ (.slice pa29 OO.length pc30) OO) (fun _ => rfl)) (Nat.le_refl _) (tru_bdO HOK.out HTI.out HLB.out.1) (by omega) _ HSO.out).mono ?_
      rintro e w111 ⟨rfl, hg109⟩
      have hg109s := hg109.size
      (try simp at hg109s)
      have F112 := F108.gn hg109
      clear F108
      refine ru_back hK (by exact ⟨F112.cl 4 0 rfl rfl, F112.cl 4 1 rfl rfl, F112.cl 2 0 rfl rfl, F112.cl 2 1 rfl rfl, F112.cl 6 0 rfl rfl, F112.cl 6 1 rfl rfl, F112.cl 6 2 rfl rfl⟩) (fun hHeld => ?_)
      clear hK K
      (try simp only [Act.put, List.setIfInBounds_toArray, List.set_cons_zero, List.set_cons_succ])
      refine ru_one 15 rfl (by kernel_rfl) (fun K hK => ?_)
      go_simp
      refine (sum_z _ _ _ CC _ (Own.sl (F112.at 10 rfl : Own intEnc 3 1 w19.heap.size _ (.slice pa31 CC.length pc32) CC) (fun _ => rfl)) (Nat.le_refl _) (tru_bdC HOK.out HTI.out HLB.out.2.1) (by omega) _ HSC.out).mono ?_
      rintro e w115 ⟨rfl, hg113⟩
      have hg113s := hg113.size
      (try simp at hg113s)
      have F116 := F112.gn hg113
      clear F112
      refine ru_back hK (by exact ⟨F116.cl 4 0 rfl rfl, F116.cl 4 1 rfl rfl, F116.cl 2 0 rfl rfl, F116.cl 2 1 rfl rfl, F116.cl 6 0 rfl rfl, F116.cl 6 1 rfl rfl, F116.cl 6 2 rfl rfl⟩) (fun hHeld => ?_)
      clear hK K
      (try simp only [Act.put, List.setIfInBounds_toArray, List.set_cons_zero, List.set_cons_succ])
      refine ru_one 17 rfl (by kernel_rfl) (fun K hK => ?_)
      go_simp
      refine (sum_z _ _ _ LL _ (F116.at 1 rfl : Sl intEnc 1 zl_ zh_ _ (.slice za LL.length zc) LL) (by first | omega | (simp; omega)) HTN.out.bd (by omega) _ HSL.out).mono ?_
      rintro e w119 ⟨rfl, hg117⟩
      have hg117s := hg117.size
      (try simp at hg117s)
      have F120 := F116.gn hg117
      clear F116
      refine ru_back hK (by exact ⟨F120.cl 4 0 rfl rfl, F120.cl 4 1 rfl rfl, F120.cl 2 0 rfl rfl, F120.cl 2 1 rfl rfl, F120.cl 6 0 rfl rfl, F120.cl 6 1 rfl rfl, F120.cl 6 2 rfl rfl⟩) (fun hHeld => ?_)
      clear hK K
      (try simp only [Act.put, List.setIfInBounds_toArray, List.set_cons_zero, List.set_cons_succ])
      have hw121 : IntKind.i64.wrap (sC + sL) = sC + sL := IntWalk.i64_in _ (by omega)
      refine ru_p 18 ?_
      (try simp only [Act.put, List.setIfInBounds_toArray, List.set_cons_zero, List.set_cons_succ])
      refine ru_p 19 ?_
      (try simp only [Act.put, List.setIfInBounds_toArray, List.set_cons_zero, List.set_cons_succ])
      refine ru_p 20 ?_
      (try simp only [Act.put, List.setIfInBounds_toArray, List.set_cons_zero, List.set_cons_succ])
      refine ru_p 21 ?_
      (try simp only [Act.put, List.setIfInBounds_toArray, List.set_cons_zero, List.set_cons_succ])
      refine ru_one 22 rfl (by kernel_rfl) (fun K hK => ?_)
      go_simp
      refine (awake_c _).mono ?_
      rintro e w124 ⟨rfl, hg122⟩
      have hg122s := hg122.size
      (try simp at hg122s)
      have F125 := F120.gn hg122
      clear F120
      refine ru_back hK (by exact ⟨F125.cl 4 0 rfl rfl, F125.cl 4 1 rfl rfl, F125.cl 2 0 rfl rfl, F125.cl 2 1 rfl rfl, F125.cl 6 0 rfl rfl, F125.cl 6 1 rfl rfl, F125.cl 6 2 rfl rfl⟩) (fun hHeld => ?_)
      clear hK K
      (try simp only [Act.put, List.setIfInBounds_toArray, List.set_cons_zero, List.set_cons_succ])
      refine ru_p 23 ?_
      (try simp only [Act.put, List.setIfInBounds_toArray, List.set_cons_zero, List.set_cons_succ])
      refine ru_one 24 rfl (by kernel_rfl) (fun K hK => ?_)
      go_simp
      refine ru_back_late hK (by kernel_rfl) ?_
      clear hK K
      (try simp only [Act.put, List.setIfInBounds_toArray, List.set_cons_zero, List.set_cons_succ])
      refine ru_done (by kernel_rfl) ?_
      (try clear hw121)
      have Fn_ := (((F125.drop 2 rfl).drop 3 rfl).drop 4 rfl)
      (try dsimp only [List.eraseIdx_cons_succ, List.eraseIdx_cons_zero] at Fn_)
      obtain ⟨w126, hx127, F129, hxs128⟩ := Fn_.name
      (try simp at hxs128)
      rw [hx127]
      clear hx127 F125 Fn_
      go_wp2_with fail
      go_ret
      exact ⟨rfl, F129.gb⟩
  case atStart1 =>
    rw [HI71.out]
    exact ⟨0, (by first | kernel_rfl | rfl), (by first | kernel_rfl | rfl), (by first | kernel_rfl | rfl), (by first | kernel_rfl | rfl), (by first | kernel_rfl | rfl), rfl, Nat.zero_le _, rfl, (by first | exact Nat.le_refl _ | omega | (simp; done) | (simp; omega)), (((F70.drop 7 rfl).drop 13 rfl).drop 13 rfl)⟩

end Go.Proofs.Ytfifldbinnkdmaa
