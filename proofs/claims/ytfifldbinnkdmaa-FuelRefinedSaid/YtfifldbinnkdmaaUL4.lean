/- fuel: FuelRefined walked. -/
import Derived.Test.YtfifldbinnkdmaaRefi
import Derived.Test.YtfifldbinnkdmaaKX
import Derived.Test.YtfifldbinnkdmaaKP
import Derived.Test.YtfifldbinnkdmaaBookOf
import Derived.Test.YtfifldbinnkdmaaKitB2
import Derived.Test.YtfifldbinnkdmaaWake
import Derived.Test.YtfifldbinnkdmaaMiss
import Derived.Test.YtfifldbinnkdmaaKit1
import Derived.Test.YtfifldbinnkdmaaKit2
import Derived.Test.YtfifldbinnkdmaaK1
import Derived.Test.YtfifldbinnkdmaaNewS
set_option linter.unusedVariables false
set_option linter.unusedSimpArgs false
set_option linter.unnecessarySimpa false
namespace Go.Proofs.Ytfifldbinnkdmaa
open Go.RowKit Go.Shelf
set_option maxRecDepth 100000

theorem bt_names' {accounts moves : Nat} {L W : Int} {b : Bok} {O C V : List Int} (h : BookTruth accounts moves L W b O C V) (h8 : accounts ≤ 8) : nameOk b.accs := by
  have key : ∀ k, k < 8 → (nmAt k).size ≤ maxLen := by decide +kernel
  intro a ha
  obtain ⟨i, hi, rfl⟩ := List.getElem_of_mem ha
  have h1 := (h.acc i hi).name
  rw [ga_get hi] at h1
  rw [h1]
  exact key i (by have := h.n8; omega)
section
variable (l1 h1 l2 h2 : Nat) (va vm : Value) (b : Bok) (w : World) (ha : Accs l1 h1 w va b.accs) (hm : Mvs l2 h2 w vm b.mvs) (b1 : h1 ≤ w.heap.size) (b2 : h2 ≤ w.heap.size)
include ha hm b1 b2
theorem wideB : HasB 0 w.heap.size w va vm b := ⟨Sl.wide ha (Nat.zero_le _) b1, Sl.wide hm (Nat.zero_le _) b2⟩
theorem sameBooks2 (l3 h3 l4 h4 : Nat) (va' vm' : Value) (ha' : Accs l3 h3 w va' b.accs) (hm' : Mvs l4 h4 w vm' b.mvs) (b3 : h3 ≤ w.heap.size) (b4 : h4 ≤ w.heap.size) : Calls Try.prog 26 #[.agg #[va, vm], .agg #[va', vm']] w (Ret (.bool true) w) :=
  sameBooks_c 0 w.heap.size 0 w.heap.size va vm va' vm' b w (wideB l1 h1 l2 h2 va vm b w ha hm b1 b2) (wideB l3 h3 l4 h4 va' vm' b w ha' hm' b3 b4)
end
theorem in_sub {a b : Sp} (h : subS a b) (w : World) : Calls Try.prog 38 #[.agg #[.int .i64 a.lo, .int .i64 a.hi], .agg #[.int .i64 b.lo, .int .i64 b.hi]] w (Ret (.bool true) w) := by
  have h1 := h.1
  have h2 := h.2
  go_enter Try.func38, Try.ntmps38
  go_wp2_with fail
  go_ret
  exact ⟨rfl, gb_trans (gb_alloc (gb_refl _ _) _) (gb_alloc (gb_refl _ _) _)⟩
theorem verdL_len (b : Bok) : (verdL b).length = b.accs.length := by simp [verdL, lossL]
theorem lossL_at' {b : Bok} {i : Nat} (h : i < b.accs.length) : (lossL b)[i]? = some (lossA b i) := by simp [lossL, h]
theorem verdL_at {b : Bok} {i : Nat} (h : i < b.accs.length) : (verdL b)[i]? = some (verd (lossA b i)) := by simp [verdL, lossL, h]
theorem verd_bd (s : Sp) : 1 ≤ verd s ∧ verd s ≤ 3 := by unfold verd; split <;> (try split) <;> omega
def LossS (l : List Sp) (t : Sp) (w : World) : Ending → World → Prop := fun e w' => ∃ (a : Option Addr) (c lo hi : Nat), e = .returned (.tuple #[.slice a l.length c, .agg #[.int .i64 t.lo, .int .i64 t.hi], .int .i64 0]) ∧ (w.heap.size ≤ lo ∧ hi ≤ w'.heap.size) ∧ Sl spEnc 2 lo hi w' (.slice a l.length c) l ∧ w.grownBy w' none
theorem losses_ok (l1 h1 l2 h2 : Nat) (va vm : Value) (b : Bok) (w : World) (ha : Accs l1 h1 w va b.accs) (hm : Mvs l2 h2 w vm b.mvs) (hn : nameOk b.accs) (b1 : h1 ≤ w.heap.size) (b2 : h2 ≤ w.heap.size) (h0 : checkE b = 0) (l : List Sp) (t : Sp) (hl : lossL b = l) (ht : lossT b = t) :
    Calls Try.prog 20 #[.agg #[va, vm]] w (LossS l t w) := by
  subst hl ht
  refine (fLosses_c l1 h1 l2 h2 va vm b w ha hm hn b1 b2).mono ?_
  rintro e w' (⟨h, _⟩ | ⟨_, v, rfl, ho, hg⟩)
  · exact absurd h0 h
  · obtain ⟨a, c, rfl⟩ := (ho.sl (fun _ => rfl)).any
    exact ⟨a, c, _, _, rfl, ⟨Nat.le_refl _, Nat.le_refl _⟩, ho.sl (fun _ => rfl), hg⟩
theorem sameSpans_t (lo hi lo' hi' : Nat) (v v' : Value) (l : List Sp) (w : World) (hx : Sps lo hi w v l) (hy : Sps lo' hi' w v' l) : Calls Try.prog 24 #[v, v'] w (Ret (.bool true) w) := by
  refine (sameSpans_c lo hi lo' hi' v v' l l w hx hy).mono ?_
  rintro e w' ⟨rfl, hg⟩
  exact ⟨by simp [sameS], hg⟩
theorem ref_names {b : Bok} (hn : nameOk b.accs) : nameOk (refB b).accs := by
  intro a ha
  obtain ⟨i, hi, rfl⟩ := List.getElem_of_mem ha
  have hb : i < b.accs.length := by rw [← refAL_len b (2 * b.accs.length + b.mvs.length)]; exact hi
  have h1 := ga_ref hb
  rw [ga_get hi] at h1
  rw [h1]
  exact hn.at hb
theorem shaped_t (a1 a2 a3 a4 : Option Addr) (c1 c2 c3 c4 n m : Nat) (w : World) : Calls Try.prog 52 #[.agg #[.slice a1 n c1, .slice a2 m c2], .agg #[.slice a3 n c3, .slice a4 m c4]] w (Ret (.bool true) w) := by
  go_enter Try.func52, Try.ntmps52
  go_wp2_with fail
  go_ret
  exact ⟨rfl, gb_trans (gb_alloc (gb_refl _ _) _) (gb_alloc (gb_refl _ _) _)⟩
theorem fref_n (l1 h1 l2 h2 : Nat) (va vm : Value) (b fb : Bok) (w : World) (ha : Accs l1 h1 w va b.accs) (hm : Mvs l2 h2 w vm b.mvs) (b1 : h1 ≤ w.heap.size) (b2 : h2 ≤ w.heap.size) (hn : nameOk b.accs) (hck : checkE b = 0) (hfb : refB b = fb) :
    Calls Try.prog 51 #[.agg #[va, vm]] w (fun e w' => ∃ (a1 : Option Addr) (c1 : Nat) (a2 : Option Addr) (c2 k1 : Nat), e = .returned (.tuple #[.agg #[.slice a1 b.accs.length c1, .slice a2 b.mvs.length c2], .int .i64 0]) ∧
      Bun w [rown accEnc 79 6 k1 (.slice a1 b.accs.length c1) fb.accs, rown mvEnc 76 4 k1 (.slice a2 b.mvs.length c2) fb.mvs] w') := by
  subst hfb
  exact fref_q l1 h1 l2 h2 va vm b w ha hm b1 b2 hn hck
/-- What FuelRefined asks of a refined book. -/
structure Fine (b fb : Bok) : Prop where
  n : fb.accs.length = b.accs.length
  m : fb.mvs.length = b.mvs.length
  acc : ∀ k, k < b.accs.length → ((ga fb.accs k).name = (ga b.accs k).name ∧ (ga fb.accs k).kind = (ga b.accs k).kind) ∧ subS (ga fb.accs k).op (ga b.accs k).op ∧ subS (ga fb.accs k).cl (ga b.accs k).cl
  mv : ∀ k, k < b.mvs.length → ((gm fb.mvs k).fr = (gm b.mvs k).fr ∧ (gm fb.mvs k).to = (gm b.mvs k).to) ∧ subS (gm fb.mvs k).li (gm b.mvs k).li
  id : refB fb = fb
  loss : lossL fb = lossL b
  tot : lossT fb = lossT b
  check : checkE fb = 0
theorem names_same {l l' : List Acc} : ∀ i, (∀ k, k < i → (ga l' k).name = (ga l k).name) → i ≤ l.length → i ≤ l'.length → names l' i = names l i
  | 0, _, _, _ => by simp [names]
  | i + 1, h, h1, h2 => by
    have ih := names_same i (fun k hk => h k (by omega)) (by omega) (by omega)
    have e := h i (by omega)
    unfold names at ih ⊢
    rw [List.take_add_one, List.take_add_one, List.map_append, List.map_append, ih, List.getElem?_eq_getElem (show i < l.length by omega), List.getElem?_eq_getElem (show i < l'.length by omega)]
    rw [ga_get (show i < l.length by omega), ga_get (show i < l'.length by omega)] at e
    simp [e]
theorem fine_of {b fb : Bok} {O C V : List Int} (hg : BokG b) (ht : TruL b O C V) (hfb : refB b = fb) : Fine b fb := by
  subst hfb
  have hok := hg.ok
  have hc : Calm b := calm_iff.1 (calm_tru ht.2 _)
  have hn := ref_nar (b := b)
  refine ⟨hn.n, hn.m, fun k hk => ⟨⟨by rw [ga_ref hk], (hn.acc k hk).1⟩, (hn.acc k hk).2⟩, hn.mv, ref_ref hok hc, ref_lossL hok hc, ref_tot hok hc, ?_⟩
  have h1 := ref_ok hok hc
  have hg2 : BokG (refB b) := by
    refine ⟨h1.n0, h1.n8, by rw [hn.m]; exact hg.m30, fun k hk => ?_, fun k hk => ?_⟩
    · rw [hn.n] at hk
      have h2 := hg.acc k hk
      have h3 := h1.acc k (by rw [hn.n]; exact hk)
      exact ⟨by rw [ga_ref hk]; exact h2.name, h3.kind, h3.op, h3.cl⟩
    · exact h1.mv k hk
  exact hg2.check (ref_tru ht).2
theorem ba_same {a b : ByteArray} (h : a = b) : (a.toList == b.toList) = true := by subst h; simp
set_option maxHeartbeats 16000000 in
theorem refined_walk (vn : Value) (zs : List Int) (w : World) (hz : Ints 0 w.heap.size w vn zs) :
    Calls Try.prog 9 #[vn] w (Ret (.bool true) w) := by
  have F1 : Bun w [] w := Bun.nil _
  obtain ⟨na, nc, rfl⟩ := hz.any
  have hm_nums := hz.len
  unfold maxLen at hm_nums
  have F2 := F1.sl0 hz (Nat.le_refl _) rfl
  clear F1
  clear hz
  go_enter Try.func9, Try.ntmps9
  go_wp2_with fail
  refine (newSeed_c 0 w.heap.size _ zs _ (F2.at 0 rfl : Sl intEnc 1 0 w.heap.size _ (.slice na zs.length nc) zs)).mono ?_
  rintro e w5 ⟨sb, rfl, hsb, hsbs, hg3⟩
  have hsbl := hsbs.lt
  have hg3s := hg3.size
  (try simp at hg3s)
  have F6 := F2.add (rseed sb) hg3 (hsbs) (fun g e => by cases e; exact ⟨hsb, hsbs.lt⟩)
  clear F2
  clear hg3
  go_wp2_with fail
  have F9 := F6.new 3 #[.int .i64 10, .int .i64 500] (n := w5.heap.size) (by simp)
  clear F6
  refine (of2_c sb _ w5.heap.size 2 10 500 (F9.at 1 rfl : SeedAt _ sb) (by omega) (F9.cl 0 0 rfl rfl) (F9.cl 0 1 rfl rfl)).mono ?_
  rintro e w12 ⟨r7, rfl, hr8, hs11, hg10⟩
  have hg10s := hg10.size
  (try simp at hg10s)
  have F13 := F9.seedAt 1 rfl hg10 hs11
  clear F9
  clear hg10
  go_wp2_with fail
  have F16 := F13.new 3 #[.int .i64 1, .int .i64 5, .int .i64 50] (n := w12.heap.size) (by simp)
  clear F13
  refine (of3_c sb _ w12.heap.size 3 1 5 50 (F16.at 2 rfl : SeedAt _ sb) (by omega) (F16.cl 0 0 rfl rfl) (F16.cl 0 1 rfl rfl) (F16.cl 0 2 rfl rfl)).mono ?_
  rintro e w19 ⟨r14, rfl, hr15, hs18, hg17⟩
  have hg17s := hg17.size
  (try simp at hg17s)
  have F20 := F16.seedAt 2 rfl hg17 hs18
  clear F16
  clear hg17
  go_wp2_with fail
  refine (bookOf_b sb 6 8 r7 r14 _ ((F20.front 2 rfl rfl).at 0 rfl : SeedAt _ sb) (by omega) (by omega) (by omega) (by omega)).mono ?_
  rintro e w22 ⟨va_, vm_, bb, vo_, vc_, vv_, OO, CC, VV, rfl, hT, hB23⟩
  have hB23s := hB23.gb.size
  (try simp at hB23s)
  have F24 := (F20.front 2 rfl rfl).join (L2 := [rown accEnc 79 6 w19.heap.size va_ bb.accs, rown mvEnc 76 4 w19.heap.size vm_ bb.mvs, rown intEnc 3 1 w19.heap.size vo_ OO, rown intEnc 3 1 w19.heap.size vc_ CC, rown intEnc 3 1 w19.heap.size vv_ VV]) hB23 rfl
  clear F20
  clear hB23
  (try dsimp only [List.cons_append, List.nil_append] at F24)
  have HNB := Lib.hid (bt_names' hT (by omega))
  have hb8 := hT.n8
  have hb1 := hT.n0
  have hb10 := hT.m
  have hol := hT.olen
  have hcl := hT.clen
  have hvl := hT.vlen
  have hll : ((OO.length ≤ bb.accs.length ∧ bb.accs.length ≤ OO.length) ∧ CC.length ≤ bb.accs.length ∧ bb.accs.length ≤ CC.length) ∧ VV.length ≤ bb.mvs.length ∧ bb.mvs.length ≤ VV.length := by omega
  have HTB := Lib.hid hT
  clear hT hol hcl hvl
  obtain ⟨pa25, pc26, e_⟩ := (Own.sl (F24.at 0 rfl : Own accEnc 79 6 w19.heap.size _ va_ bb.accs) (fun _ => rfl)).any
  subst e_
  obtain ⟨pa27, pc28, e_⟩ := (Own.sl (F24.at 1 rfl : Own mvEnc 76 4 w19.heap.size _ vm_ bb.mvs) (fun _ => rfl)).any
  subst e_
  obtain ⟨pa29, pc30, e_⟩ := (Own.sl (F24.at 2 rfl : Own intEnc 3 1 w19.heap.size _ vo_ OO) (fun _ => rfl)).any
  subst e_
  obtain ⟨pa31, pc32, e_⟩ := (Own.sl (F24.at 3 rfl : Own intEnc 3 1 w19.heap.size _ vc_ CC) (fun _ => rfl)).any
  subst e_
  obtain ⟨pa33, pc34, e_⟩ := (Own.sl (F24.at 4 rfl : Own intEnc 3 1 w19.heap.size _ vv_ VV) (fun _ => rfl)).any
  subst e_
  have HBG := Lib.hid (bt_g HTB.out (by omega) (by omega) (by omega) (by omega))
  have HTI := Lib.hid (bt_tru HTB.out)
  have HCB := Lib.hid (HBG.out.check HTI.out)
  have HLB : Hid (OO.length = bb.accs.length ∧ CC.length = bb.accs.length ∧ VV.length = bb.mvs.length) := Lib.hid (by omega)
  have HOK := Lib.hid HBG.out.ok
  obtain ⟨fb, hfb_⟩ : ∃ z_, refB bb = z_ := ⟨_, rfl⟩
  have HFI := Lib.hid (fine_of HBG.out ⟨HLB.out, HTI.out⟩ hfb_)
  have hfl_ : (fb.accs.length ≤ bb.accs.length ∧ bb.accs.length ≤ fb.accs.length) ∧ fb.mvs.length ≤ bb.mvs.length ∧ bb.mvs.length ≤ fb.mvs.length := by have h1_ := HFI.out.n; have h2_ := HFI.out.m; omega
  have HNF : Hid (nameOk fb.accs) := Lib.hid (hfb_ ▸ ref_names HNB.out)
  have HFB := Lib.hid hfb_
  clear hfb_
  go_wp2_with fail
  have F35 := F24.new 25 #[.slice pa25 bb.accs.length pc26, .slice pa27 bb.mvs.length pc28] (n := w22.heap.size) (by simp)
  clear F24
  have F36 := F35.new 32 #[.slice pa29 OO.length pc30, .slice pa31 CC.length pc32, .slice pa33 VV.length pc34] (n := (w22.heap.size + 1)) (by simp)
  clear F35
  refine (fref_n _ _ _ _ _ _ bb fb _ (Own.sl (F36.at 2 rfl : Own accEnc 79 6 w19.heap.size _ (.slice pa25 bb.accs.length pc26) bb.accs) (fun _ => rfl)) (Own.sl (F36.at 3 rfl : Own mvEnc 76 4 w19.heap.size _ (.slice pa27 bb.mvs.length pc28) bb.mvs) (fun _ => rfl)) (Nat.le_refl _) (Nat.le_refl _) HNB.out HCB.out HFB.out).mono ?_
  rintro e w37 ⟨qf1, qf2, qf3, qf4, k1f, rfl, hB38⟩
  have hB38s := hB38.gb.size
  (try simp at hB38s)
  have F39 := F36.joinN (L2 := [rown accEnc 79 6 k1f (.slice qf1 bb.accs.length qf2) fb.accs, rown mvEnc 76 4 k1f (.slice qf3 bb.mvs.length qf4) fb.mvs]) hB38 rfl
  clear F36
  clear hB38
  (try dsimp only [List.cons_append, List.nil_append] at F39)
  go_wp2_with fail
  have F40 := F39.new 25 #[.slice qf1 bb.accs.length qf2, .slice qf3 bb.mvs.length qf4] (n := w37.heap.size) (by simp)
  clear F39
  refine (fref_n _ _ _ _ _ _ fb fb _ (Own.sl (F40.at 1 rfl : Own accEnc 79 6 k1f _ (.slice qf1 bb.accs.length qf2) fb.accs) (fun _ => rfl)) (Own.sl (F40.at 2 rfl : Own mvEnc 76 4 k1f _ (.slice qf3 bb.mvs.length qf4) fb.mvs) (fun _ => rfl)) (Nat.le_refl _) (Nat.le_refl _) HNF.out HFI.out.check HFI.out.id).mono ?_
  rintro e w41 ⟨qg1, qg2, qg3, qg4, k1g, rfl, hB42⟩
  have hB42s := hB42.gb.size
  (try simp at hB42s)
  have F43 := F40.joinN (L2 := [rown accEnc 79 6 k1g (.slice qg1 fb.accs.length qg2) fb.accs, rown mvEnc 76 4 k1g (.slice qg3 fb.mvs.length qg4) fb.mvs]) hB42 rfl
  clear F40
  clear hB42
  (try dsimp only [List.cons_append, List.nil_append] at F43)
  have b44 := F43.bx2 6 rfl
  go_wp2_with fail
  clear b44
  have F45 := F43.new 25 #[.slice qg1 fb.accs.length qg2, .slice qg3 fb.mvs.length qg4] (n := w41.heap.size) (by simp)
  clear F43
  refine (losses_ok _ _ _ _ _ _ bb _ (Own.sl (F45.at 8 rfl : Own accEnc 79 6 w19.heap.size _ (.slice pa25 bb.accs.length pc26) bb.accs) (fun _ => rfl)) (Own.sl (F45.at 9 rfl : Own mvEnc 76 4 w19.heap.size _ (.slice pa27 bb.mvs.length pc28) bb.mvs) (fun _ => rfl)) HNB.out (Nat.le_refl _) (Nat.le_refl _) HCB.out (lossL bb) (lossT bb) rfl rfl).mono ?_
  rintro e w48 ⟨la43, lc43, ll43, lh43, rfl, ⟨lx43, ly43⟩, lz43, hg46⟩
  have hg46s := hg46.size
  (try simp at hg46s)
  have F49 := F45.add (rsl spEnc 2 ll43 lh43 (.slice la43 (lossL bb).length lc43) (lossL bb)) hg46 (lz43) (fun g e => ⟨Nat.le_trans lx43 e.1, Nat.lt_of_lt_of_le e.2 ly43⟩)
  clear F45
  clear hg46
  have b50 := F49.bx2 4 rfl
  go_wp2_with fail
  clear b50
  have F51 := F49.new 40 #[.int .i64 ((lossT bb).lo), .int .i64 ((lossT bb).hi)] (n := w48.heap.size) (by simp)
  clear F49
  refine (losses_ok _ _ _ _ _ _ fb _ (Own.sl (F51.at 6 rfl : Own accEnc 79 6 k1f _ (.slice qf1 bb.accs.length qf2) fb.accs) (fun _ => rfl)) (Own.sl (F51.at 7 rfl : Own mvEnc 76 4 k1f _ (.slice qf3 bb.mvs.length qf4) fb.mvs) (fun _ => rfl)) HNF.out (Nat.le_refl _) (Nat.le_refl _) HFI.out.check (lossL bb) (lossT bb) HFI.out.loss HFI.out.tot).mono ?_
  rintro e w54 ⟨la49, lc49, ll49, lh49, rfl, ⟨lx49, ly49⟩, lz49, hg52⟩
  have hg52s := hg52.size
  (try simp at hg52s)
  have F55 := F51.add (rsl spEnc 2 ll49 lh49 (.slice la49 (lossL bb).length lc49) (lossL bb)) hg52 (lz49) (fun g e => ⟨Nat.le_trans lx49 e.1, Nat.lt_of_lt_of_le e.2 ly49⟩)
  clear F51
  clear hg52
  have b56 := F55.bx2 6 rfl
  have b57 := F55.bx2 10 rfl
  go_wp2_with fail
  clear b56 b57
  have F58 := F55.new 40 #[.int .i64 ((lossT bb).lo), .int .i64 ((lossT bb).hi)] (n := w54.heap.size) (by simp)
  clear F55
  refine (shaped_t _ _ _ _ _ _ _ _ _ _ _).mono ?_
  rintro e w61 ⟨rfl, hg59⟩
  have hg59s := hg59.size
  (try simp at hg59s)
  have F62 := F58.gn hg59
  clear F58
  clear hg59
  go_wp2_with fail
  obtain ⟨HI63_, HI630⟩ : ∃ I : (Nat → Value) → List Deferred → World → Prop, I = (fun t ds wr => ∃ (i : Nat), t 4 = .pointer (some ⟨w22.heap.size, 0, none⟩) ∧ t 6 = .pointer (some ⟨w37.heap.size, 0, none⟩) ∧ t 8 = .pointer (some ⟨w41.heap.size, 0, none⟩) ∧ t 10 = .slice la43 ((lossL bb).length) lc43 ∧ t 11 = .pointer (some ⟨w48.heap.size, 0, none⟩) ∧ t 13 = .slice la49 ((lossL bb).length) lc49 ∧ t 14 = .pointer (some ⟨w54.heap.size, 0, none⟩) ∧ t 16 = .int .i64 (i : Int) ∧ i ≤ bb.accs.length ∧ ds = [] ∧ w61.heap.size ≤ wr.heap.size ∧ Bun w [rbox w54.heap.size 40 #[.int .i64 ((lossT bb).lo), .int .i64 ((lossT bb).hi)], rsl spEnc 2 ll49 lh49 (.slice la49 (lossL bb).length lc49) (lossL bb), rbox w48.heap.size 40 #[.int .i64 ((lossT bb).lo), .int .i64 ((lossT bb).hi)], rsl spEnc 2 ll43 lh43 (.slice la43 (lossL bb).length lc43) (lossL bb), rbox w41.heap.size 25 #[.slice qg1 fb.accs.length qg2, .slice qg3 fb.mvs.length qg4], rown accEnc 79 6 k1g (.slice qg1 fb.accs.length qg2) fb.accs, rown mvEnc 76 4 k1g (.slice qg3 fb.mvs.length qg4) fb.mvs, rbox w37.heap.size 25 #[.slice qf1 bb.accs.length qf2, .slice qf3 bb.mvs.length qf4], rown accEnc 79 6 k1f (.slice qf1 bb.accs.length qf2) fb.accs, rown mvEnc 76 4 k1f (.slice qf3 bb.mvs.length qf4) fb.mvs, rbox w22.heap.size 25 #[.slice pa25 bb.accs.length pc26, .slice pa27 bb.mvs.length pc28], rown accEnc 79 6 w19.heap.size (.slice pa25 bb.accs.length pc26) bb.accs, rown mvEnc 76 4 w19.heap.size (.slice pa27 bb.mvs.length pc28) bb.mvs, rown intEnc 3 1 w19.heap.size (.slice pa29 OO.length pc30) OO, rown intEnc 3 1 w19.heap.size (.slice pa31 CC.length pc32) CC, rown intEnc 3 1 w19.heap.size (.slice pa33 VV.length pc34) VV, rseed sb, rsl intEnc 1 0 w.heap.size (.slice na zs.length nc) zs] wr) := ⟨_, rfl⟩
  have HI63 := Lib.hid HI630
  clear HI630
  refine wp_loopS 207 rfl HI63_ (fun t wr => bb.accs.length - (intOf (t 16)).toNat) ?atStart1 ?round1
  case round1 =>
    intro t ds wr hHid
    rw [HI63.out] at hHid
    obtain ⟨i, e4, e6, e8, e10, e11, e13, e14, e16, hrel⟩ := hHid
    have e : ((List.range 207).map t).toArray = #[t 0, t 1, t 2, t 3, t 4, t 5, t 6, t 7, t 8, t 9, t 10, t 11, t 12, t 13, t 14, t 15, t 16, t 17, t 18, t 19, t 20, t 21, t 22, t 23, t 24, t 25, t 26, t 27, t 28, t 29, t 30, t 31, t 32, t 33, t 34, t 35, t 36, t 37, t 38, t 39, t 40, t 41, t 42, t 43, t 44, t 45, t 46, t 47, t 48, t 49, t 50, t 51, t 52, t 53, t 54, t 55, t 56, t 57, t 58, t 59, t 60, t 61, t 62, t 63, t 64, t 65, t 66, t 67, t 68, t 69, t 70, t 71, t 72, t 73, t 74, t 75, t 76, t 77, t 78, t 79, t 80, t 81, t 82, t 83, t 84, t 85, t 86, t 87, t 88, t 89, t 90, t 91, t 92, t 93, t 94, t 95, t 96, t 97, t 98, t 99, t 100, t 101, t 102, t 103, t 104, t 105, t 106, t 107, t 108, t 109, t 110, t 111, t 112, t 113, t 114, t 115, t 116, t 117, t 118, t 119, t 120, t 121, t 122, t 123, t 124, t 125, t 126, t 127, t 128, t 129, t 130, t 131, t 132, t 133, t 134, t 135, t 136, t 137, t 138, t 139, t 140, t 141, t 142, t 143, t 144, t 145, t 146, t 147, t 148, t 149, t 150, t 151, t 152, t 153, t 154, t 155, t 156, t 157, t 158, t 159, t 160, t 161, t 162, t 163, t 164, t 165, t 166, t 167, t 168, t 169, t 170, t 171, t 172, t 173, t 174, t 175, t 176, t 177, t 178, t 179, t 180, t 181, t 182, t 183, t 184, t 185, t 186, t 187, t 188, t 189, t 190, t 191, t 192, t 193, t 194, t 195, t 196, t 197, t 198, t 199, t 200, t 201, t 202, t 203, t 204, t 205, t 206] := rfl
    (try dsimp only at e)
    rw [e4, e6, e8, e10, e11, e13, e14, e16] at e
    rw [e]
    simp only [e16]
    clear e e4 e6 e8 e10 e11 e13 e14 e16
    obtain ⟨hi0, rfl, hs65, hF64⟩ := hrel
    clear F62
    obtain ⟨w66, rfl⟩ : ∃ x_ : World, x_ = wr := ⟨_, rfl⟩
    by_cases c67 : (i : Int) < (bb.accs.length : Int)
    · skip
      have c67H := Lib.hid c67
      obtain ⟨g68, e_⟩ := (Own.at0 (hF64.at 11 rfl : Own accEnc 79 6 w19.heap.size _ (.slice pa25 bb.accs.length pc26) bb.accs)).resolve_left (by omega)
      subst e_
      have hz69 : Hid (bb.accs[i]? = some (ga bb.accs i)) := Lib.hid (ga_at (by omega))
      obtain ⟨g70, e_⟩ := (Own.at0 (hF64.at 8 rfl : Own accEnc 79 6 k1f _ (.slice qf1 bb.accs.length qf2) fb.accs)).resolve_left (by omega)
      subst e_
      have hz71 : Hid (fb.accs[i]? = some (ga fb.accs i)) := Lib.hid (ga_at (by omega))
      have hib : i < bb.accs.length := by omega
      have hif : i < fb.accs.length := by omega
      have kn72 : (ga fb.accs i).kind = (ga bb.accs i).kind := (HFI.out.acc i (by omega)).1.2
      have kn72H := Lib.hid kn72
      have kn72a : (((ga fb.accs i).kind) == ((ga bb.accs i).kind)) = true := beq_t kn72
      have kn72b : (((ga fb.accs i).kind) != ((ga bb.accs i).kind)) = false := bne_f kn72
      clear kn72
      have hnm_ : ((ga fb.accs i).name.toList == (ga bb.accs i).name.toList) = true := ba_same (HFI.out.acc i (by omega)).1.1
      have b73 := hF64.bx2 10 rfl
      go_wp2_with fail
      clear b73
      have F74 := hF64.drew
      clear hF64
      refine ru_begin (fun W => W.cell? ⟨w37.heap.size, 0, none⟩ = some (.slice (some ⟨g70, 0, none⟩) bb.accs.length qf2) ∧ W.cell? ⟨g70, i * 6 + 2, none⟩ = some (.int .i64 (ga fb.accs i).op.lo) ∧ W.cell? ⟨g70, i * 6 + 2 + 1, none⟩ = some (.int .i64 (ga fb.accs i).op.hi) ∧ W.cell? ⟨w22.heap.size, 0, none⟩ = some (.slice (some ⟨g68, 0, none⟩) bb.accs.length pc26) ∧ W.cell? ⟨g68, i * 6 + 2, none⟩ = some (.int .i64 (ga bb.accs i).op.lo) ∧ W.cell? ⟨g68, i * 6 + 2 + 1, none⟩ = some (.int .i64 (ga bb.accs i).op.hi) ∧ W.cell? ⟨g70, i * 6 + 4, none⟩ = some (.int .i64 (ga fb.accs i).cl.lo) ∧ W.cell? ⟨g70, i * 6 + 4 + 1, none⟩ = some (.int .i64 (ga fb.accs i).cl.hi) ∧ W.cell? ⟨g68, i * 6 + 4, none⟩ = some (.int .i64 (ga bb.accs i).cl.lo) ∧ W.cell? ⟨g68, i * 6 + 4 + 1, none⟩ = some (.int .i64 (ga bb.accs i).cl.hi) ∧ W.cell? ⟨g70, i * 6, none⟩ = some (.string (ga fb.accs i).name) ∧ W.cell? ⟨g68, i * 6, none⟩ = some (.string (ga bb.accs i).name) ∧ W.cell? ⟨g70, i * 6 + 1, none⟩ = some (.int .i64 (ga fb.accs i).kind) ∧ W.cell? ⟨g68, i * 6 + 1, none⟩ = some (.int .i64 (ga bb.accs i).kind)) 59 (by kernel_rfl) ?_ ?_
      · exact ⟨F74.cl 7 0 rfl rfl, (by simpa using (Own.sl (F74.at 8 rfl : Own accEnc 79 6 k1f _ (.slice (some ⟨g70, 0, none⟩) bb.accs.length qf2) fb.accs) (fun _ => rfl)).cells hz71.out 2 _ rfl), (by simpa using (Own.sl (F74.at 8 rfl : Own accEnc 79 6 k1f _ (.slice (some ⟨g70, 0, none⟩) bb.accs.length qf2) fb.accs) (fun _ => rfl)).cells hz71.out 3 _ rfl), F74.cl 10 0 rfl rfl, (by simpa using (Own.sl (F74.at 11 rfl : Own accEnc 79 6 w19.heap.size _ (.slice (some ⟨g68, 0, none⟩) bb.accs.length pc26) bb.accs) (fun _ => rfl)).cells hz69.out 2 _ rfl), (by simpa using (Own.sl (F74.at 11 rfl : Own accEnc 79 6 w19.heap.size _ (.slice (some ⟨g68, 0, none⟩) bb.accs.length pc26) bb.accs) (fun _ => rfl)).cells hz69.out 3 _ rfl), (by simpa using (Own.sl (F74.at 8 rfl : Own accEnc 79 6 k1f _ (.slice (some ⟨g70, 0, none⟩) bb.accs.length qf2) fb.accs) (fun _ => rfl)).cells hz71.out 4 _ rfl), (by simpa using (Own.sl (F74.at 8 rfl : Own accEnc 79 6 k1f _ (.slice (some ⟨g70, 0, none⟩) bb.accs.length qf2) fb.accs) (fun _ => rfl)).cells hz71.out 5 _ rfl), (by simpa using (Own.sl (F74.at 11 rfl : Own accEnc 79 6 w19.heap.size _ (.slice (some ⟨g68, 0, none⟩) bb.accs.length pc26) bb.accs) (fun _ => rfl)).cells hz69.out 4 _ rfl), (by simpa using (Own.sl (F74.at 11 rfl : Own accEnc 79 6 w19.heap.size _ (.slice (some ⟨g68, 0, none⟩) bb.accs.length pc26) bb.accs) (fun _ => rfl)).cells hz69.out 5 _ rfl), (by simpa using (Own.sl (F74.at 8 rfl : Own accEnc 79 6 k1f _ (.slice (some ⟨g70, 0, none⟩) bb.accs.length qf2) fb.accs) (fun _ => rfl)).cells hz71.out 0 _ rfl), (by simpa using (Own.sl (F74.at 11 rfl : Own accEnc 79 6 w19.heap.size _ (.slice (some ⟨g68, 0, none⟩) bb.accs.length pc26) bb.accs) (fun _ => rfl)).cells hz69.out 0 _ rfl), (by simpa using (Own.sl (F74.at 8 rfl : Own accEnc 79 6 k1f _ (.slice (some ⟨g70, 0, none⟩) bb.accs.length qf2) fb.accs) (fun _ => rfl)).cells hz71.out 1 _ rfl), (by simpa using (Own.sl (F74.at 11 rfl : Own accEnc 79 6 w19.heap.size _ (.slice (some ⟨g68, 0, none⟩) bb.accs.length pc26) bb.accs) (fun _ => rfl)).cells hz69.out 1 _ rfl)⟩
      obtain ⟨wd76, hwd_⟩ : ∃ x : World, w66.drew = x := ⟨_, rfl⟩
      rw [hwd_] at F74 ⊢
      have wd76s : w66.heap.size ≤ wd76.heap.size := by rw [← hwd_]; exact Nat.le_refl _
      clear hwd_
      have hS75 := (And.intro (F74.cl 7 0 rfl rfl) (And.intro ((by simpa using (Own.sl (F74.at 8 rfl : Own accEnc 79 6 k1f _ (.slice (some ⟨g70, 0, none⟩) bb.accs.length qf2) fb.accs) (fun _ => rfl)).cells hz71.out 2 _ rfl)) (And.intro ((by simpa using (Own.sl (F74.at 8 rfl : Own accEnc 79 6 k1f _ (.slice (some ⟨g70, 0, none⟩) bb.accs.length qf2) fb.accs) (fun _ => rfl)).cells hz71.out 3 _ rfl)) (And.intro (F74.cl 10 0 rfl rfl) (And.intro ((by simpa using (Own.sl (F74.at 11 rfl : Own accEnc 79 6 w19.heap.size _ (.slice (some ⟨g68, 0, none⟩) bb.accs.length pc26) bb.accs) (fun _ => rfl)).cells hz69.out 2 _ rfl)) (And.intro ((by simpa using (Own.sl (F74.at 11 rfl : Own accEnc 79 6 w19.heap.size _ (.slice (some ⟨g68, 0, none⟩) bb.accs.length pc26) bb.accs) (fun _ => rfl)).cells hz69.out 3 _ rfl)) (And.intro ((by simpa using (Own.sl (F74.at 8 rfl : Own accEnc 79 6 k1f _ (.slice (some ⟨g70, 0, none⟩) bb.accs.length qf2) fb.accs) (fun _ => rfl)).cells hz71.out 4 _ rfl)) (And.intro ((by simpa using (Own.sl (F74.at 8 rfl : Own accEnc 79 6 k1f _ (.slice (some ⟨g70, 0, none⟩) bb.accs.length qf2) fb.accs) (fun _ => rfl)).cells hz71.out 5 _ rfl)) (And.intro ((by simpa using (Own.sl (F74.at 11 rfl : Own accEnc 79 6 w19.heap.size _ (.slice (some ⟨g68, 0, none⟩) bb.accs.length pc26) bb.accs) (fun _ => rfl)).cells hz69.out 4 _ rfl)) (And.intro ((by simpa using (Own.sl (F74.at 11 rfl : Own accEnc 79 6 w19.heap.size _ (.slice (some ⟨g68, 0, none⟩) bb.accs.length pc26) bb.accs) (fun _ => rfl)).cells hz69.out 5 _ rfl)) (And.intro ((by simpa using (Own.sl (F74.at 8 rfl : Own accEnc 79 6 k1f _ (.slice (some ⟨g70, 0, none⟩) bb.accs.length qf2) fb.accs) (fun _ => rfl)).cells hz71.out 0 _ rfl)) (And.intro ((by simpa using (Own.sl (F74.at 11 rfl : Own accEnc 79 6 w19.heap.size _ (.slice (some ⟨g68, 0, none⟩) bb.accs.length pc26) bb.accs) (fun _ => rfl)).cells hz69.out 0 _ rfl)) (And.intro ((by simpa using (Own.sl (F74.at 8 rfl : Own accEnc 79 6 k1f _ (.slice (some ⟨g70, 0, none⟩) bb.accs.length qf2) fb.accs) (fun _ => rfl)).cells hz71.out 1 _ rfl)) ((by simpa using (Own.sl (F74.at 11 rfl : Own accEnc 79 6 w19.heap.size _ (.slice (some ⟨g68, 0, none⟩) bb.accs.length pc26) bb.accs) (fun _ => rfl)).cells hz69.out 1 _ rfl)))))))))))))))
      refine ru_t 0 [45, 30, 27, 14, 12, 5, 4, 3, 1] ?_
      refine ru_t 1 [45, 30, 27, 14, 12, 5, 4, 3] ?_
      refine ru_t 2 [45, 30, 27, 14, 12, 5, 4, 3] ?_
      refine ru_t 3 [45, 30, 27, 14, 12, 5, 4] ?_
      refine ru_t 4 [45, 30, 27, 14, 12, 5] ?_
      refine ru_t 5 [45, 30, 27, 14, 12] ?_
      refine ru_t 6 [45, 30, 27, 14, 12, 11, 10, 9, 7] ?_
      refine ru_t 7 [45, 30, 27, 14, 12, 11, 10, 9] ?_
      refine ru_t 8 [45, 30, 27, 14, 12, 11, 10, 9] ?_
      refine ru_t 9 [45, 30, 27, 14, 12, 11, 10] ?_
      refine ru_t 10 [45, 30, 27, 14, 12, 11] ?_
      refine ru_t 11 [45, 30, 27, 14, 12] ?_
      (try simp only [Act.put, List.setIfInBounds_toArray, List.set_cons_zero, List.set_cons_succ])
      clear hS75
      refine ru_one 12 rfl (by kernel_rfl) (fun K hK => ?_)
      go_simp
      refine (in_sub (HFI.out.acc i (by omega)).2.1 _).mono ?_
      rintro e w79 ⟨rfl, hg77⟩
      have hg77s := hg77.size
      (try simp at hg77s)
      have F80 := F74.gn hg77
      clear F74
      refine ru_back hK (by exact ⟨F80.cl 7 0 rfl rfl, (by simpa using (Own.sl (F80.at 8 rfl : Own accEnc 79 6 k1f _ (.slice (some ⟨g70, 0, none⟩) bb.accs.length qf2) fb.accs) (fun _ => rfl)).cells hz71.out 2 _ rfl), (by simpa using (Own.sl (F80.at 8 rfl : Own accEnc 79 6 k1f _ (.slice (some ⟨g70, 0, none⟩) bb.accs.length qf2) fb.accs) (fun _ => rfl)).cells hz71.out 3 _ rfl), F80.cl 10 0 rfl rfl, (by simpa using (Own.sl (F80.at 11 rfl : Own accEnc 79 6 w19.heap.size _ (.slice (some ⟨g68, 0, none⟩) bb.accs.length pc26) bb.accs) (fun _ => rfl)).cells hz69.out 2 _ rfl), (by simpa using (Own.sl (F80.at 11 rfl : Own accEnc 79 6 w19.heap.size _ (.slice (some ⟨g68, 0, none⟩) bb.accs.length pc26) bb.accs) (fun _ => rfl)).cells hz69.out 3 _ rfl), (by simpa using (Own.sl (F80.at 8 rfl : Own accEnc 79 6 k1f _ (.slice (some ⟨g70, 0, none⟩) bb.accs.length qf2) fb.accs) (fun _ => rfl)).cells hz71.out 4 _ rfl), (by simpa using (Own.sl (F80.at 8 rfl : Own accEnc 79 6 k1f _ (.slice (some ⟨g70, 0, none⟩) bb.accs.length qf2) fb.accs) (fun _ => rfl)).cells hz71.out 5 _ rfl), (by simpa using (Own.sl (F80.at 11 rfl : Own accEnc 79 6 w19.heap.size _ (.slice (some ⟨g68, 0, none⟩) bb.accs.length pc26) bb.accs) (fun _ => rfl)).cells hz69.out 4 _ rfl), (by simpa using (Own.sl (F80.at 11 rfl : Own accEnc 79 6 w19.heap.size _ (.slice (some ⟨g68, 0, none⟩) bb.accs.length pc26) bb.accs) (fun _ => rfl)).cells hz69.out 5 _ rfl), (by simpa using (Own.sl (F80.at 8 rfl : Own accEnc 79 6 k1f _ (.slice (some ⟨g70, 0, none⟩) bb.accs.length qf2) fb.accs) (fun _ => rfl)).cells hz71.out 0 _ rfl), (by simpa using (Own.sl (F80.at 11 rfl : Own accEnc 79 6 w19.heap.size _ (.slice (some ⟨g68, 0, none⟩) bb.accs.length pc26) bb.accs) (fun _ => rfl)).cells hz69.out 0 _ rfl), (by simpa using (Own.sl (F80.at 8 rfl : Own accEnc 79 6 k1f _ (.slice (some ⟨g70, 0, none⟩) bb.accs.length qf2) fb.accs) (fun _ => rfl)).cells hz71.out 1 _ rfl), (by simpa using (Own.sl (F80.at 11 rfl : Own accEnc 79 6 w19.heap.size _ (.slice (some ⟨g68, 0, none⟩) bb.accs.length pc26) bb.accs) (fun _ => rfl)).cells hz69.out 1 _ rfl)⟩) (fun hHeld => ?_)
      clear hK K
      (try simp only [Act.put, List.setIfInBounds_toArray, List.set_cons_zero, List.set_cons_succ])
      refine ru_p 13 ?_
      (try simp only [Act.put, List.setIfInBounds_toArray, List.set_cons_zero, List.set_cons_succ])
      refine ru_p 14 ?_
      (try simp only [Act.put, List.setIfInBounds_toArray, List.set_cons_zero, List.set_cons_succ])
      refine ru_p 15 ?_
      refine ru_p 17 ?_
      refine ru_p 21 ?_
      refine ru_p 23 ?_
      (try simp only [Act.put, List.setIfInBounds_toArray, List.set_cons_zero, List.set_cons_succ])
      refine ru_t 16 [45, 30, 27, 20, 19, 18] ?_
      refine ru_t 22 [45, 30, 27, 26, 25, 24] ?_
      (try simp only [Act.put, List.setIfInBounds_toArray, List.set_cons_zero, List.set_cons_succ])
      refine ru_p 18 ?_
      refine ru_p 24 ?_
      (try simp only [Act.put, List.setIfInBounds_toArray, List.set_cons_zero, List.set_cons_succ])
      refine ru_p 19 ?_
      refine ru_p 25 ?_
      (try simp only [Act.put, List.setIfInBounds_toArray, List.set_cons_zero, List.set_cons_succ])
      refine ru_t 20 [45, 30, 27] ?_
      refine ru_t 26 [45, 30, 27] ?_
      (try simp only [Act.put, List.setIfInBounds_toArray, List.set_cons_zero, List.set_cons_succ])
      refine ru_one 27 rfl (by kernel_rfl) (fun K hK => ?_)
      go_simp
      refine (in_sub (HFI.out.acc i (by omega)).2.2 _).mono ?_
      rintro e w83 ⟨rfl, hg81⟩
      have hg81s := hg81.size
      (try simp at hg81s)
      have F84 := F80.gn hg81
      clear F80
      refine ru_back hK (by exact ⟨F84.cl 7 0 rfl rfl, (by simpa using (Own.sl (F84.at 8 rfl : Own accEnc 79 6 k1f _ (.slice (some ⟨g70, 0, none⟩) bb.accs.length qf2) fb.accs) (fun _ => rfl)).cells hz71.out 2 _ rfl), (by simpa using (Own.sl (F84.at 8 rfl : Own accEnc 79 6 k1f _ (.slice (some ⟨g70, 0, none⟩) bb.accs.length qf2) fb.accs) (fun _ => rfl)).cells hz71.out 3 _ rfl), F84.cl 10 0 rfl rfl, (by simpa using (Own.sl (F84.at 11 rfl : Own accEnc 79 6 w19.heap.size _ (.slice (some ⟨g68, 0, none⟩) bb.accs.length pc26) bb.accs) (fun _ => rfl)).cells hz69.out 2 _ rfl), (by simpa using (Own.sl (F84.at 11 rfl : Own accEnc 79 6 w19.heap.size _ (.slice (some ⟨g68, 0, none⟩) bb.accs.length pc26) bb.accs) (fun _ => rfl)).cells hz69.out 3 _ rfl), (by simpa using (Own.sl (F84.at 8 rfl : Own accEnc 79 6 k1f _ (.slice (some ⟨g70, 0, none⟩) bb.accs.length qf2) fb.accs) (fun _ => rfl)).cells hz71.out 4 _ rfl), (by simpa using (Own.sl (F84.at 8 rfl : Own accEnc 79 6 k1f _ (.slice (some ⟨g70, 0, none⟩) bb.accs.length qf2) fb.accs) (fun _ => rfl)).cells hz71.out 5 _ rfl), (by simpa using (Own.sl (F84.at 11 rfl : Own accEnc 79 6 w19.heap.size _ (.slice (some ⟨g68, 0, none⟩) bb.accs.length pc26) bb.accs) (fun _ => rfl)).cells hz69.out 4 _ rfl), (by simpa using (Own.sl (F84.at 11 rfl : Own accEnc 79 6 w19.heap.size _ (.slice (some ⟨g68, 0, none⟩) bb.accs.length pc26) bb.accs) (fun _ => rfl)).cells hz69.out 5 _ rfl), (by simpa using (Own.sl (F84.at 8 rfl : Own accEnc 79 6 k1f _ (.slice (some ⟨g70, 0, none⟩) bb.accs.length qf2) fb.accs) (fun _ => rfl)).cells hz71.out 0 _ rfl), (by simpa using (Own.sl (F84.at 11 rfl : Own accEnc 79 6 w19.heap.size _ (.slice (some ⟨g68, 0, none⟩) bb.accs.length pc26) bb.accs) (fun _ => rfl)).cells hz69.out 0 _ rfl), (by simpa using (Own.sl (F84.at 8 rfl : Own accEnc 79 6 k1f _ (.slice (some ⟨g70, 0, none⟩) bb.accs.length qf2) fb.accs) (fun _ => rfl)).cells hz71.out 1 _ rfl), (by simpa using (Own.sl (F84.at 11 rfl : Own accEnc 79 6 w19.heap.size _ (.slice (some ⟨g68, 0, none⟩) bb.accs.length pc26) bb.accs) (fun _ => rfl)).cells hz69.out 1 _ rfl)⟩) (fun hHeld => ?_)
      clear hK K
      (try simp only [Act.put, List.setIfInBounds_toArray, List.set_cons_zero, List.set_cons_succ])
      refine ru_p 28 ?_
      (try simp only [Act.put, List.setIfInBounds_toArray, List.set_cons_zero, List.set_cons_succ])
      refine ru_p 29 ?_
      (try simp only [Act.put, List.setIfInBounds_toArray, List.set_cons_zero, List.set_cons_succ])
      refine ru_p 30 ?_
      (try simp only [Act.put, List.setIfInBounds_toArray, List.set_cons_zero, List.set_cons_succ])
      refine ru_p 31 ?_
      refine ru_p 33 ?_
      refine ru_p 37 ?_
      refine ru_p 39 ?_
      (try simp only [Act.put, List.setIfInBounds_toArray, List.set_cons_zero, List.set_cons_succ])
      refine ru_t 32 [45, 44, 43, 36, 35, 34] ?_
      refine ru_t 38 [45, 44, 43, 42, 41, 40] ?_
      (try simp only [Act.put, List.setIfInBounds_toArray, List.set_cons_zero, List.set_cons_succ])
      refine ru_p 34 ?_
      refine ru_p 40 ?_
      (try simp only [Act.put, List.setIfInBounds_toArray, List.set_cons_zero, List.set_cons_succ])
      refine ru_p 35 ?_
      refine ru_p 41 ?_
      (try simp only [Act.put, List.setIfInBounds_toArray, List.set_cons_zero, List.set_cons_succ])
      refine ru_t 36 [45, 44, 43] ?_
      refine ru_t 42 [45, 44, 43] ?_
      (try simp only [Act.put, List.setIfInBounds_toArray, List.set_cons_zero, List.set_cons_succ])
      refine ru_p 43 ?_
      (try simp only [Act.put, List.setIfInBounds_toArray, List.set_cons_zero, List.set_cons_succ])
      refine ru_p 44 ?_
      (try simp only [Act.put, List.setIfInBounds_toArray, List.set_cons_zero, List.set_cons_succ])
      refine ru_p 45 ?_
      (try simp only [Act.put, List.setIfInBounds_toArray, List.set_cons_zero, List.set_cons_succ])
      refine ru_p 46 ?_
      refine ru_p 48 ?_
      refine ru_p 52 ?_
      refine ru_p 54 ?_
      (try simp only [Act.put, List.setIfInBounds_toArray, List.set_cons_zero, List.set_cons_succ])
      refine ru_t 47 [58, 51, 50, 49] ?_
      refine ru_t 53 [58, 57, 56, 55] ?_
      (try simp only [Act.put, List.setIfInBounds_toArray, List.set_cons_zero, List.set_cons_succ])
      refine ru_p 49 ?_
      refine ru_p 55 ?_
      (try simp only [Act.put, List.setIfInBounds_toArray, List.set_cons_zero, List.set_cons_succ])
      refine ru_p 50 ?_
      refine ru_p 56 ?_
      (try simp only [Act.put, List.setIfInBounds_toArray, List.set_cons_zero, List.set_cons_succ])
      refine ru_t 51 [58] ?_
      refine ru_t 57 [58] ?_
      (try simp only [Act.put, List.setIfInBounds_toArray, List.set_cons_zero, List.set_cons_succ])
      refine ru_p 58 ?_
      (try simp only [Act.put, List.setIfInBounds_toArray, List.set_cons_zero, List.set_cons_succ])
      refine ru_one 59 rfl (by kernel_rfl) (fun K hK => ?_)
      go_simp
      refine ru_back_late hK (by kernel_rfl) ?_
      clear hK K
      (try simp only [Act.put, List.setIfInBounds_toArray, List.set_cons_zero, List.set_cons_succ])
      refine ru_done (by kernel_rfl) ?_
      have Fn_ := F84
      (try dsimp only [List.eraseIdx_cons_succ, List.eraseIdx_cons_zero] at Fn_)
      obtain ⟨w85, hx86, F88, hxs87⟩ := Fn_.name
      (try simp at hxs87)
      rw [hx86]
      clear hx86 F84 Fn_
      go_wp2_with fail
      (first | refine ⟨by kernel_rfl, ?_, ?_⟩ | refine ⟨rfl, ?_, ?_⟩ | refine ⟨?_, ?_⟩)
      · rw [HI63.out]; exact ⟨i + 1, (by first | kernel_rfl | rfl), (by first | kernel_rfl | rfl), (by first | kernel_rfl | rfl), (by first | kernel_rfl | rfl), (by first | kernel_rfl | rfl), (by first | kernel_rfl | rfl), (by first | kernel_rfl | rfl), (by show Value.int .i64 ((i : Int) + 1) = _; simp), (by omega), (by first | rfl | simp), (by first | omega | (simp; done) | (simp; omega)), F88⟩
      · simp [slot, intOf]; omega
    · skip
      have c67H := Lib.hid c67
      have c67a : decide ((i : Int) < (bb.accs.length : Int)) = false := dec_f c67
      have b89 := hF64.bx2 10 rfl
      go_wp2_with fail
      clear b89
      obtain ⟨HI90_, HI900⟩ : ∃ I : (Nat → Value) → List Deferred → World → Prop, I = (fun t ds wr => ∃ (k : Nat), t 4 = .pointer (some ⟨w22.heap.size, 0, none⟩) ∧ t 6 = .pointer (some ⟨w37.heap.size, 0, none⟩) ∧ t 8 = .pointer (some ⟨w41.heap.size, 0, none⟩) ∧ t 10 = .slice la43 ((lossL bb).length) lc43 ∧ t 11 = .pointer (some ⟨w48.heap.size, 0, none⟩) ∧ t 13 = .slice la49 ((lossL bb).length) lc49 ∧ t 14 = .pointer (some ⟨w54.heap.size, 0, none⟩) ∧ t 17 = .int .i64 (k : Int) ∧ k ≤ bb.mvs.length ∧ ds = [] ∧ w66.heap.size ≤ wr.heap.size ∧ Bun w [rbox w54.heap.size 40 #[.int .i64 ((lossT bb).lo), .int .i64 ((lossT bb).hi)], rsl spEnc 2 ll49 lh49 (.slice la49 (lossL bb).length lc49) (lossL bb), rbox w48.heap.size 40 #[.int .i64 ((lossT bb).lo), .int .i64 ((lossT bb).hi)], rsl spEnc 2 ll43 lh43 (.slice la43 (lossL bb).length lc43) (lossL bb), rbox w41.heap.size 25 #[.slice qg1 fb.accs.length qg2, .slice qg3 fb.mvs.length qg4], rown accEnc 79 6 k1g (.slice qg1 fb.accs.length qg2) fb.accs, rown mvEnc 76 4 k1g (.slice qg3 fb.mvs.length qg4) fb.mvs, rbox w37.heap.size 25 #[.slice qf1 bb.accs.length qf2, .slice qf3 bb.mvs.length qf4], rown accEnc 79 6 k1f (.slice qf1 bb.accs.length qf2) fb.accs, rown mvEnc 76 4 k1f (.slice qf3 bb.mvs.length qf4) fb.mvs, rbox w22.heap.size 25 #[.slice pa25 bb.accs.length pc26, .slice pa27 bb.mvs.length pc28], rown accEnc 79 6 w19.heap.size (.slice pa25 bb.accs.length pc26) bb.accs, rown mvEnc 76 4 w19.heap.size (.slice pa27 bb.mvs.length pc28) bb.mvs, rown intEnc 3 1 w19.heap.size (.slice pa29 OO.length pc30) OO, rown intEnc 3 1 w19.heap.size (.slice pa31 CC.length pc32) CC, rown intEnc 3 1 w19.heap.size (.slice pa33 VV.length pc34) VV, rseed sb, rsl intEnc 1 0 w.heap.size (.slice na zs.length nc) zs] wr) := ⟨_, rfl⟩
      have HI90 := Lib.hid HI900
      clear HI900
      refine wp_loopS 207 rfl HI90_ (fun t wr => bb.mvs.length - (intOf (t 17)).toNat) ?atStart2 ?round2
      case round2 =>
        intro t ds wr hHid
        rw [HI90.out] at hHid
        obtain ⟨k, e4, e6, e8, e10, e11, e13, e14, e17, hrel⟩ := hHid
        have e : ((List.range 207).map t).toArray = #[t 0, t 1, t 2, t 3, t 4, t 5, t 6, t 7, t 8, t 9, t 10, t 11, t 12, t 13, t 14, t 15, t 16, t 17, t 18, t 19, t 20, t 21, t 22, t 23, t 24, t 25, t 26, t 27, t 28, t 29, t 30, t 31, t 32, t 33, t 34, t 35, t 36, t 37, t 38, t 39, t 40, t 41, t 42, t 43, t 44, t 45, t 46, t 47, t 48, t 49, t 50, t 51, t 52, t 53, t 54, t 55, t 56, t 57, t 58, t 59, t 60, t 61, t 62, t 63, t 64, t 65, t 66, t 67, t 68, t 69, t 70, t 71, t 72, t 73, t 74, t 75, t 76, t 77, t 78, t 79, t 80, t 81, t 82, t 83, t 84, t 85, t 86, t 87, t 88, t 89, t 90, t 91, t 92, t 93, t 94, t 95, t 96, t 97, t 98, t 99, t 100, t 101, t 102, t 103, t 104, t 105, t 106, t 107, t 108, t 109, t 110, t 111, t 112, t 113, t 114, t 115, t 116, t 117, t 118, t 119, t 120, t 121, t 122, t 123, t 124, t 125, t 126, t 127, t 128, t 129, t 130, t 131, t 132, t 133, t 134, t 135, t 136, t 137, t 138, t 139, t 140, t 141, t 142, t 143, t 144, t 145, t 146, t 147, t 148, t 149, t 150, t 151, t 152, t 153, t 154, t 155, t 156, t 157, t 158, t 159, t 160, t 161, t 162, t 163, t 164, t 165, t 166, t 167, t 168, t 169, t 170, t 171, t 172, t 173, t 174, t 175, t 176, t 177, t 178, t 179, t 180, t 181, t 182, t 183, t 184, t 185, t 186, t 187, t 188, t 189, t 190, t 191, t 192, t 193, t 194, t 195, t 196, t 197, t 198, t 199, t 200, t 201, t 202, t 203, t 204, t 205, t 206] := rfl
        (try dsimp only at e)
        rw [e4, e6, e8, e10, e11, e13, e14, e17] at e
        rw [e]
        simp only [e17]
        clear e e4 e6 e8 e10 e11 e13 e14 e17
        obtain ⟨hk0, rfl, hs92, hF91⟩ := hrel
        clear hF64
        obtain ⟨w93, rfl⟩ : ∃ x_ : World, x_ = wr := ⟨_, rfl⟩
        by_cases c94 : (k : Int) < (bb.mvs.length : Int)
        · skip
          have c94H := Lib.hid c94
          obtain ⟨g95, e_⟩ := (Own.at0 (hF91.at 12 rfl : Own mvEnc 76 4 w19.heap.size _ (.slice pa27 bb.mvs.length pc28) bb.mvs)).resolve_left (by omega)
          subst e_
          have hz96 : Hid (bb.mvs[k]? = some (gm bb.mvs k)) := Lib.hid (gm_at (by omega))
          obtain ⟨g97, e_⟩ := (Own.at0 (hF91.at 9 rfl : Own mvEnc 76 4 k1f _ (.slice qf3 bb.mvs.length qf4) fb.mvs)).resolve_left (by omega)
          subst e_
          have hz98 : Hid (fb.mvs[k]? = some (gm fb.mvs k)) := Lib.hid (gm_at (by omega))
          have hkb : k < bb.mvs.length := by omega
          have hkf : k < fb.mvs.length := by omega
          have kn99 : (gm fb.mvs k).fr = (gm bb.mvs k).fr := (HFI.out.mv k (by omega)).1.1
          have kn99H := Lib.hid kn99
          have kn99a : (((gm fb.mvs k).fr) == ((gm bb.mvs k).fr)) = true := beq_t kn99
          have kn99b : (((gm fb.mvs k).fr) != ((gm bb.mvs k).fr)) = false := bne_f kn99
          clear kn99
          have kn100 : (gm fb.mvs k).to = (gm bb.mvs k).to := (HFI.out.mv k (by omega)).1.2
          have kn100H := Lib.hid kn100
          have kn100a : (((gm fb.mvs k).to) == ((gm bb.mvs k).to)) = true := beq_t kn100
          have kn100b : (((gm fb.mvs k).to) != ((gm bb.mvs k).to)) = false := bne_f kn100
          clear kn100
          have b101 := hF91.bx2 10 rfl
          go_wp2_with fail
          clear b101
          have F102 := hF91.drew
          clear hF91
          refine ru_begin (fun W => W.cell? ⟨w37.heap.size, 1, none⟩ = some (.slice (some ⟨g97, 0, none⟩) bb.mvs.length qf4) ∧ W.cell? ⟨g97, k * 4 + 2, none⟩ = some (.int .i64 (gm fb.mvs k).li.lo) ∧ W.cell? ⟨g97, k * 4 + 2 + 1, none⟩ = some (.int .i64 (gm fb.mvs k).li.hi) ∧ W.cell? ⟨w22.heap.size, 1, none⟩ = some (.slice (some ⟨g95, 0, none⟩) bb.mvs.length pc28) ∧ W.cell? ⟨g95, k * 4 + 2, none⟩ = some (.int .i64 (gm bb.mvs k).li.lo) ∧ W.cell? ⟨g95, k * 4 + 2 + 1, none⟩ = some (.int .i64 (gm bb.mvs k).li.hi) ∧ W.cell? ⟨g97, k * 4, none⟩ = some (.int .i64 (gm fb.mvs k).fr) ∧ W.cell? ⟨g95, k * 4, none⟩ = some (.int .i64 (gm bb.mvs k).fr) ∧ W.cell? ⟨g97, k * 4 + 1, none⟩ = some (.int .i64 (gm fb.mvs k).to) ∧ W.cell? ⟨g95, k * 4 + 1, none⟩ = some (.int .i64 (gm bb.mvs k).to)) 43 (by kernel_rfl) ?_ ?_
          · exact ⟨F102.cl 7 1 rfl rfl, (by simpa using (Own.sl (F102.at 9 rfl : Own mvEnc 76 4 k1f _ (.slice (some ⟨g97, 0, none⟩) bb.mvs.length qf4) fb.mvs) (fun _ => rfl)).cells hz98.out 2 _ rfl), (by simpa using (Own.sl (F102.at 9 rfl : Own mvEnc 76 4 k1f _ (.slice (some ⟨g97, 0, none⟩) bb.mvs.length qf4) fb.mvs) (fun _ => rfl)).cells hz98.out 3 _ rfl), F102.cl 10 1 rfl rfl, (by simpa using (Own.sl (F102.at 12 rfl : Own mvEnc 76 4 w19.heap.size _ (.slice (some ⟨g95, 0, none⟩) bb.mvs.length pc28) bb.mvs) (fun _ => rfl)).cells hz96.out 2 _ rfl), (by simpa using (Own.sl (F102.at 12 rfl : Own mvEnc 76 4 w19.heap.size _ (.slice (some ⟨g95, 0, none⟩) bb.mvs.length pc28) bb.mvs) (fun _ => rfl)).cells hz96.out 3 _ rfl), (by simpa using (Own.sl (F102.at 9 rfl : Own mvEnc 76 4 k1f _ (.slice (some ⟨g97, 0, none⟩) bb.mvs.length qf4) fb.mvs) (fun _ => rfl)).cells hz98.out 0 _ rfl), (by simpa using (Own.sl (F102.at 12 rfl : Own mvEnc 76 4 w19.heap.size _ (.slice (some ⟨g95, 0, none⟩) bb.mvs.length pc28) bb.mvs) (fun _ => rfl)).cells hz96.out 0 _ rfl), (by simpa using (Own.sl (F102.at 9 rfl : Own mvEnc 76 4 k1f _ (.slice (some ⟨g97, 0, none⟩) bb.mvs.length qf4) fb.mvs) (fun _ => rfl)).cells hz98.out 1 _ rfl), (by simpa using (Own.sl (F102.at 12 rfl : Own mvEnc 76 4 w19.heap.size _ (.slice (some ⟨g95, 0, none⟩) bb.mvs.length pc28) bb.mvs) (fun _ => rfl)).cells hz96.out 1 _ rfl)⟩
          obtain ⟨wd104, hwd_⟩ : ∃ x : World, w93.drew = x := ⟨_, rfl⟩
          rw [hwd_] at F102 ⊢
          have wd104s : w93.heap.size ≤ wd104.heap.size := by rw [← hwd_]; exact Nat.le_refl _
          clear hwd_
          have hS103 := (And.intro (F102.cl 7 1 rfl rfl) (And.intro ((by simpa using (Own.sl (F102.at 9 rfl : Own mvEnc 76 4 k1f _ (.slice (some ⟨g97, 0, none⟩) bb.mvs.length qf4) fb.mvs) (fun _ => rfl)).cells hz98.out 2 _ rfl)) (And.intro ((by simpa using (Own.sl (F102.at 9 rfl : Own mvEnc 76 4 k1f _ (.slice (some ⟨g97, 0, none⟩) bb.mvs.length qf4) fb.mvs) (fun _ => rfl)).cells hz98.out 3 _ rfl)) (And.intro (F102.cl 10 1 rfl rfl) (And.intro ((by simpa using (Own.sl (F102.at 12 rfl : Own mvEnc 76 4 w19.heap.size _ (.slice (some ⟨g95, 0, none⟩) bb.mvs.length pc28) bb.mvs) (fun _ => rfl)).cells hz96.out 2 _ rfl)) (And.intro ((by simpa using (Own.sl (F102.at 12 rfl : Own mvEnc 76 4 w19.heap.size _ (.slice (some ⟨g95, 0, none⟩) bb.mvs.length pc28) bb.mvs) (fun _ => rfl)).cells hz96.out 3 _ rfl)) (And.intro ((by simpa using (Own.sl (F102.at 9 rfl : Own mvEnc 76 4 k1f _ (.slice (some ⟨g97, 0, none⟩) bb.mvs.length qf4) fb.mvs) (fun _ => rfl)).cells hz98.out 0 _ rfl)) (And.intro ((by simpa using (Own.sl (F102.at 12 rfl : Own mvEnc 76 4 w19.heap.size _ (.slice (some ⟨g95, 0, none⟩) bb.mvs.length pc28) bb.mvs) (fun _ => rfl)).cells hz96.out 0 _ rfl)) (And.intro ((by simpa using (Own.sl (F102.at 9 rfl : Own mvEnc 76 4 k1f _ (.slice (some ⟨g97, 0, none⟩) bb.mvs.length qf4) fb.mvs) (fun _ => rfl)).cells hz98.out 1 _ rfl)) ((by simpa using (Own.sl (F102.at 12 rfl : Own mvEnc 76 4 w19.heap.size _ (.slice (some ⟨g95, 0, none⟩) bb.mvs.length pc28) bb.mvs) (fun _ => rfl)).cells hz96.out 1 _ rfl)))))))))))
          refine ru_t 0 [29, 14, 12, 5, 4, 3, 1] ?_
          refine ru_t 1 [29, 14, 12, 5, 4, 3] ?_
          refine ru_t 2 [29, 14, 12, 5, 4, 3] ?_
          refine ru_t 3 [29, 14, 12, 5, 4] ?_
          refine ru_t 4 [29, 14, 12, 5] ?_
          refine ru_t 5 [29, 14, 12] ?_
          refine ru_t 6 [29, 14, 12, 11, 10, 9, 7] ?_
          refine ru_t 7 [29, 14, 12, 11, 10, 9] ?_
          refine ru_t 8 [29, 14, 12, 11, 10, 9] ?_
          refine ru_t 9 [29, 14, 12, 11, 10] ?_
          refine ru_t 10 [29, 14, 12, 11] ?_
          refine ru_t 11 [29, 14, 12] ?_
          (try simp only [Act.put, List.setIfInBounds_toArray, List.set_cons_zero, List.set_cons_succ])
          clear hS103
          refine ru_one 12 rfl (by kernel_rfl) (fun K hK => ?_)
          go_simp
          refine (in_sub (HFI.out.mv k (by omega)).2 _).mono ?_
          rintro e w107 ⟨rfl, hg105⟩
          have hg105s := hg105.size
          (try simp at hg105s)
          have F108 := F102.gn hg105
          clear F102
          refine ru_back hK (by exact ⟨F108.cl 7 1 rfl rfl, (by simpa using (Own.sl (F108.at 9 rfl : Own mvEnc 76 4 k1f _ (.slice (some ⟨g97, 0, none⟩) bb.mvs.length qf4) fb.mvs) (fun _ => rfl)).cells hz98.out 2 _ rfl), (by simpa using (Own.sl (F108.at 9 rfl : Own mvEnc 76 4 k1f _ (.slice (some ⟨g97, 0, none⟩) bb.mvs.length qf4) fb.mvs) (fun _ => rfl)).cells hz98.out 3 _ rfl), F108.cl 10 1 rfl rfl, (by simpa using (Own.sl (F108.at 12 rfl : Own mvEnc 76 4 w19.heap.size _ (.slice (some ⟨g95, 0, none⟩) bb.mvs.length pc28) bb.mvs) (fun _ => rfl)).cells hz96.out 2 _ rfl), (by simpa using (Own.sl (F108.at 12 rfl : Own mvEnc 76 4 w19.heap.size _ (.slice (some ⟨g95, 0, none⟩) bb.mvs.length pc28) bb.mvs) (fun _ => rfl)).cells hz96.out 3 _ rfl), (by simpa using (Own.sl (F108.at 9 rfl : Own mvEnc 76 4 k1f _ (.slice (some ⟨g97, 0, none⟩) bb.mvs.length qf4) fb.mvs) (fun _ => rfl)).cells hz98.out 0 _ rfl), (by simpa using (Own.sl (F108.at 12 rfl : Own mvEnc 76 4 w19.heap.size _ (.slice (some ⟨g95, 0, none⟩) bb.mvs.length pc28) bb.mvs) (fun _ => rfl)).cells hz96.out 0 _ rfl), (by simpa using (Own.sl (F108.at 9 rfl : Own mvEnc 76 4 k1f _ (.slice (some ⟨g97, 0, none⟩) bb.mvs.length qf4) fb.mvs) (fun _ => rfl)).cells hz98.out 1 _ rfl), (by simpa using (Own.sl (F108.at 12 rfl : Own mvEnc 76 4 w19.heap.size _ (.slice (some ⟨g95, 0, none⟩) bb.mvs.length pc28) bb.mvs) (fun _ => rfl)).cells hz96.out 1 _ rfl)⟩) (fun hHeld => ?_)
          clear hK K
          (try simp only [Act.put, List.setIfInBounds_toArray, List.set_cons_zero, List.set_cons_succ])
          refine ru_p 13 ?_
          (try simp only [Act.put, List.setIfInBounds_toArray, List.set_cons_zero, List.set_cons_succ])
          refine ru_p 14 ?_
          (try simp only [Act.put, List.setIfInBounds_toArray, List.set_cons_zero, List.set_cons_succ])
          refine ru_p 15 ?_
          refine ru_p 17 ?_
          refine ru_p 21 ?_
          refine ru_p 23 ?_
          (try simp only [Act.put, List.setIfInBounds_toArray, List.set_cons_zero, List.set_cons_succ])
          refine ru_t 16 [29, 28, 27, 20, 19, 18] ?_
          refine ru_t 22 [29, 28, 27, 26, 25, 24] ?_
          (try simp only [Act.put, List.setIfInBounds_toArray, List.set_cons_zero, List.set_cons_succ])
          refine ru_p 18 ?_
          refine ru_p 24 ?_
          (try simp only [Act.put, List.setIfInBounds_toArray, List.set_cons_zero, List.set_cons_succ])
          refine ru_p 19 ?_
          refine ru_p 25 ?_
          (try simp only [Act.put, List.setIfInBounds_toArray, List.set_cons_zero, List.set_cons_succ])
          refine ru_t 20 [29, 28, 27] ?_
          refine ru_t 26 [29, 28, 27] ?_
          (try simp only [Act.put, List.setIfInBounds_toArray, List.set_cons_zero, List.set_cons_succ])
          refine ru_p 27 ?_
          (try simp only [Act.put, List.setIfInBounds_toArray, List.set_cons_zero, List.set_cons_succ])
          refine ru_p 28 ?_
          (try simp only [Act.put, List.setIfInBounds_toArray, List.set_cons_zero, List.set_cons_succ])
          refine ru_p 29 ?_
          (try simp only [Act.put, List.setIfInBounds_toArray, List.set_cons_zero, List.set_cons_succ])
          refine ru_p 30 ?_
          refine ru_p 32 ?_
          refine ru_p 36 ?_
          refine ru_p 38 ?_
          (try simp only [Act.put, List.setIfInBounds_toArray, List.set_cons_zero, List.set_cons_succ])
          refine ru_t 31 [42, 35, 34, 33] ?_
          refine ru_t 37 [42, 41, 40, 39] ?_
          (try simp only [Act.put, List.setIfInBounds_toArray, List.set_cons_zero, List.set_cons_succ])
          refine ru_p 33 ?_
          refine ru_p 39 ?_
          (try simp only [Act.put, List.setIfInBounds_toArray, List.set_cons_zero, List.set_cons_succ])
          refine ru_p 34 ?_
          refine ru_p 40 ?_
          (try simp only [Act.put, List.setIfInBounds_toArray, List.set_cons_zero, List.set_cons_succ])
          refine ru_t 35 [42] ?_
          refine ru_t 41 [42] ?_
          (try simp only [Act.put, List.setIfInBounds_toArray, List.set_cons_zero, List.set_cons_succ])
          refine ru_p 42 ?_
          (try simp only [Act.put, List.setIfInBounds_toArray, List.set_cons_zero, List.set_cons_succ])
          refine ru_one 43 rfl (by kernel_rfl) (fun K hK => ?_)
          go_simp
          refine ru_back_late hK (by kernel_rfl) ?_
          clear hK K
          (try simp only [Act.put, List.setIfInBounds_toArray, List.set_cons_zero, List.set_cons_succ])
          refine ru_done (by kernel_rfl) ?_
          have Fn_ := F108
          (try dsimp only [List.eraseIdx_cons_succ, List.eraseIdx_cons_zero] at Fn_)
          obtain ⟨w109, hx110, F112, hxs111⟩ := Fn_.name
          (try simp at hxs111)
          rw [hx110]
          clear hx110 F108 Fn_
          go_wp2_with fail
          (first | refine ⟨by kernel_rfl, ?_, ?_⟩ | refine ⟨rfl, ?_, ?_⟩ | refine ⟨?_, ?_⟩)
          · rw [HI90.out]; exact ⟨k + 1, (by first | kernel_rfl | rfl), (by first | kernel_rfl | rfl), (by first | kernel_rfl | rfl), (by first | kernel_rfl | rfl), (by first | kernel_rfl | rfl), (by first | kernel_rfl | rfl), (by first | kernel_rfl | rfl), (by show Value.int .i64 ((k : Int) + 1) = _; simp), (by omega), (by first | rfl | simp), (by first | omega | (simp; done) | (simp; omega)), F112⟩
          · simp [slot, intOf]; omega
        · skip
          have c94H := Lib.hid c94
          have c94a : decide ((k : Int) < (bb.mvs.length : Int)) = false := dec_f c94
          have b113 := hF91.bx2 4 rfl
          have b114 := hF91.bx2 7 rfl
          have b115 := hF91.bx2 10 rfl
          go_wp2_with fail
          clear b113 b114 b115
          refine (sameBooks2 _ _ _ _ _ _ fb _ (Own.sl (hF91.at 8 rfl : Own accEnc 79 6 k1f _ (.slice qf1 bb.accs.length qf2) fb.accs) (fun _ => rfl)) (Own.sl (hF91.at 9 rfl : Own mvEnc 76 4 k1f _ (.slice qf3 bb.mvs.length qf4) fb.mvs) (fun _ => rfl)) (Nat.le_refl _) (Nat.le_refl _) _ _ _ _ _ _ (Own.sl (hF91.at 5 rfl : Own accEnc 79 6 k1g _ (.slice qg1 fb.accs.length qg2) fb.accs) (fun _ => rfl)) (Own.sl (hF91.at 6 rfl : Own mvEnc 76 4 k1g _ (.slice qg3 fb.mvs.length qg4) fb.mvs) (fun _ => rfl)) (Nat.le_refl _) (Nat.le_refl _)).mono ?_
          rintro e w118 ⟨rfl, hg116⟩
          have hg116s := hg116.size
          (try simp at hg116s)
          have F119 := hF91.gn hg116
          clear hF91
          clear hg116
          have b120 := F119.bx2 0 rfl
          have b121 := F119.bx2 2 rfl
          go_wp2_with fail
          clear b120 b121
          refine (sameSpans_t _ _ _ _ _ _ (lossL bb) _ (F119.at 3 rfl : Sl spEnc 2 ll43 lh43 _ (.slice la43 (lossL bb).length lc43) (lossL bb)) (F119.at 1 rfl : Sl spEnc 2 ll49 lh49 _ (.slice la49 (lossL bb).length lc49) (lossL bb))).mono ?_
          rintro e w124 ⟨rfl, hg122⟩
          have hg122s := hg122.size
          (try simp at hg122s)
          have F125 := F119.gn hg122
          clear F119
          clear hg122
          go_wp2_with fail
          refine (awake_c _).mono ?_
          rintro e w128 ⟨rfl, hg126⟩
          have hg126s := hg126.size
          (try simp at hg126s)
          have F129 := F125.gn hg126
          clear F125
          clear hg126
          go_wp2_with fail
          go_ret
          exact ⟨rfl, F129.gb⟩
      case atStart2 =>
        rw [HI90.out]
        exact ⟨0, (by first | kernel_rfl | rfl), (by first | kernel_rfl | rfl), (by first | kernel_rfl | rfl), (by first | kernel_rfl | rfl), (by first | kernel_rfl | rfl), (by first | kernel_rfl | rfl), (by first | kernel_rfl | rfl), rfl, Nat.zero_le _, rfl, (by first | exact Nat.le_refl _ | omega | (simp; done) | (simp; omega)), hF64⟩
  case atStart1 =>
    rw [HI63.out]
    exact ⟨0, (by first | kernel_rfl | rfl), (by first | kernel_rfl | rfl), (by first | kernel_rfl | rfl), (by first | kernel_rfl | rfl), (by first | kernel_rfl | rfl), (by first | kernel_rfl | rfl), (by first | kernel_rfl | rfl), rfl, Nat.zero_le _, rfl, (by first | exact Nat.le_refl _ | omega | (simp; done) | (simp; omega)), (((F62.drop 10 rfl).drop 17 rfl).drop 17 rfl)⟩

end Go.Proofs.Ytfifldbinnkdmaa
