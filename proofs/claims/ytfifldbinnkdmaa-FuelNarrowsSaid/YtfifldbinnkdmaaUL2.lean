/- fuel: FuelNarrows walked. -/
import Derived.Test.YtfifldbinnkdmaaPart2
import Derived.Test.YtfifldbinnkdmaaPost
import Derived.Test.YtfifldbinnkdmaaPTru2
import Derived.Test.YtfifldbinnkdmaaBookOf
import Derived.Test.YtfifldbinnkdmaaWake
import Derived.Test.YtfifldbinnkdmaaMiss
import Derived.Test.YtfifldbinnkdmaaKit2
import Derived.Test.YtfifldbinnkdmaaK1
import Derived.Test.YtfifldbinnkdmaaNewS
set_option linter.unusedVariables false
set_option linter.unusedSimpArgs false
set_option linter.unnecessarySimpa false
namespace Go.Proofs.Ytfifldbinnkdmaa
open Go.RowKit Go.Shelf
set_option maxRecDepth 100000

theorem bt_names' {accounts moves : Nat} {L W : Int} {b : Bok} {O C V : List Int} (h : BookTruth accounts moves L W b O C V) (h8 : accounts ≤ 8) : nameOk b.accs := by
  have key : ∀ k, k < 8 → (nmAt k).size ≤ maxLen := by decide +kernel
  intro a ha
  obtain ⟨i, hi, rfl⟩ := List.getElem_of_mem ha
  have h1 := (h.acc i hi).name
  rw [ga_get hi] at h1
  rw [h1]
  exact key i (by have := h.n8; omega)
def BalS (b : Bok) (O C V : List Int) (w : World) : Ending → World → Prop := fun e w' => ∃ (a : Option Addr) (c lo hi : Nat), e = .returned (.tuple #[.slice a (balL b O C V).length c, .int .i64 (balE b O C V)]) ∧ (w.heap.size ≤ lo ∧ hi ≤ w'.heap.size) ∧ Sl intEnc 1 lo hi w' (.slice a (balL b O C V).length c) (balL b O C V) ∧ w.grownBy w' none
theorem BalPost.s {b : Bok} {w : World} {O C V : List Int} {e : Ending} {w' : World} (h : BalPost b O C V w e w') : BalS b O C V w e w' := by
  obtain ⟨v, rfl, hs, hg⟩ := h
  obtain ⟨a, c, rfl⟩ := hs.any
  exact ⟨a, c, _, _, rfl, ⟨Nat.le_refl _, Nat.le_refl _⟩, hs, hg⟩
section
variable (l1 h1 l2 h2 : Nat) (va vm : Value) (b : Bok) (w : World) (ha : Accs l1 h1 w va b.accs) (hm : Mvs l2 h2 w vm b.mvs) (b1 : h1 ≤ w.heap.size) (b2 : h2 ≤ w.heap.size)
include ha hm b1 b2
theorem wideB : HasB 0 w.heap.size w va vm b := ⟨Sl.wide ha (Nat.zero_le _) b1, Sl.wide hm (Nat.zero_le _) b2⟩
end
theorem in_sub {a b : Sp} (h : subS a b) (w : World) : Calls Try.prog 38 #[.agg #[.int .i64 a.lo, .int .i64 a.hi], .agg #[.int .i64 b.lo, .int .i64 b.hi]] w (Ret (.bool true) w) := by
  have h1 := h.1
  have h2 := h.2
  go_enter Try.func38, Try.ntmps38
  go_wp2_with fail
  go_ret
  exact ⟨rfl, gb_trans (gb_alloc (gb_refl _ _) _) (gb_alloc (gb_refl _ _) _)⟩
theorem verdL_len (b : Bok) : (verdL b).length = b.accs.length := by simp [verdL, lossL]
theorem lossL_at' {b : Bok} {i : Nat} (h : i < b.accs.length) : (lossL b)[i]? = some (lossA b i) := by simp [lossL, h]
theorem verdL_at {b : Bok} {i : Nat} (h : i < b.accs.length) : (verdL b)[i]? = some (verd (lossA b i)) := by simp [verdL, lossL, h]
theorem verd_bd (s : Sp) : 1 ≤ verd s ∧ verd s ≤ 3 := by unfold verd; split <;> (try split) <;> omega
def LossS (l : List Sp) (t : Sp) (w : World) : Ending → World → Prop := fun e w' => ∃ (a : Option Addr) (c lo hi : Nat), e = .returned (.tuple #[.slice a l.length c, .agg #[.int .i64 t.lo, .int .i64 t.hi], .int .i64 0]) ∧ (w.heap.size ≤ lo ∧ hi ≤ w'.heap.size) ∧ Sl spEnc 2 lo hi w' (.slice a l.length c) l ∧ w.grownBy w' none
theorem losses_ok (l1 h1 l2 h2 : Nat) (va vm : Value) (b : Bok) (w : World) (ha : Accs l1 h1 w va b.accs) (hm : Mvs l2 h2 w vm b.mvs) (hn : nameOk b.accs) (b1 : h1 ≤ w.heap.size) (b2 : h2 ≤ w.heap.size) (h0 : checkE b = 0) (l : List Sp) (t : Sp) (hl : lossL b = l) (ht : lossT b = t) :
    Calls Try.prog 20 #[.agg #[va, vm]] w (LossS l t w) := by
  subst hl ht
  refine (fLosses_c l1 h1 l2 h2 va vm b w ha hm hn b1 b2).mono ?_
  rintro e w' (⟨h, _⟩ | ⟨_, v, rfl, ho, hg⟩)
  · exact absurd h0 h
  · obtain ⟨a, c, rfl⟩ := (ho.sl (fun _ => rfl)).any
    exact ⟨a, c, _, _, rfl, ⟨Nat.le_refl _, Nat.le_refl _⟩, ho.sl (fun _ => rfl), hg⟩
theorem missing_ok (l1 h1 l2 h2 : Nat) (va vm : Value) (b : Bok) (w : World) (ha : Accs l1 h1 w va b.accs) (hm : Mvs l2 h2 w vm b.mvs) (hn : nameOk b.accs) (b1 : h1 ≤ w.heap.size) (b2 : h2 ≤ w.heap.size) (h0 : checkE b = 0) :
    Calls Try.prog 22 #[.agg #[va, vm]] w (fun e w' => ∃ (a : Option Addr) (c lo hi : Nat), e = .returned (.tuple #[.slice a (verdL b).length c, .int .i64 0]) ∧ (w.heap.size ≤ lo ∧ hi ≤ w'.heap.size) ∧ Sl intEnc 1 lo hi w' (.slice a (verdL b).length c) (verdL b) ∧ w.grownBy w' none) := by
  refine (fMissing_c 0 w.heap.size va vm b w (wideB l1 h1 l2 h2 va vm b w ha hm b1 b2) hn (Nat.le_refl _)).mono ?_
  rintro e w' (⟨h, _⟩ | ⟨_, v, rfl, ho, hg⟩)
  · exact absurd h0 h
  · obtain ⟨a, c, rfl⟩ := (ho.sl (fun _ => rfl)).any
    exact ⟨a, c, _, _, rfl, ⟨Nat.le_refl _, Nat.le_refl _⟩, ho.sl (fun _ => rfl), hg⟩
theorem sameSpans_t (lo hi lo' hi' : Nat) (v v' : Value) (l : List Sp) (w : World) (hx : Sps lo hi w v l) (hy : Sps lo' hi' w v' l) : Calls Try.prog 24 #[v, v'] w (Ret (.bool true) w) := by
  refine (sameSpans_c lo hi lo' hi' v v' l l w hx hy).mono ?_
  rintro e w' ⟨rfl, hg⟩
  exact ⟨by simp [sameS], hg⟩
theorem part_names {c b : Bok} {O C V : List Int} (h : PartR c b O C V) (hn : nameOk b.accs) : nameOk c.accs := by
  intro a ha
  obtain ⟨i, hi, rfl⟩ := List.getElem_of_mem ha
  have hb : i < b.accs.length := by rw [← h.n]; exact hi
  have h1 := (h.acc i hb).1.2
  rw [ga_get hi] at h1
  rw [h1]
  exact hn.at hb
theorem wrap_k {i n : Nat} {q : Int} {w w' : World} {e : Ending} (h : Ret (.int .i64 (((i : Int) + q) % (n : Int))) w e w') (hi : i < n) (hq : 1 ≤ q ∧ q < n) : ∃ k : Nat, e = .returned (.int .i64 (k : Int)) ∧ k < n ∧ k ≠ i ∧ w.grownBy w' none := by
  obtain ⟨p, rfl⟩ : ∃ p : Nat, q = p := ⟨q.toNat, by omega⟩
  obtain ⟨k, hk, h1, h2⟩ := mod_wrap (q := p) hi (by omega)
  rw [hk] at h
  exact ⟨k, h.1, h1, h2, h.2⟩
theorem fpost_m (l1 h1 l2 h2 : Nat) (va vm : Value) (b : Bok) (m : Mv) (x y u v : Int) (w : World) (he : mvEnc m = [.int .i64 x, .int .i64 y, .int .i64 u, .int .i64 v]) (ha : Accs l1 h1 w va b.accs) (hm : Mvs l2 h2 w vm b.mvs) (b1 : h1 ≤ w.heap.size) (b2 : h2 ≤ w.heap.size) (hn : nameOk b.accs) (hck : checkE b = 0) (hcd : checkE (addM b m) = 0) (hs1 : b.accs.length ≤ 100000000000) (hs2 : b.mvs.length ≤ 10000000000) :
    Calls Try.prog 47 #[.agg #[va, vm], .agg #[.int .i64 x, .int .i64 y, .int .i64 u, .int .i64 v]] w (PostB b m w) := by
  have h := fpost_c l1 h1 l2 h2 va vm b m w ha hm b1 b2 hn hck hcd hs1 hs2
  have e : (#[.int .i64 m.fr, .int .i64 m.to, .int .i64 m.li.lo, .int .i64 m.li.hi] : Array Value) = #[.int .i64 x, .int .i64 y, .int .i64 u, .int .i64 v] := congrArg List.toArray he
  rw [e] at h
  exact h
set_option maxHeartbeats 16000000 in
theorem narrows_walk (vn : Value) (zs : List Int) (w : World) (hz : Ints 0 w.heap.size w vn zs) :
    Calls Try.prog 7 #[vn] w (Ret (.bool true) w) := by
  have F1 : Bun w [] w := Bun.nil _
  obtain ⟨na, nc, rfl⟩ := hz.any
  have hm_nums := hz.len
  unfold maxLen at hm_nums
  have F2 := F1.sl0 hz (Nat.le_refl _) rfl
  clear F1
  clear hz
  go_enter Try.func7, Try.ntmps7
  go_wp2_with fail
  refine (newSeed_c 0 w.heap.size _ zs _ (F2.at 0 rfl : Sl intEnc 1 0 w.heap.size _ (.slice na zs.length nc) zs)).mono ?_
  rintro e w5 ⟨sb, rfl, hsb, hsbs, hg3⟩
  have hsbl := hsbs.lt
  have hg3s := hg3.size
  (try simp at hg3s)
  have F6 := F2.add (rseed sb) hg3 (hsbs) (fun g e => by cases e; exact ⟨hsb, hsbs.lt⟩)
  clear F2
  clear hg3
  go_wp2_with fail
  have F9 := F6.new 3 #[.int .i64 1, .int .i64 5, .int .i64 50] (n := w5.heap.size) (by simp)
  clear F6
  refine (of3_c sb _ w5.heap.size 3 1 5 50 (F9.at 1 rfl : SeedAt _ sb) (by omega) (F9.cl 0 0 rfl rfl) (F9.cl 0 1 rfl rfl) (F9.cl 0 2 rfl rfl)).mono ?_
  rintro e w12 ⟨r7, rfl, hr8, hs11, hg10⟩
  have hg10s := hg10.size
  (try simp at hg10s)
  have F13 := F9.seedAt 1 rfl hg10 hs11
  clear F9
  clear hg10
  go_wp2_with fail
  refine (bookOf_b sb 6 8 500 r7 _ ((F13.front 1 rfl rfl).at 0 rfl : SeedAt _ sb) (by omega) (by omega) (by omega) (by omega)).mono ?_
  rintro e w15 ⟨va_, vm_, bb, vo_, vc_, vv_, OO, CC, VV, rfl, hT, hB16⟩
  have hB16s := hB16.gb.size
  (try simp at hB16s)
  have F17 := (F13.front 1 rfl rfl).join (L2 := [rown accEnc 79 6 w12.heap.size va_ bb.accs, rown mvEnc 76 4 w12.heap.size vm_ bb.mvs, rown intEnc 3 1 w12.heap.size vo_ OO, rown intEnc 3 1 w12.heap.size vc_ CC, rown intEnc 3 1 w12.heap.size vv_ VV]) hB16 rfl
  clear F13
  clear hB16
  (try dsimp only [List.cons_append, List.nil_append] at F17)
  have HNB := Lib.hid (bt_names' hT (by omega))
  have hb8 := hT.n8
  have hb1 := hT.n0
  have hb10 := hT.m
  have hol := hT.olen
  have hcl := hT.clen
  have hvl := hT.vlen
  have hll : ((OO.length ≤ bb.accs.length ∧ bb.accs.length ≤ OO.length) ∧ CC.length ≤ bb.accs.length ∧ bb.accs.length ≤ CC.length) ∧ VV.length ≤ bb.mvs.length ∧ bb.mvs.length ≤ VV.length := by omega
  have HTB := Lib.hid hT
  clear hT hol hcl hvl
  obtain ⟨pa18, pc19, e_⟩ := (Own.sl (F17.at 0 rfl : Own accEnc 79 6 w12.heap.size _ va_ bb.accs) (fun _ => rfl)).any
  subst e_
  obtain ⟨pa20, pc21, e_⟩ := (Own.sl (F17.at 1 rfl : Own mvEnc 76 4 w12.heap.size _ vm_ bb.mvs) (fun _ => rfl)).any
  subst e_
  obtain ⟨pa22, pc23, e_⟩ := (Own.sl (F17.at 2 rfl : Own intEnc 3 1 w12.heap.size _ vo_ OO) (fun _ => rfl)).any
  subst e_
  obtain ⟨pa24, pc25, e_⟩ := (Own.sl (F17.at 3 rfl : Own intEnc 3 1 w12.heap.size _ vc_ CC) (fun _ => rfl)).any
  subst e_
  obtain ⟨pa26, pc27, e_⟩ := (Own.sl (F17.at 4 rfl : Own intEnc 3 1 w12.heap.size _ vv_ VV) (fun _ => rfl)).any
  subst e_
  have HBG := Lib.hid (bt_g HTB.out (by omega) (by omega) (by omega) (by omega))
  have HTI := Lib.hid (bt_tru HTB.out)
  have HCB := Lib.hid (HBG.out.check HTI.out)
  have HLB : Hid (OO.length = bb.accs.length ∧ CC.length = bb.accs.length ∧ VV.length = bb.mvs.length) := Lib.hid (by omega)
  go_wp2_with fail
  have F28 := F17.new 25 #[.slice pa18 bb.accs.length pc19, .slice pa20 bb.mvs.length pc21] (n := w15.heap.size) (by simp)
  clear F17
  have F29 := F28.new 32 #[.slice pa22 OO.length pc23, .slice pa24 CC.length pc25, .slice pa26 VV.length pc27] (n := (w15.heap.size + 1)) (by simp)
  clear F28
  refine (partOfB_c sb _ _ _ _ _ _ bb _ _ _ _ _ _ _ _ _ OO CC VV _ ((F29.front 7 rfl rfl).at 0 rfl : SeedAt _ sb) (Own.sl (F29.at 2 rfl : Own accEnc 79 6 w12.heap.size _ (.slice pa18 bb.accs.length pc19) bb.accs) (fun _ => rfl)) (Own.sl (F29.at 3 rfl : Own mvEnc 76 4 w12.heap.size _ (.slice pa20 bb.mvs.length pc21) bb.mvs) (fun _ => rfl)) (Nat.le_refl _) (Nat.le_refl _) (Own.sl (F29.at 4 rfl : Own intEnc 3 1 w12.heap.size _ (.slice pa22 OO.length pc23) OO) (fun _ => rfl)) (Nat.le_refl _) (Own.sl (F29.at 5 rfl : Own intEnc 3 1 w12.heap.size _ (.slice pa24 CC.length pc25) CC) (fun _ => rfl)) (Nat.le_refl _) (Own.sl (F29.at 6 rfl : Own intEnc 3 1 w12.heap.size _ (.slice pa26 VV.length pc27) VV) (fun _ => rfl)) (Nat.le_refl _) (by omega) (by omega) (by omega) (by omega) (by omega) HBG.out HTI.out HLB.out).mono ?_
  rintro e w32 ⟨cb, ca1, cc1, ca2, cc2, cl_, ch_, rfl, ⟨cx_, cy_⟩, cz_, hpr, hs31, hg30⟩
  have HPR := Lib.hid hpr
  clear hpr
  have HCG := Lib.hid (HPR.out.g HBG.out)
  have HCT := Lib.hid (HPR.out.tru HTI.out)
  have HCC := Lib.hid (HCG.out.check HCT.out)
  have HNC := Lib.hid (part_names HPR.out HNB.out)
  have hcn : cb.accs.length ≤ bb.accs.length ∧ bb.accs.length ≤ cb.accs.length := by have h_ := HPR.out.n; omega
  have hg30s := hg30.size
  (try simp at hg30s)
  have F33 := (F29.front 7 rfl rfl).seedAdd (rbook cl_ ch_ (.slice ca1 cb.accs.length cc1) (.slice ca2 cb.mvs.length cc2) cb) hg30 hs31 (cz_) (fun g e => ⟨Nat.le_trans cx_ e.1, Nat.lt_of_lt_of_le e.2 cy_⟩)
  clear F29
  clear hg30
  have b34 := F33.bx2 3 rfl
  go_wp2_with fail
  clear b34
  have F35 := F33.new 25 #[.slice ca1 cb.accs.length cc1, .slice ca2 cb.mvs.length cc2] (n := w32.heap.size) (by simp)
  clear F33
  refine (losses_ok _ _ _ _ _ _ bb _ (Own.sl (F35.at 5 rfl : Own accEnc 79 6 w12.heap.size _ (.slice pa18 bb.accs.length pc19) bb.accs) (fun _ => rfl)) (Own.sl (F35.at 6 rfl : Own mvEnc 76 4 w12.heap.size _ (.slice pa20 bb.mvs.length pc21) bb.mvs) (fun _ => rfl)) HNB.out (Nat.le_refl _) (Nat.le_refl _) HCB.out (lossL bb) (lossT bb) rfl rfl).mono ?_
  rintro e w38 ⟨la41, lc41, ll41, lh41, rfl, ⟨lx41, ly41⟩, lz41, hg36⟩
  have hg36s := hg36.size
  (try simp at hg36s)
  have F39 := F35.add (rsl spEnc 2 ll41 lh41 (.slice la41 (lossL bb).length lc41) (lossL bb)) hg36 (lz41) (fun g e => ⟨Nat.le_trans lx41 e.1, Nat.lt_of_lt_of_le e.2 ly41⟩)
  clear F35
  clear hg36
  have b40 := F39.bx2 1 rfl
  go_wp2_with fail
  clear b40
  have F41 := F39.new 40 #[.int .i64 ((lossT bb).lo), .int .i64 ((lossT bb).hi)] (n := w38.heap.size) (by simp)
  clear F39
  refine (losses_ok _ _ _ _ _ _ cb _ ((F41.at 3 rfl : HasB cl_ ch_ _ (.slice ca1 cb.accs.length cc1) (.slice ca2 cb.mvs.length cc2) cb)).1 ((F41.at 3 rfl : HasB cl_ ch_ _ (.slice ca1 cb.accs.length cc1) (.slice ca2 cb.mvs.length cc2) cb)).2 HNC.out (by first | omega | (simp; omega)) (by first | omega | (simp; omega)) HCC.out (lossL cb) (lossT cb) rfl rfl).mono ?_
  rintro e w44 ⟨la47, lc47, ll47, lh47, rfl, ⟨lx47, ly47⟩, lz47, hg42⟩
  have hg42s := hg42.size
  (try simp at hg42s)
  have F45 := F41.add (rsl spEnc 2 ll47 lh47 (.slice la47 (lossL cb).length lc47) (lossL cb)) hg42 (lz47) (fun g e => ⟨Nat.le_trans lx47 e.1, Nat.lt_of_lt_of_le e.2 ly47⟩)
  clear F41
  clear hg42
  have b46 := F45.bx2 7 rfl
  go_wp2_with fail
  clear b46
  have F47 := F45.new 40 #[.int .i64 ((lossT cb).lo), .int .i64 ((lossT cb).hi)] (n := w44.heap.size) (by simp)
  clear F45
  refine (missing_ok _ _ _ _ _ _ bb _ (Own.sl (F47.at 9 rfl : Own accEnc 79 6 w12.heap.size _ (.slice pa18 bb.accs.length pc19) bb.accs) (fun _ => rfl)) (Own.sl (F47.at 10 rfl : Own mvEnc 76 4 w12.heap.size _ (.slice pa20 bb.mvs.length pc21) bb.mvs) (fun _ => rfl)) HNB.out (Nat.le_refl _) (Nat.le_refl _) HCB.out).mono ?_
  rintro e w50 ⟨wa53, wc53, vl53, vh53, rfl, ⟨vx53, vy53⟩, vz53, hg48⟩
  have hg48s := hg48.size
  (try simp at hg48s)
  have F51 := F47.add (rsl intEnc 1 vl53 vh53 (.slice wa53 (verdL bb).length wc53) (verdL bb)) hg48 (vz53) (fun g e => ⟨Nat.le_trans vx53 e.1, Nat.lt_of_lt_of_le e.2 vy53⟩)
  clear F47
  clear hg48
  have b52 := F51.bx2 5 rfl
  go_wp2_with fail
  clear b52
  refine (missing_ok _ _ _ _ _ _ cb _ ((F51.at 6 rfl : HasB cl_ ch_ _ (.slice ca1 cb.accs.length cc1) (.slice ca2 cb.mvs.length cc2) cb)).1 ((F51.at 6 rfl : HasB cl_ ch_ _ (.slice ca1 cb.accs.length cc1) (.slice ca2 cb.mvs.length cc2) cb)).2 HNC.out (by first | omega | (simp; omega)) (by first | omega | (simp; omega)) HCC.out).mono ?_
  rintro e w55 ⟨wa58, wc58, vl58, vh58, rfl, ⟨vx58, vy58⟩, vz58, hg53⟩
  have hg53s := hg53.size
  (try simp at hg53s)
  have F56 := F51.add (rsl intEnc 1 vl58 vh58 (.slice wa58 (verdL cb).length wc58) (verdL cb)) hg53 (vz58) (fun g e => ⟨Nat.le_trans vx58 e.1, Nat.lt_of_lt_of_le e.2 vy58⟩)
  clear F51
  clear hg53
  have kn57 : ((lossL bb).length : Int) = (bb.accs.length : Int) := (by rw [lossL_len]; (try omega))
  have kn57H := Lib.hid kn57
  have kn57a : (((lossL bb).length : Int) == (bb.accs.length : Int)) = true := beq_t kn57
  have kn57b : (((lossL bb).length : Int) != (bb.accs.length : Int)) = false := bne_f kn57
  clear kn57
  have kn58 : ((verdL bb).length : Int) = (bb.accs.length : Int) := (by rw [verdL_len]; (try omega))
  have kn58H := Lib.hid kn58
  have kn58a : (((verdL bb).length : Int) == (bb.accs.length : Int)) = true := beq_t kn58
  have kn58b : (((verdL bb).length : Int) != (bb.accs.length : Int)) = false := bne_f kn58
  clear kn58
  have kn59 : ((lossL cb).length : Int) = (bb.accs.length : Int) := (by rw [lossL_len]; (try omega))
  have kn59H := Lib.hid kn59
  have kn59a : (((lossL cb).length : Int) == (bb.accs.length : Int)) = true := beq_t kn59
  have kn59b : (((lossL cb).length : Int) != (bb.accs.length : Int)) = false := bne_f kn59
  clear kn59
  have kn60 : ((verdL cb).length : Int) = (bb.accs.length : Int) := (by rw [verdL_len]; (try omega))
  have kn60H := Lib.hid kn60
  have kn60a : (((verdL cb).length : Int) == (bb.accs.length : Int)) = true := beq_t kn60
  have kn60b : (((verdL cb).length : Int) != (bb.accs.length : Int)) = false := bne_f kn60
  clear kn60
  have b61 := F56.bx2 2 rfl
  have b62 := F56.bx2 4 rfl
  have b63 := F56.bx2 10 rfl
  go_wp2_with fail
  clear b61 b62 b63
  refine (in_sub (tot_sub HPR.out.sub) _).mono ?_
  rintro e w66 ⟨rfl, hg64⟩
  have hg64s := hg64.size
  (try simp at hg64s)
  have F67 := F56.gn hg64
  clear F56
  clear hg64
  go_wp2_with fail
  obtain ⟨HI68_, HI680⟩ : ∃ I : (Nat → Value) → List Deferred → World → Prop, I = (fun t ds wr => ∃ (i : Nat), t 3 = .pointer (some ⟨sb, 0, none⟩) ∧ t 4 = .pointer (some ⟨w15.heap.size, 0, none⟩) ∧ t 7 = .slice la41 ((lossL bb).length) lc41 ∧ t 8 = .pointer (some ⟨w38.heap.size, 0, none⟩) ∧ t 10 = .slice la47 ((lossL cb).length) lc47 ∧ t 13 = .slice wa53 ((verdL bb).length) wc53 ∧ t 15 = .slice wa58 ((verdL cb).length) wc58 ∧ t 17 = .int .i64 (bb.accs.length : Int) ∧ t 18 = .int .i64 (i : Int) ∧ i ≤ bb.accs.length ∧ ds = [] ∧ w66.heap.size ≤ wr.heap.size ∧ Bun w [rsl intEnc 1 vl58 vh58 (.slice wa58 (verdL cb).length wc58) (verdL cb), rsl intEnc 1 vl53 vh53 (.slice wa53 (verdL bb).length wc53) (verdL bb), rsl spEnc 2 ll47 lh47 (.slice la47 (lossL cb).length lc47) (lossL cb), rbox w38.heap.size 40 #[.int .i64 ((lossT bb).lo), .int .i64 ((lossT bb).hi)], rsl spEnc 2 ll41 lh41 (.slice la41 (lossL bb).length lc41) (lossL bb), rbook cl_ ch_ (.slice ca1 cb.accs.length cc1) (.slice ca2 cb.mvs.length cc2) cb, rseed sb, rbox w15.heap.size 25 #[.slice pa18 bb.accs.length pc19, .slice pa20 bb.mvs.length pc21], rown accEnc 79 6 w12.heap.size (.slice pa18 bb.accs.length pc19) bb.accs, rown mvEnc 76 4 w12.heap.size (.slice pa20 bb.mvs.length pc21) bb.mvs, rown intEnc 3 1 w12.heap.size (.slice pa22 OO.length pc23) OO, rown intEnc 3 1 w12.heap.size (.slice pa24 CC.length pc25) CC, rown intEnc 3 1 w12.heap.size (.slice pa26 VV.length pc27) VV, rsl intEnc 1 0 w.heap.size (.slice na zs.length nc) zs] wr) := ⟨_, rfl⟩
  have HI68 := Lib.hid HI680
  clear HI680
  refine wp_loopS 187 rfl HI68_ (fun t wr => bb.accs.length - (intOf (t 18)).toNat) ?atStart1 ?round1
  case round1 =>
    intro t ds wr hHid
    rw [HI68.out] at hHid
    obtain ⟨i, e3, e4, e7, e8, e10, e13, e15, e17, e18, hrel⟩ := hHid
    have e : ((List.range 187).map t).toArray = #[t 0, t 1, t 2, t 3, t 4, t 5, t 6, t 7, t 8, t 9, t 10, t 11, t 12, t 13, t 14, t 15, t 16, t 17, t 18, t 19, t 20, t 21, t 22, t 23, t 24, t 25, t 26, t 27, t 28, t 29, t 30, t 31, t 32, t 33, t 34, t 35, t 36, t 37, t 38, t 39, t 40, t 41, t 42, t 43, t 44, t 45, t 46, t 47, t 48, t 49, t 50, t 51, t 52, t 53, t 54, t 55, t 56, t 57, t 58, t 59, t 60, t 61, t 62, t 63, t 64, t 65, t 66, t 67, t 68, t 69, t 70, t 71, t 72, t 73, t 74, t 75, t 76, t 77, t 78, t 79, t 80, t 81, t 82, t 83, t 84, t 85, t 86, t 87, t 88, t 89, t 90, t 91, t 92, t 93, t 94, t 95, t 96, t 97, t 98, t 99, t 100, t 101, t 102, t 103, t 104, t 105, t 106, t 107, t 108, t 109, t 110, t 111, t 112, t 113, t 114, t 115, t 116, t 117, t 118, t 119, t 120, t 121, t 122, t 123, t 124, t 125, t 126, t 127, t 128, t 129, t 130, t 131, t 132, t 133, t 134, t 135, t 136, t 137, t 138, t 139, t 140, t 141, t 142, t 143, t 144, t 145, t 146, t 147, t 148, t 149, t 150, t 151, t 152, t 153, t 154, t 155, t 156, t 157, t 158, t 159, t 160, t 161, t 162, t 163, t 164, t 165, t 166, t 167, t 168, t 169, t 170, t 171, t 172, t 173, t 174, t 175, t 176, t 177, t 178, t 179, t 180, t 181, t 182, t 183, t 184, t 185, t 186] := rfl
    (try dsimp only at e)
    rw [e3, e4, e7, e8, e10, e13, e15, e17, e18] at e
    rw [e]
    simp only [e18]
    clear e e3 e4 e7 e8 e10 e13 e15 e17 e18
    obtain ⟨hi0, rfl, hs70, hF69⟩ := hrel
    clear F67
    obtain ⟨w71, rfl⟩ : ∃ x_ : World, x_ = wr := ⟨_, rfl⟩
    by_cases c72 : (i : Int) < (bb.accs.length : Int)
    · skip
      have c72H := Lib.hid c72
      have hb_i : i < bb.accs.length := by omega
      have hc_i : i < cb.accs.length := by omega
      have hl_ls41 : i < (lossL bb).length := by rw [lossL_len]; omega
      obtain ⟨x73, o74, e_⟩ := Sl.addr (hF69.at 4 rfl : Sl spEnc 2 ll41 lh41 _ (.slice la41 (lossL bb).length lc41) (lossL bb)) (by omega)
      subst e_
      have hz75 : Hid ((lossL bb)[i]? = some (lossA bb i)) := Lib.hid (lossL_at' (by omega))
      have hl_ls47 : i < (lossL cb).length := by rw [lossL_len]; omega
      obtain ⟨x76, o77, e_⟩ := Sl.addr (hF69.at 2 rfl : Sl spEnc 2 ll47 lh47 _ (.slice la47 (lossL cb).length lc47) (lossL cb)) (by omega)
      subst e_
      have hz78 : Hid ((lossL cb)[i]? = some (lossA cb i)) := Lib.hid (lossL_at' (by omega))
      have hl_vs53 : i < (verdL bb).length := by rw [verdL_len]; omega
      obtain ⟨x79, o80, e_⟩ := Sl.addr (hF69.at 1 rfl : Sl intEnc 1 vl53 vh53 _ (.slice wa53 (verdL bb).length wc53) (verdL bb)) (by omega)
      subst e_
      have hz81 : Hid ((verdL bb)[i]? = some (verd (lossA bb i))) := Lib.hid (verdL_at (by omega))
      have hl_vs58 : i < (verdL cb).length := by rw [verdL_len]; omega
      obtain ⟨x82, o83, e_⟩ := Sl.addr (hF69.at 0 rfl : Sl intEnc 1 vl58 vh58 _ (.slice wa58 (verdL cb).length wc58) (verdL cb)) (by omega)
      subst e_
      have hz84 : Hid ((verdL cb)[i]? = some (verd (lossA cb i))) := Lib.hid (verdL_at (by omega))
      by_cases c85 : verd (lossA bb i) = 3
      · skip
        have c85a : ((verd (lossA bb i)) == 3) = true := beq_t c85
        have c85b : ((verd (lossA bb i)) != 3) = false := bne_f c85
        have c85H := Lib.hid c85
        clear c85
        go_wp2_with fail
        have F86 := hF69.drew
        clear hF69
        refine ru_begin (fun W => W.cell? ⟨x76, o77 + i * 2, none⟩ = some (.int .i64 (lossA cb i).lo) ∧ W.cell? ⟨x76, o77 + i * 2 + 1, none⟩ = some (.int .i64 (lossA cb i).hi) ∧ W.cell? ⟨x73, o74 + i * 2, none⟩ = some (.int .i64 (lossA bb i).lo) ∧ W.cell? ⟨x73, o74 + i * 2 + 1, none⟩ = some (.int .i64 (lossA bb i).hi) ∧ W.cell? ⟨x79, o80 + i, none⟩ = some (.int .i64 (verd (lossA bb i)))) 27 (by kernel_rfl) ?_ ?_
        · exact ⟨(((F86.at 2 rfl : Sl spEnc 2 ll47 lh47 _ (.slice (some ⟨x76, o77, none⟩) (lossL cb).length lc47) (lossL cb))).cells hz78.out 0 _ rfl), (((F86.at 2 rfl : Sl spEnc 2 ll47 lh47 _ (.slice (some ⟨x76, o77, none⟩) (lossL cb).length lc47) (lossL cb))).cells hz78.out 1 _ rfl), (((F86.at 4 rfl : Sl spEnc 2 ll41 lh41 _ (.slice (some ⟨x73, o74, none⟩) (lossL bb).length lc41) (lossL bb))).cells hz75.out 0 _ rfl), (((F86.at 4 rfl : Sl spEnc 2 ll41 lh41 _ (.slice (some ⟨x73, o74, none⟩) (lossL bb).length lc41) (lossL bb))).cells hz75.out 1 _ rfl), (by have h_ := ((F86.at 1 rfl : Sl intEnc 1 vl53 vh53 _ (.slice (some ⟨x79, o80, none⟩) (verdL bb).length wc53) (verdL bb))).cells hz81.out 0 _ rfl; simpa using h_)⟩
        obtain ⟨wd88, hwd_⟩ : ∃ x : World, w71.drew = x := ⟨_, rfl⟩
        rw [hwd_] at F86 ⊢
        have wd88s : w71.heap.size ≤ wd88.heap.size := by rw [← hwd_]; exact Nat.le_refl _
        clear hwd_
        have hS87 := (And.intro ((((F86.at 2 rfl : Sl spEnc 2 ll47 lh47 _ (.slice (some ⟨x76, o77, none⟩) (lossL cb).length lc47) (lossL cb))).cells hz78.out 0 _ rfl)) (And.intro ((((F86.at 2 rfl : Sl spEnc 2 ll47 lh47 _ (.slice (some ⟨x76, o77, none⟩) (lossL cb).length lc47) (lossL cb))).cells hz78.out 1 _ rfl)) (And.intro ((((F86.at 4 rfl : Sl spEnc 2 ll41 lh41 _ (.slice (some ⟨x73, o74, none⟩) (lossL bb).length lc41) (lossL bb))).cells hz75.out 0 _ rfl)) (And.intro ((((F86.at 4 rfl : Sl spEnc 2 ll41 lh41 _ (.slice (some ⟨x73, o74, none⟩) (lossL bb).length lc41) (lossL bb))).cells hz75.out 1 _ rfl)) ((by have h_ := ((F86.at 1 rfl : Sl intEnc 1 vl53 vh53 _ (.slice (some ⟨x79, o80, none⟩) (verdL bb).length wc53) (verdL bb))).cells hz81.out 0 _ rfl; simpa using h_))))))
        refine ru_t 0 [10, 8, 3, 2] ?_
        refine ru_t 1 [10, 8, 3, 2] ?_
        refine ru_t 2 [10, 8, 3] ?_
        refine ru_t 3 [10, 8] ?_
        refine ru_t 4 [10, 8, 7, 6] ?_
        refine ru_t 5 [10, 8, 7, 6] ?_
        refine ru_t 6 [10, 8, 7] ?_
        refine ru_t 7 [10, 8] ?_
        (try simp only [Act.put, List.setIfInBounds_toArray, List.set_cons_zero, List.set_cons_succ])
        clear hS87
        refine ru_one 8 rfl (by kernel_rfl) (fun K hK => ?_)
        go_simp
        refine (in_sub (loss_sub HPR.out.sub (by omega)) _).mono ?_
        rintro e w91 ⟨rfl, hg89⟩
        have hg89s := hg89.size
        (try simp at hg89s)
        have F92 := F86.gn hg89
        clear F86
        refine ru_back hK (by exact ⟨(((F92.at 2 rfl : Sl spEnc 2 ll47 lh47 _ (.slice (some ⟨x76, o77, none⟩) (lossL cb).length lc47) (lossL cb))).cells hz78.out 0 _ rfl), (((F92.at 2 rfl : Sl spEnc 2 ll47 lh47 _ (.slice (some ⟨x76, o77, none⟩) (lossL cb).length lc47) (lossL cb))).cells hz78.out 1 _ rfl), (((F92.at 4 rfl : Sl spEnc 2 ll41 lh41 _ (.slice (some ⟨x73, o74, none⟩) (lossL bb).length lc41) (lossL bb))).cells hz75.out 0 _ rfl), (((F92.at 4 rfl : Sl spEnc 2 ll41 lh41 _ (.slice (some ⟨x73, o74, none⟩) (lossL bb).length lc41) (lossL bb))).cells hz75.out 1 _ rfl), (by have h_ := ((F92.at 1 rfl : Sl intEnc 1 vl53 vh53 _ (.slice (some ⟨x79, o80, none⟩) (verdL bb).length wc53) (verdL bb))).cells hz81.out 0 _ rfl; simpa using h_)⟩) (fun hHeld => ?_)
        clear hK K
        (try simp only [Act.put, List.setIfInBounds_toArray, List.set_cons_zero, List.set_cons_succ])
        refine ru_p 9 ?_
        (try simp only [Act.put, List.setIfInBounds_toArray, List.set_cons_zero, List.set_cons_succ])
        refine ru_p 10 ?_
        (try simp only [Act.put, List.setIfInBounds_toArray, List.set_cons_zero, List.set_cons_succ])
        refine ru_p 11 ?_
        refine ru_p 12 ?_
        (try simp only [Act.put, List.setIfInBounds_toArray, List.set_cons_zero, List.set_cons_succ])
        refine ru_p 13 ?_
        (try simp only [Act.put, List.setIfInBounds_toArray, List.set_cons_zero, List.set_cons_succ])
        refine ru_t 14 [26, 16, 15] ?_
        (try simp only [Act.put, List.setIfInBounds_toArray, List.set_cons_zero, List.set_cons_succ])
        refine ru_p 15 ?_
        (try simp only [Act.put, List.setIfInBounds_toArray, List.set_cons_zero, List.set_cons_succ])
        refine ru_p 16 ?_
        (try simp only [Act.put, List.setIfInBounds_toArray, List.set_cons_zero, List.set_cons_succ])
        refine ru_ps 17 ?_
        refine ru_ps 18 ?_
        refine ru_ps 21 ?_
        refine ru_ps 22 ?_
        (try simp only [Act.put, List.setIfInBounds_toArray, List.set_cons_zero, List.set_cons_succ])
        refine ru_ps 19 ?_
        refine ru_ps 23 ?_
        (try simp only [Act.put, List.setIfInBounds_toArray, List.set_cons_zero, List.set_cons_succ])
        refine ru_ps 20 ?_
        refine ru_ps 24 ?_
        (try simp only [Act.put, List.setIfInBounds_toArray, List.set_cons_zero, List.set_cons_succ])
        refine ru_ps 25 ?_
        (try simp only [Act.put, List.setIfInBounds_toArray, List.set_cons_zero, List.set_cons_succ])
        refine ru_p 26 ?_
        (try simp only [Act.put, List.setIfInBounds_toArray, List.set_cons_zero, List.set_cons_succ])
        refine ru_one 27 rfl (by kernel_rfl) (fun K hK => ?_)
        go_simp
        refine ru_back_late hK (by kernel_rfl) ?_
        clear hK K
        (try simp only [Act.put, List.setIfInBounds_toArray, List.set_cons_zero, List.set_cons_succ])
        refine ru_done (by kernel_rfl) ?_
        have Fn_ := F92
        (try dsimp only [List.eraseIdx_cons_succ, List.eraseIdx_cons_zero] at Fn_)
        obtain ⟨w93, hx94, F96, hxs95⟩ := Fn_.name
        (try simp at hxs95)
        rw [hx94]
        clear hx94 F92 Fn_
        go_wp2_with fail
        (first | refine ⟨by kernel_rfl, ?_, ?_⟩ | refine ⟨rfl, ?_, ?_⟩ | refine ⟨?_, ?_⟩)
        · rw [HI68.out]; exact ⟨i + 1, (by first | kernel_rfl | rfl), (by first | kernel_rfl | rfl), (by first | kernel_rfl | rfl), (by first | kernel_rfl | rfl), (by first | kernel_rfl | rfl), (by first | kernel_rfl | rfl), (by first | kernel_rfl | rfl), (by first | kernel_rfl | rfl), (by show Value.int .i64 ((i : Int) + 1) = _; simp), (by omega), (by first | rfl | simp), (by first | omega | (simp; done) | (simp; omega)), F96⟩
        · simp [slot, intOf]; omega
      · skip
        have c85a : ((verd (lossA bb i)) == 3) = false := beq_f c85
        have c85b : ((verd (lossA bb i)) != 3) = true := bne_t c85
        have c85H := Lib.hid c85
        clear c85
        have kn97 : verd (lossA cb i) = verd (lossA bb i) := (verd_sub HPR.out.sub HCG.out.ok HCT.out (by omega) c85H.out)
        have kn97H := Lib.hid kn97
        have kn97a : ((verd (lossA cb i)) == (verd (lossA bb i))) = true := beq_t kn97
        have kn97b : ((verd (lossA cb i)) != (verd (lossA bb i))) = false := bne_f kn97
        clear kn97
        go_wp2_with fail
        have F98 := hF69.drew
        clear hF69
        refine ru_begin (fun W => W.cell? ⟨x76, o77 + i * 2, none⟩ = some (.int .i64 (lossA cb i).lo) ∧ W.cell? ⟨x76, o77 + i * 2 + 1, none⟩ = some (.int .i64 (lossA cb i).hi) ∧ W.cell? ⟨x73, o74 + i * 2, none⟩ = some (.int .i64 (lossA bb i).lo) ∧ W.cell? ⟨x73, o74 + i * 2 + 1, none⟩ = some (.int .i64 (lossA bb i).hi) ∧ W.cell? ⟨x79, o80 + i, none⟩ = some (.int .i64 (verd (lossA bb i))) ∧ W.cell? ⟨x82, o83 + i, none⟩ = some (.int .i64 (verd (lossA cb i)))) 27 (by kernel_rfl) ?_ ?_
        · exact ⟨(((F98.at 2 rfl : Sl spEnc 2 ll47 lh47 _ (.slice (some ⟨x76, o77, none⟩) (lossL cb).length lc47) (lossL cb))).cells hz78.out 0 _ rfl), (((F98.at 2 rfl : Sl spEnc 2 ll47 lh47 _ (.slice (some ⟨x76, o77, none⟩) (lossL cb).length lc47) (lossL cb))).cells hz78.out 1 _ rfl), (((F98.at 4 rfl : Sl spEnc 2 ll41 lh41 _ (.slice (some ⟨x73, o74, none⟩) (lossL bb).length lc41) (lossL bb))).cells hz75.out 0 _ rfl), (((F98.at 4 rfl : Sl spEnc 2 ll41 lh41 _ (.slice (some ⟨x73, o74, none⟩) (lossL bb).length lc41) (lossL bb))).cells hz75.out 1 _ rfl), (by have h_ := ((F98.at 1 rfl : Sl intEnc 1 vl53 vh53 _ (.slice (some ⟨x79, o80, none⟩) (verdL bb).length wc53) (verdL bb))).cells hz81.out 0 _ rfl; simpa using h_), (by have h_ := ((F98.at 0 rfl : Sl intEnc 1 vl58 vh58 _ (.slice (some ⟨x82, o83, none⟩) (verdL cb).length wc58) (verdL cb))).cells hz84.out 0 _ rfl; simpa using h_)⟩
        obtain ⟨wd100, hwd_⟩ : ∃ x : World, w71.drew = x := ⟨_, rfl⟩
        rw [hwd_] at F98 ⊢
        have wd100s : w71.heap.size ≤ wd100.heap.size := by rw [← hwd_]; exact Nat.le_refl _
        clear hwd_
        have hS99 := (And.intro ((((F98.at 2 rfl : Sl spEnc 2 ll47 lh47 _ (.slice (some ⟨x76, o77, none⟩) (lossL cb).length lc47) (lossL cb))).cells hz78.out 0 _ rfl)) (And.intro ((((F98.at 2 rfl : Sl spEnc 2 ll47 lh47 _ (.slice (some ⟨x76, o77, none⟩) (lossL cb).length lc47) (lossL cb))).cells hz78.out 1 _ rfl)) (And.intro ((((F98.at 4 rfl : Sl spEnc 2 ll41 lh41 _ (.slice (some ⟨x73, o74, none⟩) (lossL bb).length lc41) (lossL bb))).cells hz75.out 0 _ rfl)) (And.intro ((((F98.at 4 rfl : Sl spEnc 2 ll41 lh41 _ (.slice (some ⟨x73, o74, none⟩) (lossL bb).length lc41) (lossL bb))).cells hz75.out 1 _ rfl)) (And.intro ((by have h_ := ((F98.at 1 rfl : Sl intEnc 1 vl53 vh53 _ (.slice (some ⟨x79, o80, none⟩) (verdL bb).length wc53) (verdL bb))).cells hz81.out 0 _ rfl; simpa using h_)) ((by have h_ := ((F98.at 0 rfl : Sl intEnc 1 vl58 vh58 _ (.slice (some ⟨x82, o83, none⟩) (verdL cb).length wc58) (verdL cb))).cells hz84.out 0 _ rfl; simpa using h_)))))))
        refine ru_t 0 [10, 8, 3, 2] ?_
        refine ru_t 1 [10, 8, 3, 2] ?_
        refine ru_t 2 [10, 8, 3] ?_
        refine ru_t 3 [10, 8] ?_
        refine ru_t 4 [10, 8, 7, 6] ?_
        refine ru_t 5 [10, 8, 7, 6] ?_
        refine ru_t 6 [10, 8, 7] ?_
        refine ru_t 7 [10, 8] ?_
        (try simp only [Act.put, List.setIfInBounds_toArray, List.set_cons_zero, List.set_cons_succ])
        clear hS99
        refine ru_one 8 rfl (by kernel_rfl) (fun K hK => ?_)
        go_simp
        refine (in_sub (loss_sub HPR.out.sub (by omega)) _).mono ?_
        rintro e w103 ⟨rfl, hg101⟩
        have hg101s := hg101.size
        (try simp at hg101s)
        have F104 := F98.gn hg101
        clear F98
        refine ru_back hK (by exact ⟨(((F104.at 2 rfl : Sl spEnc 2 ll47 lh47 _ (.slice (some ⟨x76, o77, none⟩) (lossL cb).length lc47) (lossL cb))).cells hz78.out 0 _ rfl), (((F104.at 2 rfl : Sl spEnc 2 ll47 lh47 _ (.slice (some ⟨x76, o77, none⟩) (lossL cb).length lc47) (lossL cb))).cells hz78.out 1 _ rfl), (((F104.at 4 rfl : Sl spEnc 2 ll41 lh41 _ (.slice (some ⟨x73, o74, none⟩) (lossL bb).length lc41) (lossL bb))).cells hz75.out 0 _ rfl), (((F104.at 4 rfl : Sl spEnc 2 ll41 lh41 _ (.slice (some ⟨x73, o74, none⟩) (lossL bb).length lc41) (lossL bb))).cells hz75.out 1 _ rfl), (by have h_ := ((F104.at 1 rfl : Sl intEnc 1 vl53 vh53 _ (.slice (some ⟨x79, o80, none⟩) (verdL bb).length wc53) (verdL bb))).cells hz81.out 0 _ rfl; simpa using h_), (by have h_ := ((F104.at 0 rfl : Sl intEnc 1 vl58 vh58 _ (.slice (some ⟨x82, o83, none⟩) (verdL cb).length wc58) (verdL cb))).cells hz84.out 0 _ rfl; simpa using h_)⟩) (fun hHeld => ?_)
        clear hK K
        (try simp only [Act.put, List.setIfInBounds_toArray, List.set_cons_zero, List.set_cons_succ])
        refine ru_p 9 ?_
        (try simp only [Act.put, List.setIfInBounds_toArray, List.set_cons_zero, List.set_cons_succ])
        refine ru_p 10 ?_
        (try simp only [Act.put, List.setIfInBounds_toArray, List.set_cons_zero, List.set_cons_succ])
        refine ru_p 11 ?_
        refine ru_p 12 ?_
        (try simp only [Act.put, List.setIfInBounds_toArray, List.set_cons_zero, List.set_cons_succ])
        refine ru_p 13 ?_
        (try simp only [Act.put, List.setIfInBounds_toArray, List.set_cons_zero, List.set_cons_succ])
        refine ru_t 14 [26, 16, 15] ?_
        (try simp only [Act.put, List.setIfInBounds_toArray, List.set_cons_zero, List.set_cons_succ])
        refine ru_p 15 ?_
        (try simp only [Act.put, List.setIfInBounds_toArray, List.set_cons_zero, List.set_cons_succ])
        refine ru_p 16 ?_
        (try simp only [Act.put, List.setIfInBounds_toArray, List.set_cons_zero, List.set_cons_succ])
        refine ru_p 17 ?_
        refine ru_p 18 ?_
        refine ru_p 21 ?_
        refine ru_p 22 ?_
        (try simp only [Act.put, List.setIfInBounds_toArray, List.set_cons_zero, List.set_cons_succ])
        refine ru_p 19 ?_
        refine ru_p 23 ?_
        (try simp only [Act.put, List.setIfInBounds_toArray, List.set_cons_zero, List.set_cons_succ])
        refine ru_t 20 [26, 25] ?_
        refine ru_t 24 [26, 25] ?_
        (try simp only [Act.put, List.setIfInBounds_toArray, List.set_cons_zero, List.set_cons_succ])
        refine ru_p 25 ?_
        (try simp only [Act.put, List.setIfInBounds_toArray, List.set_cons_zero, List.set_cons_succ])
        refine ru_p 26 ?_
        (try simp only [Act.put, List.setIfInBounds_toArray, List.set_cons_zero, List.set_cons_succ])
        refine ru_one 27 rfl (by kernel_rfl) (fun K hK => ?_)
        go_simp
        refine ru_back_late hK (by kernel_rfl) ?_
        clear hK K
        (try simp only [Act.put, List.setIfInBounds_toArray, List.set_cons_zero, List.set_cons_succ])
        refine ru_done (by kernel_rfl) ?_
        have Fn_ := F104
        (try dsimp only [List.eraseIdx_cons_succ, List.eraseIdx_cons_zero] at Fn_)
        obtain ⟨w105, hx106, F108, hxs107⟩ := Fn_.name
        (try simp at hxs107)
        rw [hx106]
        clear hx106 F104 Fn_
        go_wp2_with fail
        (first | refine ⟨by kernel_rfl, ?_, ?_⟩ | refine ⟨rfl, ?_, ?_⟩ | refine ⟨?_, ?_⟩)
        · rw [HI68.out]; exact ⟨i + 1, (by first | kernel_rfl | rfl), (by first | kernel_rfl | rfl), (by first | kernel_rfl | rfl), (by first | kernel_rfl | rfl), (by first | kernel_rfl | rfl), (by first | kernel_rfl | rfl), (by first | kernel_rfl | rfl), (by first | kernel_rfl | rfl), (by show Value.int .i64 ((i : Int) + 1) = _; simp), (by omega), (by first | rfl | simp), (by first | omega | (simp; done) | (simp; omega)), F108⟩
        · simp [slot, intOf]; omega
    · skip
      have c72H := Lib.hid c72
      have c72a : decide ((i : Int) < (bb.accs.length : Int)) = false := dec_f c72
      by_cases c109 : (bb.accs.length : Int) = 1
      · skip
        have c109a : ((bb.accs.length : Int) == 1) = true := beq_t c109
        have c109b : ((bb.accs.length : Int) != 1) = false := bne_f c109
        have c109H := Lib.hid c109
        clear c109
        go_wp2_with fail
        refine (awake_c _).mono ?_
        rintro e w112 ⟨rfl, hg110⟩
        have hg110s := hg110.size
        (try simp at hg110s)
        have F113 := hF69.gn hg110
        clear hF69
        clear hg110
        go_wp2_with fail
        go_ret
        exact ⟨rfl, F113.gb⟩
      · skip
        have c109a : ((bb.accs.length : Int) == 1) = false := beq_f c109
        have c109b : ((bb.accs.length : Int) != 1) = true := bne_t c109
        have c109H := Lib.hid c109
        clear c109
        have hn2 : 2 ≤ bb.accs.length := by have := c109H.out; omega
        go_wp2_with fail
        refine (below_c sb (bb.accs.length : Int) _ (hF69.at 6 rfl : SeedAt _ sb) (by omega) (by omega)).mono ?_
        rintro e w118 ⟨r114, rfl, hr115, hs117, hg116⟩
        unfold belowR at hr115
        obtain ⟨fi, rfl⟩ : ∃ fi : Nat, r114 = (fi : Int) := ⟨r114.toNat, by omega⟩
        have hfi : fi < bb.accs.length := by omega
        have hg116s := hg116.size
        (try simp at hg116s)
        have F119 := hF69.seedAt 6 rfl hg116 hs117
        clear hF69
        clear hg116
        go_wp2_with fail
        have hw120 : IntKind.i64.wrap ((bb.accs.length : Int) - 1) = (bb.accs.length : Int) - 1 := IntWalk.i64_in _ (by omega)
        have F121 := F119.drew
        clear F119
        refine ru_begin (fun W => W.cell? ⟨w15.heap.size, 0, none⟩ = some (.slice pa18 bb.accs.length pc19) ∧ W.cell? ⟨w15.heap.size, 1, none⟩ = some (.slice pa20 bb.mvs.length pc21)) 16 (by kernel_rfl) ?_ ?_
        · exact ⟨F121.cl 7 0 rfl rfl, F121.cl 7 1 rfl rfl⟩
        obtain ⟨wd123, hwd_⟩ : ∃ x : World, w118.drew = x := ⟨_, rfl⟩
        rw [hwd_] at F121 ⊢
        have wd123s : w118.heap.size ≤ wd123.heap.size := by rw [← hwd_]; exact Nat.le_refl _
        clear hwd_
        have hS122 := (And.intro (F121.cl 7 0 rfl rfl) (F121.cl 7 1 rfl rfl))
        refine ru_t 0 [] ?_
        refine ru_t 1 [] ?_
        refine ru_t 2 [] ?_
        refine ru_t 3 [] ?_
        refine ru_t 4 [] ?_
        refine ru_t 5 [] ?_
        refine ru_t 8 [] ?_
        (try simp only [Act.put, List.setIfInBounds_toArray, List.set_cons_zero, List.set_cons_succ])
        clear hS122
        refine ru_two 6 15 rfl rfl (by kernel_rfl) ?_ ?_
        · intro K hK
          go_simp
          refine (from_c sb 1 ((bb.accs.length : Int) - 1) _ (F121.at 6 rfl : SeedAt _ sb) (by omega) (by omega) (by omega) (by omega)).mono ?_
          rintro e w126 ⟨qf, rfl, hqf, hs125, hg124⟩
          unfold fromR at hqf
          have hg124s := hg124.size
          (try simp at hg124s)
          have F127 := F121.seedAt 6 rfl hg124 hs125
          clear F121
          refine ru_back hK (by exact ⟨F127.cl 7 0 rfl rfl, F127.cl 7 1 rfl rfl⟩) (fun hHeld => ?_)
          clear hK K
          (try simp only [Act.put, List.setIfInBounds_toArray, List.set_cons_zero, List.set_cons_succ])
          have hw128 : IntKind.i64.wrap ((fi : Int) + qf) = (fi : Int) + qf := IntWalk.i64_in _ (by omega)
          refine ru_p 7 ?_
          (try simp only [Act.put, List.setIfInBounds_toArray, List.set_cons_zero, List.set_cons_succ])
          refine ru_two 9 15 rfl rfl (by kernel_rfl) ?_ ?_
          · intro K hK
            go_simp
            refine ((wrap_c ((fi : Int) + qf) (bb.accs.length : Int) _ (by omega) (by omega)).mono (fun _ _ h_ => wrap_k h_ hfi (by omega))).mono ?_
            rintro e w131 ⟨ti, rfl, hti1, hti2, hg129⟩
            obtain ⟨mm, hmm_⟩ : ∃ z_ : Mv, (⟨(fi : Int), (ti : Int), ⟨0, 0⟩⟩ : Mv) = z_ := ⟨_, rfl⟩
            have HMM : Hid (mm.li = ⟨0, 0⟩) := Lib.hid (by rw [← hmm_])
            have HMV : Hid (mvEnc mm = [.int .i64 (fi : Int), .int .i64 (ti : Int), .int .i64 0, .int .i64 0]) := Lib.hid (by rw [← hmm_]; rfl)
            have HCM : Hid (checkE (addM bb mm) = 0) := Lib.hid (HBG.out.addCheck HTI.out HMM.out (by omega) (by rw [← hmm_]; show (0 : Int) ≤ fi ∧ (fi : Int) < _; omega) (by rw [← hmm_]; show (0 : Int) ≤ ti ∧ (ti : Int) < _; omega) (by rw [← hmm_]; show (fi : Int) ≠ ti; omega))
            clear hmm_
            have hg129s := hg129.size
            (try simp at hg129s)
            have F132 := F127.gn hg129
            clear F127
            refine ru_back hK (by exact ⟨F132.cl 7 0 rfl rfl, F132.cl 7 1 rfl rfl⟩) (fun hHeld => ?_)
            clear hK K
            (try simp only [Act.put, List.setIfInBounds_toArray, List.set_cons_zero, List.set_cons_succ])
            refine ru_p 10 ?_
            (try simp only [Act.put, List.setIfInBounds_toArray, List.set_cons_zero, List.set_cons_succ])
            refine ru_two 11 15 rfl rfl (by kernel_rfl) ?_ ?_
            · intro K hK
              go_simp
              refine (fpost_m _ _ _ _ _ _ bb mm (fi : Int) (ti : Int) 0 0 _ HMV.out (Own.sl (F132.at 8 rfl : Own accEnc 79 6 w12.heap.size _ (.slice pa18 bb.accs.length pc19) bb.accs) (fun _ => rfl)) (Own.sl (F132.at 9 rfl : Own mvEnc 76 4 w12.heap.size _ (.slice pa20 bb.mvs.length pc21) bb.mvs) (fun _ => rfl)) (Nat.le_refl _) (Nat.le_refl _) HNB.out HCB.out HCM.out (by omega) (by omega)).mono ?_
              rintro e w135 ⟨ma1, mc1, ma2, mc2, ml_, mh_, rfl, ⟨mx_, my_⟩, mz_, hg133⟩
              have hg133s := hg133.size
              (try simp at hg133s)
              have F136 := F132.add (rbook ml_ mh_ (.slice ma1 bb.accs.length mc1) (.slice ma2 (bb.mvs.length + 1) mc2) (addM bb mm)) hg133 (mz_) (fun g e => ⟨Nat.le_trans mx_ e.1, Nat.lt_of_lt_of_le e.2 my_⟩)
              clear F132
              refine ru_back hK (by exact ⟨F136.cl 8 0 rfl rfl, F136.cl 8 1 rfl rfl⟩) (fun hHeld => ?_)
              clear hK K
              (try simp only [Act.put, List.setIfInBounds_toArray, List.set_cons_zero, List.set_cons_succ])
              refine ru_p 12 ?_
              (try simp only [Act.put, List.setIfInBounds_toArray, List.set_cons_zero, List.set_cons_succ])
              refine ru_p 13 ?_
              refine ru_p 14 ?_
              (try simp only [Act.put, List.setIfInBounds_toArray, List.set_cons_zero, List.set_cons_succ])
              refine ru_one 15 rfl (by kernel_rfl) (fun K hK => ?_)
              go_simp
              have F137 := F136.new 25 #[.slice none 0 0, .slice none 0 0] (n := w135.heap.size) (by simp)
              clear F136
              refine ru_back hK (by exact ⟨F137.cl 9 0 rfl rfl, F137.cl 9 1 rfl rfl⟩) (fun hHeld => ?_)
              clear hK K
              (try simp only [Act.put, List.setIfInBounds_toArray, List.set_cons_zero, List.set_cons_succ])
              refine ru_one 16 rfl (by kernel_rfl) (fun K hK => ?_)
              have Fn_ := F137
              (try dsimp only [List.eraseIdx_cons_succ, List.eraseIdx_cons_zero] at Fn_)
              obtain ⟨w138, hx139, F141, hxs140⟩ := Fn_.name
              (try simp at hxs140)
              rw [hx139]
              clear hx139 F137 Fn_
              have kb_ := F141.bx2 0 rfl
              go_simp
              clear kb_
              have F142 := F141.pt2 (.slice ma1 bb.accs.length mc1) (.slice ma2 (bb.mvs.length + 1) mc2)
              clear F141
              refine ru_back_late hK (by kernel_rfl) ?_
              clear hK K
              (try simp only [Act.put, List.setIfInBounds_toArray, List.set_cons_zero, List.set_cons_succ])
              refine ru_one 17 rfl (by kernel_rfl) (fun K hK => ?_)
              go_simp
              refine ru_back_late hK (by kernel_rfl) ?_
              clear hK K
              (try simp only [Act.put, List.setIfInBounds_toArray, List.set_cons_zero, List.set_cons_succ])
              refine ru_done (by kernel_rfl) ?_
              (try clear hw120 hw128)
              have Fn_ := (F142.drop 9 rfl)
              (try dsimp only [List.eraseIdx_cons_succ, List.eraseIdx_cons_zero] at Fn_)
              obtain ⟨w143, hx144, F146, hxs145⟩ := Fn_.name
              (try simp at hxs145)
              rw [hx144]
              clear hx144 F142 Fn_
              have b147 := F146.bx2 0 rfl
              go_wp2_with fail
              clear b147
              refine (losses_ok _ _ _ _ _ _ (addM bb mm) _ ((F146.at 1 rfl : HasB ml_ mh_ _ (.slice ma1 bb.accs.length mc1) (.slice ma2 (bb.mvs.length + 1) mc2) (addM bb mm))).1 ((F146.at 1 rfl : HasB ml_ mh_ _ (.slice ma1 bb.accs.length mc1) (.slice ma2 (bb.mvs.length + 1) mc2) (addM bb mm))).2 HNB.out (by first | omega | (simp; omega)) (by first | omega | (simp; omega)) HCM.out (lossL bb) (lossT bb) (lossL_add HMM.out) (lossT_add HMM.out)).mono ?_
              rintro e w150 ⟨la164, lc164, ll164, lh164, rfl, ⟨lx164, ly164⟩, lz164, hg148⟩
              have hg148s := hg148.size
              (try simp at hg148s)
              have F151 := F146.add (rsl spEnc 2 ll164 lh164 (.slice la164 (lossL bb).length lc164) (lossL bb)) hg148 (lz164) (fun g e => ⟨Nat.le_trans lx164 e.1, Nat.lt_of_lt_of_le e.2 ly164⟩)
              clear F146
              clear hg148
              have b152 := F151.bx2 6 rfl
              go_wp2_with fail
              clear b152
              have F153 := F151.new 40 #[.int .i64 ((lossT bb).lo), .int .i64 ((lossT bb).hi)] (n := w150.heap.size) (by simp)
              clear F151
              refine (sameSpans_t _ _ _ _ _ _ (lossL bb) _ (F153.at 8 rfl : Sl spEnc 2 ll41 lh41 _ (.slice la41 (lossL bb).length lc41) (lossL bb)) (F153.at 1 rfl : Sl spEnc 2 ll164 lh164 _ (.slice la164 (lossL bb).length lc164) (lossL bb))).mono ?_
              rintro e w156 ⟨rfl, hg154⟩
              have hg154s := hg154.size
              (try simp at hg154s)
              have F157 := F153.gn hg154
              clear F153
              clear hg154
              go_wp2_with fail
              refine (awake_c _).mono ?_
              rintro e w160 ⟨rfl, hg158⟩
              have hg158s := hg158.size
              (try simp at hg158s)
              have F161 := F157.gn hg158
              clear F157
              clear hg158
              go_wp2_with fail
              go_ret
              exact ⟨rfl, F161.gb⟩
            · intro K hK
              go_simp
              have F162 := F132.new 25 #[.slice none 0 0, .slice none 0 0] (n := w131.heap.size) (by simp)
              clear F132
              refine ru_back hK (by exact ⟨F162.cl 8 0 rfl rfl, F162.cl 8 1 rfl rfl⟩) (fun hHeld => ?_)
              clear hK K
              (try simp only [Act.put, List.setIfInBounds_toArray, List.set_cons_zero, List.set_cons_succ])
              refine ru_one 11 rfl (by kernel_rfl) (fun K hK => ?_)
              go_simp
              refine (fpost_m _ _ _ _ _ _ bb mm (fi : Int) (ti : Int) 0 0 _ HMV.out (Own.sl (F162.at 9 rfl : Own accEnc 79 6 w12.heap.size _ (.slice pa18 bb.accs.length pc19) bb.accs) (fun _ => rfl)) (Own.sl (F162.at 10 rfl : Own mvEnc 76 4 w12.heap.size _ (.slice pa20 bb.mvs.length pc21) bb.mvs) (fun _ => rfl)) (Nat.le_refl _) (Nat.le_refl _) HNB.out HCB.out HCM.out (by omega) (by omega)).mono ?_
              rintro e w165 ⟨ma1, mc1, ma2, mc2, ml_, mh_, rfl, ⟨mx_, my_⟩, mz_, hg163⟩
              have hg163s := hg163.size
              (try simp at hg163s)
              have F166 := F162.add (rbook ml_ mh_ (.slice ma1 bb.accs.length mc1) (.slice ma2 (bb.mvs.length + 1) mc2) (addM bb mm)) hg163 (mz_) (fun g e => ⟨Nat.le_trans mx_ e.1, Nat.lt_of_lt_of_le e.2 my_⟩)
              clear F162
              refine ru_back hK (by exact ⟨F166.cl 9 0 rfl rfl, F166.cl 9 1 rfl rfl⟩) (fun hHeld => ?_)
              clear hK K
              (try simp only [Act.put, List.setIfInBounds_toArray, List.set_cons_zero, List.set_cons_succ])
              refine ru_p 12 ?_
              (try simp only [Act.put, List.setIfInBounds_toArray, List.set_cons_zero, List.set_cons_succ])
              refine ru_p 13 ?_
              refine ru_p 14 ?_
              (try simp only [Act.put, List.setIfInBounds_toArray, List.set_cons_zero, List.set_cons_succ])
              refine ru_one 16 rfl (by kernel_rfl) (fun K hK => ?_)
              have kb_ := F166.bx2 1 rfl
              go_simp
              clear kb_
              have F167 := (F166.front 1 rfl rfl).pt2 (.slice ma1 bb.accs.length mc1) (.slice ma2 (bb.mvs.length + 1) mc2)
              clear F166
              refine ru_back_late hK (by kernel_rfl) ?_
              clear hK K
              (try simp only [Act.put, List.setIfInBounds_toArray, List.set_cons_zero, List.set_cons_succ])
              refine ru_one 17 rfl (by kernel_rfl) (fun K hK => ?_)
              go_simp
              refine ru_back_late hK (by kernel_rfl) ?_
              clear hK K
              (try simp only [Act.put, List.setIfInBounds_toArray, List.set_cons_zero, List.set_cons_succ])
              refine ru_done (by kernel_rfl) ?_
              (try clear hw120 hw128)
              have Fn_ := (F167.drop 9 rfl)
              (try dsimp only [List.eraseIdx_cons_succ, List.eraseIdx_cons_zero] at Fn_)
              obtain ⟨w168, hx169, F171, hxs170⟩ := Fn_.name
              (try simp at hxs170)
              rw [hx169]
              clear hx169 F167 Fn_
              have b172 := F171.bx2 0 rfl
              go_wp2_with fail
              clear b172
              refine (losses_ok _ _ _ _ _ _ (addM bb mm) _ ((F171.at 1 rfl : HasB ml_ mh_ _ (.slice ma1 bb.accs.length mc1) (.slice ma2 (bb.mvs.length + 1) mc2) (addM bb mm))).1 ((F171.at 1 rfl : HasB ml_ mh_ _ (.slice ma1 bb.accs.length mc1) (.slice ma2 (bb.mvs.length + 1) mc2) (addM bb mm))).2 HNB.out (by first | omega | (simp; omega)) (by first | omega | (simp; omega)) HCM.out (lossL bb) (lossT bb) (lossL_add HMM.out) (lossT_add HMM.out)).mono ?_
              rintro e w175 ⟨la164, lc164, ll164, lh164, rfl, ⟨lx164, ly164⟩, lz164, hg173⟩
              have hg173s := hg173.size
              (try simp at hg173s)
              have F176 := F171.add (rsl spEnc 2 ll164 lh164 (.slice la164 (lossL bb).length lc164) (lossL bb)) hg173 (lz164) (fun g e => ⟨Nat.le_trans lx164 e.1, Nat.lt_of_lt_of_le e.2 ly164⟩)
              clear F171
              clear hg173
              have b177 := F176.bx2 6 rfl
              go_wp2_with fail
              clear b177
              have F178 := F176.new 40 #[.int .i64 ((lossT bb).lo), .int .i64 ((lossT bb).hi)] (n := w175.heap.size) (by simp)
              clear F176
              refine (sameSpans_t _ _ _ _ _ _ (lossL bb) _ (F178.at 8 rfl : Sl spEnc 2 ll41 lh41 _ (.slice la41 (lossL bb).length lc41) (lossL bb)) (F178.at 1 rfl : Sl spEnc 2 ll164 lh164 _ (.slice la164 (lossL bb).length lc164) (lossL bb))).mono ?_
              rintro e w181 ⟨rfl, hg179⟩
              have hg179s := hg179.size
              (try simp at hg179s)
              have F182 := F178.gn hg179
              clear F178
              clear hg179
              go_wp2_with fail
              refine (awake_c _).mono ?_
              rintro e w185 ⟨rfl, hg183⟩
              have hg183s := hg183.size
              (try simp at hg183s)
              have F186 := F182.gn hg183
              clear F182
              clear hg183
              go_wp2_with fail
              go_ret
              exact ⟨rfl, F186.gb⟩
          · intro K hK
            go_simp
            have F187 := F127.new 25 #[.slice none 0 0, .slice none 0 0] (n := w126.heap.size) (by simp)
            clear F127
            refine ru_back hK (by exact ⟨F187.cl 8 0 rfl rfl, F187.cl 8 1 rfl rfl⟩) (fun hHeld => ?_)
            clear hK K
            (try simp only [Act.put, List.setIfInBounds_toArray, List.set_cons_zero, List.set_cons_succ])
            refine ru_one 9 rfl (by kernel_rfl) (fun K hK => ?_)
            go_simp
            refine ((wrap_c ((fi : Int) + qf) (bb.accs.length : Int) _ (by omega) (by omega)).mono (fun _ _ h_ => wrap_k h_ hfi (by omega))).mono ?_
            rintro e w190 ⟨ti, rfl, hti1, hti2, hg188⟩
            obtain ⟨mm, hmm_⟩ : ∃ z_ : Mv, (⟨(fi : Int), (ti : Int), ⟨0, 0⟩⟩ : Mv) = z_ := ⟨_, rfl⟩
            have HMM : Hid (mm.li = ⟨0, 0⟩) := Lib.hid (by rw [← hmm_])
            have HMV : Hid (mvEnc mm = [.int .i64 (fi : Int), .int .i64 (ti : Int), .int .i64 0, .int .i64 0]) := Lib.hid (by rw [← hmm_]; rfl)
            have HCM : Hid (checkE (addM bb mm) = 0) := Lib.hid (HBG.out.addCheck HTI.out HMM.out (by omega) (by rw [← hmm_]; show (0 : Int) ≤ fi ∧ (fi : Int) < _; omega) (by rw [← hmm_]; show (0 : Int) ≤ ti ∧ (ti : Int) < _; omega) (by rw [← hmm_]; show (fi : Int) ≠ ti; omega))
            clear hmm_
            have hg188s := hg188.size
            (try simp at hg188s)
            have F191 := F187.gn hg188
            clear F187
            refine ru_back hK (by exact ⟨F191.cl 8 0 rfl rfl, F191.cl 8 1 rfl rfl⟩) (fun hHeld => ?_)
            clear hK K
            (try simp only [Act.put, List.setIfInBounds_toArray, List.set_cons_zero, List.set_cons_succ])
            refine ru_p 10 ?_
            (try simp only [Act.put, List.setIfInBounds_toArray, List.set_cons_zero, List.set_cons_succ])
            refine ru_one 11 rfl (by kernel_rfl) (fun K hK => ?_)
            go_simp
            refine (fpost_m _ _ _ _ _ _ bb mm (fi : Int) (ti : Int) 0 0 _ HMV.out (Own.sl (F191.at 9 rfl : Own accEnc 79 6 w12.heap.size _ (.slice pa18 bb.accs.length pc19) bb.accs) (fun _ => rfl)) (Own.sl (F191.at 10 rfl : Own mvEnc 76 4 w12.heap.size _ (.slice pa20 bb.mvs.length pc21) bb.mvs) (fun _ => rfl)) (Nat.le_refl _) (Nat.le_refl _) HNB.out HCB.out HCM.out (by omega) (by omega)).mono ?_
            rintro e w194 ⟨ma1, mc1, ma2, mc2, ml_, mh_, rfl, ⟨mx_, my_⟩, mz_, hg192⟩
            have hg192s := hg192.size
            (try simp at hg192s)
            have F195 := F191.add (rbook ml_ mh_ (.slice ma1 bb.accs.length mc1) (.slice ma2 (bb.mvs.length + 1) mc2) (addM bb mm)) hg192 (mz_) (fun g e => ⟨Nat.le_trans mx_ e.1, Nat.lt_of_lt_of_le e.2 my_⟩)
            clear F191
            refine ru_back hK (by exact ⟨F195.cl 9 0 rfl rfl, F195.cl 9 1 rfl rfl⟩) (fun hHeld => ?_)
            clear hK K
            (try simp only [Act.put, List.setIfInBounds_toArray, List.set_cons_zero, List.set_cons_succ])
            refine ru_p 12 ?_
            (try simp only [Act.put, List.setIfInBounds_toArray, List.set_cons_zero, List.set_cons_succ])
            refine ru_p 13 ?_
            refine ru_p 14 ?_
            (try simp only [Act.put, List.setIfInBounds_toArray, List.set_cons_zero, List.set_cons_succ])
            refine ru_one 16 rfl (by kernel_rfl) (fun K hK => ?_)
            have kb_ := F195.bx2 1 rfl
            go_simp
            clear kb_
            have F196 := (F195.front 1 rfl rfl).pt2 (.slice ma1 bb.accs.length mc1) (.slice ma2 (bb.mvs.length + 1) mc2)
            clear F195
            refine ru_back_late hK (by kernel_rfl) ?_
            clear hK K
            (try simp only [Act.put, List.setIfInBounds_toArray, List.set_cons_zero, List.set_cons_succ])
            refine ru_one 17 rfl (by kernel_rfl) (fun K hK => ?_)
            go_simp
            refine ru_back_late hK (by kernel_rfl) ?_
            clear hK K
            (try simp only [Act.put, List.setIfInBounds_toArray, List.set_cons_zero, List.set_cons_succ])
            refine ru_done (by kernel_rfl) ?_
            (try clear hw120 hw128)
            have Fn_ := (F196.drop 9 rfl)
            (try dsimp only [List.eraseIdx_cons_succ, List.eraseIdx_cons_zero] at Fn_)
            obtain ⟨w197, hx198, F200, hxs199⟩ := Fn_.name
            (try simp at hxs199)
            rw [hx198]
            clear hx198 F196 Fn_
            have b201 := F200.bx2 0 rfl
            go_wp2_with fail
            clear b201
            refine (losses_ok _ _ _ _ _ _ (addM bb mm) _ ((F200.at 1 rfl : HasB ml_ mh_ _ (.slice ma1 bb.accs.length mc1) (.slice ma2 (bb.mvs.length + 1) mc2) (addM bb mm))).1 ((F200.at 1 rfl : HasB ml_ mh_ _ (.slice ma1 bb.accs.length mc1) (.slice ma2 (bb.mvs.length + 1) mc2) (addM bb mm))).2 HNB.out (by first | omega | (simp; omega)) (by first | omega | (simp; omega)) HCM.out (lossL bb) (lossT bb) (lossL_add HMM.out) (lossT_add HMM.out)).mono ?_
            rintro e w204 ⟨la164, lc164, ll164, lh164, rfl, ⟨lx164, ly164⟩, lz164, hg202⟩
            have hg202s := hg202.size
            (try simp at hg202s)
            have F205 := F200.add (rsl spEnc 2 ll164 lh164 (.slice la164 (lossL bb).length lc164) (lossL bb)) hg202 (lz164) (fun g e => ⟨Nat.le_trans lx164 e.1, Nat.lt_of_lt_of_le e.2 ly164⟩)
            clear F200
            clear hg202
            have b206 := F205.bx2 6 rfl
            go_wp2_with fail
            clear b206
            have F207 := F205.new 40 #[.int .i64 ((lossT bb).lo), .int .i64 ((lossT bb).hi)] (n := w204.heap.size) (by simp)
            clear F205
            refine (sameSpans_t _ _ _ _ _ _ (lossL bb) _ (F207.at 8 rfl : Sl spEnc 2 ll41 lh41 _ (.slice la41 (lossL bb).length lc41) (lossL bb)) (F207.at 1 rfl : Sl spEnc 2 ll164 lh164 _ (.slice la164 (lossL bb).length lc164) (lossL bb))).mono ?_
            rintro e w210 ⟨rfl, hg208⟩
            have hg208s := hg208.size
            (try simp at hg208s)
            have F211 := F207.gn hg208
            clear F207
            clear hg208
            go_wp2_with fail
            refine (awake_c _).mono ?_
            rintro e w214 ⟨rfl, hg212⟩
            have hg212s := hg212.size
            (try simp at hg212s)
            have F215 := F211.gn hg212
            clear F211
            clear hg212
            go_wp2_with fail
            go_ret
            exact ⟨rfl, F215.gb⟩
        · intro K hK
          go_simp
          have F216 := F121.new 25 #[.slice none 0 0, .slice none 0 0] (n := wd123.heap.size) (by simp)
          clear F121
          refine ru_back hK (by exact ⟨F216.cl 8 0 rfl rfl, F216.cl 8 1 rfl rfl⟩) (fun hHeld => ?_)
          clear hK K
          (try simp only [Act.put, List.setIfInBounds_toArray, List.set_cons_zero, List.set_cons_succ])
          refine ru_one 6 rfl (by kernel_rfl) (fun K hK => ?_)
          go_simp
          refine (from_c sb 1 ((bb.accs.length : Int) - 1) _ (F216.at 7 rfl : SeedAt _ sb) (by omega) (by omega) (by omega) (by omega)).mono ?_
          rintro e w219 ⟨qf, rfl, hqf, hs218, hg217⟩
          unfold fromR at hqf
          have hg217s := hg217.size
          (try simp at hg217s)
          have F220 := F216.seedAt 7 rfl hg217 hs218
          clear F216
          refine ru_back hK (by exact ⟨F220.cl 8 0 rfl rfl, F220.cl 8 1 rfl rfl⟩) (fun hHeld => ?_)
          clear hK K
          (try simp only [Act.put, List.setIfInBounds_toArray, List.set_cons_zero, List.set_cons_succ])
          have hw221 : IntKind.i64.wrap ((fi : Int) + qf) = (fi : Int) + qf := IntWalk.i64_in _ (by omega)
          refine ru_p 7 ?_
          (try simp only [Act.put, List.setIfInBounds_toArray, List.set_cons_zero, List.set_cons_succ])
          refine ru_one 9 rfl (by kernel_rfl) (fun K hK => ?_)
          go_simp
          refine ((wrap_c ((fi : Int) + qf) (bb.accs.length : Int) _ (by omega) (by omega)).mono (fun _ _ h_ => wrap_k h_ hfi (by omega))).mono ?_
          rintro e w224 ⟨ti, rfl, hti1, hti2, hg222⟩
          obtain ⟨mm, hmm_⟩ : ∃ z_ : Mv, (⟨(fi : Int), (ti : Int), ⟨0, 0⟩⟩ : Mv) = z_ := ⟨_, rfl⟩
          have HMM : Hid (mm.li = ⟨0, 0⟩) := Lib.hid (by rw [← hmm_])
          have HMV : Hid (mvEnc mm = [.int .i64 (fi : Int), .int .i64 (ti : Int), .int .i64 0, .int .i64 0]) := Lib.hid (by rw [← hmm_]; rfl)
          have HCM : Hid (checkE (addM bb mm) = 0) := Lib.hid (HBG.out.addCheck HTI.out HMM.out (by omega) (by rw [← hmm_]; show (0 : Int) ≤ fi ∧ (fi : Int) < _; omega) (by rw [← hmm_]; show (0 : Int) ≤ ti ∧ (ti : Int) < _; omega) (by rw [← hmm_]; show (fi : Int) ≠ ti; omega))
          clear hmm_
          have hg222s := hg222.size
          (try simp at hg222s)
          have F225 := F220.gn hg222
          clear F220
          refine ru_back hK (by exact ⟨F225.cl 8 0 rfl rfl, F225.cl 8 1 rfl rfl⟩) (fun hHeld => ?_)
          clear hK K
          (try simp only [Act.put, List.setIfInBounds_toArray, List.set_cons_zero, List.set_cons_succ])
          refine ru_p 10 ?_
          (try simp only [Act.put, List.setIfInBounds_toArray, List.set_cons_zero, List.set_cons_succ])
          refine ru_one 11 rfl (by kernel_rfl) (fun K hK => ?_)
          go_simp
          refine (fpost_m _ _ _ _ _ _ bb mm (fi : Int) (ti : Int) 0 0 _ HMV.out (Own.sl (F225.at 9 rfl : Own accEnc 79 6 w12.heap.size _ (.slice pa18 bb.accs.length pc19) bb.accs) (fun _ => rfl)) (Own.sl (F225.at 10 rfl : Own mvEnc 76 4 w12.heap.size _ (.slice pa20 bb.mvs.length pc21) bb.mvs) (fun _ => rfl)) (Nat.le_refl _) (Nat.le_refl _) HNB.out HCB.out HCM.out (by omega) (by omega)).mono ?_
          rintro e w228 ⟨ma1, mc1, ma2, mc2, ml_, mh_, rfl, ⟨mx_, my_⟩, mz_, hg226⟩
          have hg226s := hg226.size
          (try simp at hg226s)
          have F229 := F225.add (rbook ml_ mh_ (.slice ma1 bb.accs.length mc1) (.slice ma2 (bb.mvs.length + 1) mc2) (addM bb mm)) hg226 (mz_) (fun g e => ⟨Nat.le_trans mx_ e.1, Nat.lt_of_lt_of_le e.2 my_⟩)
          clear F225
          refine ru_back hK (by exact ⟨F229.cl 9 0 rfl rfl, F229.cl 9 1 rfl rfl⟩) (fun hHeld => ?_)
          clear hK K
          (try simp only [Act.put, List.setIfInBounds_toArray, List.set_cons_zero, List.set_cons_succ])
          refine ru_p 12 ?_
          (try simp only [Act.put, List.setIfInBounds_toArray, List.set_cons_zero, List.set_cons_succ])
          refine ru_p 13 ?_
          refine ru_p 14 ?_
          (try simp only [Act.put, List.setIfInBounds_toArray, List.set_cons_zero, List.set_cons_succ])
          refine ru_one 16 rfl (by kernel_rfl) (fun K hK => ?_)
          have kb_ := F229.bx2 1 rfl
          go_simp
          clear kb_
          have F230 := (F229.front 1 rfl rfl).pt2 (.slice ma1 bb.accs.length mc1) (.slice ma2 (bb.mvs.length + 1) mc2)
          clear F229
          refine ru_back_late hK (by kernel_rfl) ?_
          clear hK K
          (try simp only [Act.put, List.setIfInBounds_toArray, List.set_cons_zero, List.set_cons_succ])
          refine ru_one 17 rfl (by kernel_rfl) (fun K hK => ?_)
          go_simp
          refine ru_back_late hK (by kernel_rfl) ?_
          clear hK K
          (try simp only [Act.put, List.setIfInBounds_toArray, List.set_cons_zero, List.set_cons_succ])
          refine ru_done (by kernel_rfl) ?_
          (try clear hw120 hw128 hw221)
          have Fn_ := (F230.drop 9 rfl)
          (try dsimp only [List.eraseIdx_cons_succ, List.eraseIdx_cons_zero] at Fn_)
          obtain ⟨w231, hx232, F234, hxs233⟩ := Fn_.name
          (try simp at hxs233)
          rw [hx232]
          clear hx232 F230 Fn_
          have b235 := F234.bx2 0 rfl
          go_wp2_with fail
          clear b235
          refine (losses_ok _ _ _ _ _ _ (addM bb mm) _ ((F234.at 1 rfl : HasB ml_ mh_ _ (.slice ma1 bb.accs.length mc1) (.slice ma2 (bb.mvs.length + 1) mc2) (addM bb mm))).1 ((F234.at 1 rfl : HasB ml_ mh_ _ (.slice ma1 bb.accs.length mc1) (.slice ma2 (bb.mvs.length + 1) mc2) (addM bb mm))).2 HNB.out (by first | omega | (simp; omega)) (by first | omega | (simp; omega)) HCM.out (lossL bb) (lossT bb) (lossL_add HMM.out) (lossT_add HMM.out)).mono ?_
          rintro e w238 ⟨la164, lc164, ll164, lh164, rfl, ⟨lx164, ly164⟩, lz164, hg236⟩
          have hg236s := hg236.size
          (try simp at hg236s)
          have F239 := F234.add (rsl spEnc 2 ll164 lh164 (.slice la164 (lossL bb).length lc164) (lossL bb)) hg236 (lz164) (fun g e => ⟨Nat.le_trans lx164 e.1, Nat.lt_of_lt_of_le e.2 ly164⟩)
          clear F234
          clear hg236
          have b240 := F239.bx2 6 rfl
          go_wp2_with fail
          clear b240
          have F241 := F239.new 40 #[.int .i64 ((lossT bb).lo), .int .i64 ((lossT bb).hi)] (n := w238.heap.size) (by simp)
          clear F239
          refine (sameSpans_t _ _ _ _ _ _ (lossL bb) _ (F241.at 8 rfl : Sl spEnc 2 ll41 lh41 _ (.slice la41 (lossL bb).length lc41) (lossL bb)) (F241.at 1 rfl : Sl spEnc 2 ll164 lh164 _ (.slice la164 (lossL bb).length lc164) (lossL bb))).mono ?_
          rintro e w244 ⟨rfl, hg242⟩
          have hg242s := hg242.size
          (try simp at hg242s)
          have F245 := F241.gn hg242
          clear F241
          clear hg242
          go_wp2_with fail
          refine (awake_c _).mono ?_
          rintro e w248 ⟨rfl, hg246⟩
          have hg246s := hg246.size
          (try simp at hg246s)
          have F249 := F245.gn hg246
          clear F245
          clear hg246
          go_wp2_with fail
          go_ret
          exact ⟨rfl, F249.gb⟩
  case atStart1 =>
    rw [HI68.out]
    exact ⟨0, (by first | kernel_rfl | rfl), (by first | kernel_rfl | rfl), (by first | kernel_rfl | rfl), (by first | kernel_rfl | rfl), (by first | kernel_rfl | rfl), (by first | kernel_rfl | rfl), (by first | kernel_rfl | rfl), (by first | kernel_rfl | rfl), rfl, Nat.zero_le _, rfl, (by first | exact Nat.le_refl _ | omega | (simp; done) | (simp; omega)), ((((F67.drop 2 rfl).drop 5 rfl).drop 7 rfl).drop 13 rfl)⟩

end Go.Proofs.Ytfifldbinnkdmaa
